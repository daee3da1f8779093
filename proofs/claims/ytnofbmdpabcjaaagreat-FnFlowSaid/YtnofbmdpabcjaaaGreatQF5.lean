/- Vo, Wa, Wb, Sv, Sw, Xa, Xb, Xc: texts of this claim, joined; what the claim does not come to is left out. -/
import Derived.Test.YtnofbmdpabcjaaaGreatQF4
import Derived.Test.YtnofbmdpabcjaaaGreatProg
set_option linter.unusedVariables false
set_option linter.unusedSimpArgs false
namespace Go.Proofs.YtnofbmdpabcjaaaGreat
open Go Go.RowKit
set_option linter.unusedVariables false
set_option linter.unusedSimpArgs false
set_option maxHeartbeats 4000000
set_option maxRecDepth 100000
attribute [local irreducible] LW
theorem s_value : ∀ F d, SV F d := by
  intro F
  induction F using Nat.strongRecOn with
  | _ F ihF =>
    intro d
    induction d using Nat.strongRecOn with
    | _ d ihd =>
      intro w S g pp dp n s0 c0 p ve ex vv env hS hgS hB0 hp hn hs0 hc0 hex henv hqenv hvp hF hwf hse hdp
      exact c_spec_l02Run_expr w S F g pp dp n s0 c0 p d ve ex vv env hS hgS hB0 hp hn hs0 hc0 hex henv hqenv hvp hF hwf hse hdp ihF ihd
theorem s_outs (F : Nat) : SO F := c_outs F fun d => s_value F d
theorem c_spec_l03Eval (w : World) (dp : Nat) (vp : Value) (p : List Fn) (f : Int) (va : Value) (a : List (List Int)) (n : Nat) (hp : RN [] (rP (rPr dp)) w.heap vp p) (_hf : -9223372036854775808 ≤ f ∧ f ≤ 9223372036854775807) (ha : RN [] (rdL (rdL rI)) w.heap va a) (hqa : CapS va) (hvp : VPr p) (hf : 0 ≤ f ∧ f < ((p.length :Nat):Int)) (hl : ((a.length :Nat):Int) = (p.getD f.toNat Fn.zero).params) (hse : SrE n a) (hn : 1 ≤ n ∧ n ≤ 13) :
  Calls Tryz.prog 65 #[vp,.int .i64 f,va,.int .i64 ((n :Nat):Int)] w (fun e w' => ∃ v0 : Value,e = .returned (.tuple #[v0,.int .i64 (evD p n f.toNat a)]) ∧ Ext w w' ∧ Fr (owL (owL rI 2) 25) w.heap.size w'.heap.size w'.heap v0 (evR p n f.toNat a) ∧ EvP p n f.toNat a) := by
 refine calls_mk [vp,.int .i64 f,va,.int .i64 ((n :Nat):Int)] 53 Tryz.func65 rfl rfl sM ?_
 have hE0 : Ext w w := Ext.refl w
 have hl_va := ha.lenL
 unfold maxLen at hl_va
 refine wp_seq (wp_plain _ [0,0] rfl (lw_tvn 2 rfl (wp_seq (wp_plain _ [0,0,0,3,0] rfl (lw_tv 2 rfl ?_)))))
 have hbd1 : ∀ (vp : Value) (hp1_0 : ∃ b o,vp = .pointer (some ⟨b,o,none⟩)) (wq : World),(Instr.build 123 #[(0,vp),(1,(.int .i64 ((n :Nat):Int)))]).run Tryz.prog wq = .ok (.agg #[vp,(.int .i64 ((n :Nat):Int)),(.int .i64 0),(.int .i64 0)]) wq := by intro vp hp1_0 wq; obtain ⟨b0,o0,rfl⟩ := hp1_0;kernel_rfl
 refine q_build (ps := #[(0,vp),(1,(.int .i64 ((n :Nat):Int)))]) (.agg #[vp,(.int .i64 ((n :Nat):Int)),(.int .i64 0),(.int .i64 0)]) (by simp only [List.map_toArray,List.map_cons,List.map_nil]; rfl) (fun wq => hbd1 vp hp.isPtr wq) zN (r_boxA (cs := #[vp,(.int .i64 ((n :Nat):Int)),(.int .i64 0),(.int .i64 0)]) rfl zN fun w2 hX2 hz2 hB2 => ?_)
 have hzs2:=hX2.size
 have hE2:=hE0.trans hX2
 replace hB2 : BX w2.heap w.heap.size [vp,(.int .i64 ((n :Nat):Int)),(.int .i64 0),(.int .i64 0)] := hB2
 refine lw_tvn 1 rfl (wp_seq (wp_plain _ [0,0,0,0,2,0,0,0,4,0] rfl ?_))
 have hpr := hvp.par f.toNat oM
 have hou := hvp.outs f.toNat oM
 have hle : a.length = a.length := rfl
 refine lw_tv 2 rfl (q_nilP (hp.isPtr) rfl zN ?_)
 obtain ⟨cs3,hr3,hl3⟩ := RN.at (good_rPr _) hp
 obtain ⟨ve3,rfl,hx3⟩ := RPr.of hr3
 have hln3 := hx3.lenle
 unfold maxLen at hln3
 refine q_fldL (p := vp) 0 fd32_0 rfl (hl3 _ (Chg.of_ext [] hE2)) zN (q_load (p := (padd vp 0)) (.inr rfl) ve3 one30 rfl ((hl3 _ (Chg.of_ext [] hE2)).ld (i := 0) (by simp [exC,fnC])) zN (lw_tv 1 rfl (q_idx (v := ve3) ((f).toNat) u30 tiS80 rfl rfl hx3.isSl oM sD zN (lw_tv 1 rfl ?_))))
 refine lw_callE 102 [] [] [(.pointer (some ⟨w.heap.size,0,none⟩)),(eptr ve3 ((f).toNat) 3),va] rfl rfl cf102 zN (s_outs f.toNat _ [w.heap.size] w.heap.size vp dp (n) (0) (0) (p) dp (eptr ve3 ((f).toNat) 3) (p.getD ((f).toNat) Fn.zero) va (a) (fun b hb => (by have := List.mem_singleton.1 hb; omega : b < w2.heap.size)) (List.mem_singleton.2 rfl) hB2 ((hp.add (F := [w.heap.size]) (good_rP (good_rPr dp)) (fun b hb => by have := List.mem_singleton.1 hb; omega)).ext (good_rP (good_rPr dp)) hE2) oM oM oM (RN.ptr (good_rFn dp) (by decide) Fn.zero ((hx3.add (F := [w.heap.size]) (good_rdS (good_rFn dp)) (fun b hb => by have := List.mem_singleton.1 hb; omega)).ext (good_rdS (good_rFn dp)) hE2) sD) ((ha.add (F := [w.heap.size]) g2 (fun b hb => by have := List.mem_singleton.1 hb; omega)).ext g2 hE2) hqa (by exact hvp) oM (by intro k9 hk9; have h9 := hvp.wf f.toNat oM k9 hk9; rw [hle]; rw [hl]; exact h9) (by exact hse) (by intro k9 hk9; have := hvp.deep f.toNat oM k9 hk9; omega) oM) ?_
 rintro e4 w4 ⟨v4,x4,s4,c4,rfl,hC4,hB4,hr4,hse4,hsb4,hcb4,hrl4⟩
 refine ⟨_,rfl,?_⟩
 have hzs4:=hC4.size
 have hE4 : Ext w w4 := hC4.below hE2 (fun b hb => by have : b = w.heap.size := (by simpa using hb); omega) hE2.size
 have hsn4 := hse4.2.1
 have hsr4 := hse4.2.2
 have hcp4 := hse4.1
 have hrt4 := hr4.rt g2
 have hRL := hrl4
 have hCB := hcb4
 have hEP := EvP.mk' hRL hCB hsb4 hsn4 hsr4
 have hXS := hsr4
 have hXL := hsn4
 refine lw_tvn 1 rfl (wp_seq (wp_seq (wp_plain _ [0,0,0,2,0] rfl (lw_tv 1 rfl (q_nil rfl zN (q_fldP (p := (.pointer (some ⟨w.heap.size,0,none⟩))) (b := w.heap.size) (o := 0) 3 fd123_3 rfl rfl zN (q_load (p := (padd (.pointer (some ⟨w.heap.size,0,none⟩)) 3)) (.inr rfl) (.int .i64 c4) one2 rfl (hB4.ldp (i := 3) sM) zN ?_)))))))
 by_cases hc8 : c4 ≠ ((0 :Nat):Int)
 ·
  refine q_neq true rfl rfl (decide_eq_true hc8) zN (lw_nil (c_cond_t rfl (wp_seq (wp_draw _ [3,0,0,0,1,0,0] mixed (by kernel_rfl) (r_nil (owL rI 2) o1 u27 ti25 zN fun v9 w9 hX9 hz9 hO9 => ?_)))))
  replace hX9 := hX9.of_drew
  have hzs9:=hX9.size
  have hE9:=hE4.trans hX9
  have hB4x9 := hB4.ext hX9
  have hN10 := hrt4.ext g2 hX9
  exact lw_tv 1 rfl (q_nil rfl zN (q_fldP (p := (.pointer (some ⟨w.heap.size,0,none⟩))) (b := w.heap.size) (o := 0) 3 fd123_3 rfl rfl zN (q_load (p := (padd (.pointer (some ⟨w.heap.size,0,none⟩)) 3)) (.inl rfl) (.int .i64 c4) one2 rfl (hB4.ldp (i := 3) sM) zN (lw_tvn 2 rfl (wp_ret (t_ret (post_ret [8,9] rfl (.tuple #[v9,(.int .i64 c4)]) rfl ⟨v9,(by rw [evD_e (ev_err hRL oM)] <;> rfl),hE9,(by rw [evR_e (ev_err hRL oM)]; exact (hO9.up o2).low hE4.size),hEP⟩)))))))
 ·
  refine q_neq false rfl rfl (decide_eq_false hc8) zN (lw_nil (c_cond_f rfl (wp_skip (wp_seq (wp_plain _ [3,0] rfl (r_nil (owL rI 2) o1 u27 ti25 zN fun v11 w11 hX11 hz11 hO11 => ?_))))))
  have hzs11:=hX11.size
  have hE11:=hE4.trans hX11
  have hB4x11 := hB4.ext hX11
  have hN12 := hrt4.ext g2 hX11
  refine lw_tvn 1 rfl (wp_seq (wp_seq (wp_plain _ [0] rfl (lw_tvn 1 rfl (wp_block ?_)))))
  refine c_loop (S := Nat × Value) (fun (⟨k,vo⟩ : Nat × Value) => ([(12,vo),(13,(.int .i64 ((k :Nat):Int))),(11,v4)] : List (Nat × Value))) (fun (⟨k,vo⟩ : Nat × Value) (W : World) => Ext w W ∧ Fr (owL (owL rI 2) 25) w4.heap.size W.heap.size W.heap vo ((x4).take k) ∧ k ≤ (x4).length ∧ RT w4.heap.size (rdL (rdL rI)) W.heap v4 x4 ∧ w4.heap.size ≤ W.heap.size ∧ w4.heap.size ≤ w4.heap.size ∧ w4.heap.size ≤ W.heap.size) (fun (⟨k,vo⟩ : Nat × Value) => (x4).length - k) (0,v11) ⟨rfl,rfl,rfl,trivial⟩ ⟨hE11,hO11.up o2,sD,(by assumption),oM,oM,oM⟩ ?_
  clear hE0 hz2 hX2 hzs2 hE2 hln3 hC4 hO11 hz11 hX11 hzs11 hE11
  rintro ⟨k,vo⟩ ρ16 w16 ⟨hE16,hL16_0,hp16_0,hrk13,hkB14,hkt15,hkB17⟩
  have hzs16 : w.heap.size ≤ w16.heap.size := hE16.size
  refine wp_seq (wp_seq (wp_plain _ [0,0,0,0] rfl (lw_tv 2 rfl (q_len (v := v4) u27 rfl hrk13.slL zN ?_))))
  by_cases hc18 : ((k :Nat):Int) < ((x4.length :Nat):Int)
  ·
   refine q_lss true rfl rfl (decide_eq_true hc18) zN (lw_nil (c_cond_t rfl (wp_skip (wp_seq (wp_block (wp_plain _ [0,0,0,0,2,3,3,4,0] rfl ?_))))))
   have hkx := hXS k oM
   have hkl := hkx.1
   refine lw_tv 3 rfl (q_idx (v := v4) k u27 ti25 rfl rfl hrk13.slL rfl sD zN ?_)
   obtain ⟨ue19,hl19,hr19⟩ := RT.getL g1 [] (k := k) hrk13 sD
   have hln19 := hr19.lenL
   unfold maxLen at hln19
   refine q_load (p := eptr v4 k 1) (.inr rfl) ue19 one25 rfl hl19 zN (lw_call 80 [] [] [ue19] rfl rfl cf80 zN (c_spec_l00Own _ _ _ hr19.rd oM) ?_)
   rintro e20 w20 ⟨v20_0,rfl,hX20,hO20_0⟩
   refine ⟨_,rfl,hX20,?_⟩
   have hzs20:=hX20.size
   have hE20:=hE16.trans hX20
   have hL16_0x20 := hL16_0.ext (o2) hX20
   have hN21 := hrk13.ext g2 hX20
   have hN22 := hr19.ext g1 hX20
   refine r_one (u := v20_0) (B := w16.heap.size) o1 u27 ti25 rfl rfl hO20_0 (by first | exact Nat.le_refl _ | omega) zN fun v23 w23 hX23 hz23 hO23 => ?_
   have hzs23:=hX23.size
   have hE23:=hE20.trans hX23
   have hL16_0x23 := hL16_0x20.ext (o2) hX23
   have hN24 := hN21.ext g2 hX23
   have hN25 := hN22.ext g1 hX23
   refine e_appF o1 (v := vo) (a := v23) u27 ti25 rfl rfl rfl hL16_0x23 oM hO23 oM oM sD (by unfold maxLen; first | omega | assumption | (simp; done) | (simp; omega)) zN fun v26 w26 F26 hC26 hF26 hO26 => ?_
   have hE26 : Ext w w26 := hC26.below hE23 (fun c hc => Nat.le_trans hE4.size (hF26 c hc).1) hE23.size
   have hzs26:=hC26.size
   have hN27 := hN24.chg g2 hC26 (fun c hc => by have := hF26 c hc; omega)
   have hN28 := hN25.chg g1 hC26 (fun c hc => by have := hF26 c hc; omega)
   refine lw_tvn 1 rfl (wp_plain _ [0,0,0] rfl (lw_tv 1 rfl (q_add ((k + 1 :Nat):Int) rfl rfl (w64n oM sD) zN (lw_tvn 1 rfl ?_))))
   exact ⟨((k + 1),v26),_,rfl,⟨rfl,rfl,rfl,trivial⟩,⟨hE26,(by rw [take_snoc [] oM]; exact hO26.up o2),sD,(by assumption),oM,oM,oM⟩,by first | omega | (dsimp only; omega)⟩
  ·
   exact q_lss false rfl rfl (decide_eq_false hc18) zN (lw_nil (c_cond_f rfl (wp_exit (t_exit (t_exit (c_exit_here (wp_seq (wp_plain _ [0,0,0] rfl (lw_tvn 3 rfl (wp_ret (post_ret [8,9] rfl (.tuple #[vo,(.int .i64 ((0 :Nat):Int))]) rfl ⟨vo,(by rw [evD_o (ev_ok hRL oM)] <;> rfl),hE16,(by have h := (hL16_0.up o2).low hE4.size; rw [evR_o (ev_ok hRL oM)]; rwa [List.take_of_length_le oM] at h),hEP⟩)))))))))))
theorem z81_0 {p : Prop} (h : p := by unfold maxLen; first | omega | assumption | (simp only [List.length_nil, List.length_cons, List.length_append, List.length_set, List.length_replicate]; omega) | (simp [List.length_nil, List.length_cons, List.length_append, List.length_set, List.length_replicate]; done) | (simp [List.length_nil, List.length_cons, List.length_append, List.length_set, List.length_replicate]; omega)) : p := h
theorem c_spec_l02Eval (w : World) (dp : Nat) (vp : Value) (p : List Fn) (f : Int) (va : Value) (a : List Int) (hp : RN [] (rP (rPr dp)) w.heap vp p) (_hf : -9223372036854775808 ≤ f ∧ f ≤ 9223372036854775807) (ha : Rd (rdL rI) w.heap va a) (hvp : VPr p) (hf : 0 ≤ f ∧ f < ((p.length :Nat):Int)) (hl : ((a.length :Nat):Int) = (p.getD f.toNat Fn.zero).params) (hna : allN a = true) :
  Calls Tryz.prog 81 #[vp,.int .i64 f,va] w (fun e w' => ∃ v0 : Value,e = .returned (.tuple #[v0,.int .i64 ((evT p 1 f.toNat (sing a) :Nat):Int),.int .i64 (nxC p f.toNat a)]) ∧ Ext w w' ∧ Fr (owL rI 2) w.heap.size w'.heap.size w'.heap v0 (nxR p f.toNat a) ∧ NxP p f.toNat a ∧ evT p 1 f.toNat (sing a) ≤ 3000) := by
 refine calls_mk [vp,.int .i64 f,va] 73 Tryz.func81 rfl rfl sM ?_
 have hE0 : Ext w w := Ext.refl w
 have hl_va := ha.lenle
 have hpr := hvp.par f.toNat oM
 have hou := hvp.outs f.toNat oM
 refine wp_seq (wp_plain _ [0,0,0] rfl (lw_tvn 3 rfl (wp_seq (wp_plain _ [0,0,3,0] rfl (lw_tv 1 rfl ?_)))))
 have hbd1 : ∀ (vp : Value) (hp1_0 : ∃ b o,vp = .pointer (some ⟨b,o,none⟩)) (wq : World),(Instr.build 123 #[(0,vp),(1,(.int .i64 ((1 :Nat):Int)))]).run Tryz.prog wq = .ok (.agg #[vp,(.int .i64 ((1 :Nat):Int)),(.int .i64 0),(.int .i64 0)]) wq := by intro vp hp1_0 wq; obtain ⟨b0,o0,rfl⟩ := hp1_0;kernel_rfl
 refine q_build (ps := #[(0,vp),(1,(.int .i64 ((1 :Nat):Int)))]) (.agg #[vp,(.int .i64 ((1 :Nat):Int)),(.int .i64 0),(.int .i64 0)]) (by simp only [List.map_toArray,List.map_cons,List.map_nil]; rfl) (fun wq => hbd1 vp hp.isPtr wq) zN (r_boxA (cs := #[vp,(.int .i64 ((1 :Nat):Int)),(.int .i64 0),(.int .i64 0)]) rfl zN fun w2 hX2 hz2 hB2 => ?_)
 have hzs2:=hX2.size
 have hE2:=hE0.trans hX2
 replace hB2 : BX w2.heap w.heap.size [vp,(.int .i64 ((1 :Nat):Int)),(.int .i64 0),(.int .i64 0)] := hB2
 refine lw_tvn 1 rfl (wp_seq (wp_plain _ [3,0] rfl (r_nil (owL rI 2) o1 u27 ti25 zN fun v3 w3 hX3 hz3 hO3 => ?_)))
 have hzs3:=hX3.size
 have hE3:=hE2.trans hX3
 have hB2x3 := hB2.ext hX3
 refine lw_tvn 1 rfl (wp_seq (wp_seq (wp_plain _ [0] rfl (lw_tvn 1 rfl (wp_block ?_)))))
 refine c_loop (S := Nat × Value) (fun (⟨k,vo⟩ : Nat × Value) => ([(10,vo),(11,(.int .i64 ((k :Nat):Int))),(0,vp),(1,(.int .i64 f)),(2,va),(9,(.pointer (some ⟨w.heap.size,0,none⟩)))] : List (Nat × Value))) (fun (⟨k,vo⟩ : Nat × Value) (W : World) => Ext w W ∧ Fr (owL (owL rI 2) 25) w2.heap.size W.heap.size W.heap vo ((a.take k).map (fun x => [x])) ∧ BX W.heap w.heap.size [vp,(.int .i64 ((1 :Nat):Int)),(.int .i64 0),(.int .i64 0)] ∧ k ≤ a.length ∧ w.heap.size < w2.heap.size ∧ w2.heap.size ≤ W.heap.size) (fun (⟨k,vo⟩ : Nat × Value) => a.length - k) (0,v3) ⟨rfl,rfl,rfl,rfl,rfl,rfl,trivial⟩ ⟨hE3,hO3.up o2,hB2x3,sD,oM,oM⟩ ?_
 clear hE0 hz2 hX2 hO3 hz3 hX3 hzs3 hE3
 rintro ⟨k,vo⟩ ρ5 w5 ⟨hE5,hL5_0,hL5_1,hp5_0,hkg4,hkB6⟩
 have hzs5 : w.heap.size ≤ w5.heap.size := hE5.size
 have hq7 := hL5_1.lt
 refine wp_seq (wp_seq (wp_plain _ [0,0,0,0] rfl (lw_tv 2 rfl (q_len (v := va) u25 rfl ha.isSl zN ?_))))
 by_cases hc8 : ((k :Nat):Int) < ((a.length :Nat):Int)
 ·
  refine q_lss true rfl rfl (decide_eq_true hc8) zN (lw_nil (c_cond_t rfl (wp_skip (wp_seq (wp_block (wp_plain _ [0,0,0,0,2,3,3,4,0] rfl (lw_tv 3 rfl (q_idx (v := va) k u25 ti2 rfl rfl ha.isSl rfl sD zN ?_))))))))
  refine q_load (p := eptr va k 1) (.inr rfl) (.int .i64 (a.getD k 0)) one2 rfl (ldH_ext hE5 (ha.getI sD).1) zN ?_
  refine r_one (u := (.int .i64 (a.getD k 0))) (B := w5.heap.size) good_rI u25 ti2 rfl rfl (frI w5.heap.size w5.heap.size _ _ (ha.getI sD).2) (Nat.le_refl _) zN fun v9 w9 hX9 hz9 hO9 => ?_
  have hzs9:=hX9.size
  have hE9:=hE5.trans hX9
  have hL5_0x9 := hL5_0.ext (o2) hX9
  have hL5_1x9 := hL5_1.ext hX9
  refine r_one (u := v9) (B := w5.heap.size) o1 u27 ti25 rfl rfl hO9 (by first | exact Nat.le_refl _ | omega) zN fun v10 w10 hX10 hz10 hO10 => ?_
  have hzs10:=hX10.size
  have hE10:=hE9.trans hX10
  have hL5_0x10 := hL5_0x9.ext (o2) hX10
  have hL5_1x10 := hL5_1x9.ext hX10
  refine e_appF o1 (v := vo) (a := v10) u27 ti25 rfl rfl rfl hL5_0x10 oM hO10 oM oM sD z81_0 zN fun v11 w11 F11 hC11 hF11 hO11 => ?_
  have hE11 : Ext w w11 := hC11.below hE10 (fun c hc => Nat.le_trans hE2.size (hF11 c hc).1) hE10.size
  have hzs11:=hC11.size
  have hF12 := hL5_1x10.chg hC11 (fun hm => by have := hF11 _ hm; omega)
  refine lw_tvn 1 rfl (wp_plain _ [0,0,0] rfl (lw_tv 1 rfl (q_add ((k + 1 :Nat):Int) rfl rfl (w64n oM sD) zN (lw_tvn 1 rfl ?_))))
  exact ⟨((k + 1),v11),_,rfl,⟨rfl,rfl,rfl,rfl,rfl,rfl,trivial⟩,⟨hE11,(by rw [map_snoc 0 oM]; exact hO11.up o2),hF12,sD,oM,oM⟩,by first | omega | (dsimp only; omega)⟩
 ·
  refine q_lss false rfl rfl (decide_eq_false hc8) zN (lw_nil (c_cond_f rfl (wp_exit (t_exit (t_exit (c_exit_here (wp_seq (wp_plain _ [0,0,0,0,2,0,0,0,4,0] rfl ?_))))))))
  have henv : (a.take k).map (fun x => [x]) = sing a := by rw [List.take_of_length_le oM]; rfl
  have hle : ((a.take k).map (fun x => [x])).length = a.length := by rw [henv]; unfold sing; rw [List.length_map]
  refine lw_tv 2 rfl (q_nilP (hp.isPtr) rfl zN ?_)
  obtain ⟨cs13,hr13,hl13⟩ := RN.at (good_rPr _) hp
  obtain ⟨ve13,rfl,hx13⟩ := RPr.of hr13
  have hln13 := hx13.lenle
  unfold maxLen at hln13
  refine q_fldL (p := vp) 0 fd32_0 rfl (hl13 _ (Chg.of_ext [] hE5)) zN (q_load (p := (padd vp 0)) (.inr rfl) ve13 one30 rfl ((hl13 _ (Chg.of_ext [] hE5)).ld (i := 0) (by simp [exC,fnC])) zN (lw_tv 1 rfl (q_idx (v := ve13) ((f).toNat) u30 tiS80 rfl rfl hx13.isSl oM sD zN (lw_tv 1 rfl ?_))))
  refine lw_callE 102 [] [] [(.pointer (some ⟨w.heap.size,0,none⟩)),(eptr ve13 ((f).toNat) 3),vo] rfl rfl cf102 zN (s_outs f.toNat _ [w.heap.size] w.heap.size vp dp (1) (0) (0) (p) dp (eptr ve13 ((f).toNat) 3) (p.getD ((f).toNat) Fn.zero) vo ((a.take k).map (fun x => [x])) (fun b hb => (by have := List.mem_singleton.1 hb; omega : b < w5.heap.size)) (List.mem_singleton.2 rfl) hL5_1 ((hp.add (F := [w.heap.size]) (good_rP (good_rPr dp)) (fun b hb => by have := List.mem_singleton.1 hb; omega)).ext (good_rP (good_rPr dp)) hE5) oM oM oM (RN.ptr (good_rFn dp) (by decide) Fn.zero ((hx13.add (F := [w.heap.size]) (good_rdS (good_rFn dp)) (fun b hb => by have := List.mem_singleton.1 hb; omega)).ext (good_rdS (good_rFn dp)) hE5) sD) (RN.of_fr2 hL5_0 (fun b hb => by have := List.mem_singleton.1 hb; omega)) hL5_0.cap (by exact hvp) oM (by intro k9 hk9; have h9 := hvp.wf f.toNat oM k9 hk9; rw [hle]; rw [hl]; exact h9) (by rw [henv]; exact sing_ser hna) (by intro k9 hk9; have := hvp.deep f.toNat oM k9 hk9; omega) oM) ?_
  rintro e14 w14 ⟨v14,x14,s14,c14,rfl,hC14,hB14,hr14,hse14,hsb14,hcb14,hrl14⟩
  refine ⟨_,rfl,?_⟩
  have hzs14:=hC14.size
  have hE14 : Ext w w14 := hC14.below hE5 (fun b hb => by have : b = w.heap.size := (by simpa using hb); omega) hE5.size
  have hF17 := hL5_0.chg (o2) hC14 (fun c hc => by have := List.mem_singleton.1 hc; omega)
  have hsn14 := hse14.2.1
  have hsr14 := hse14.2.2
  have hcp14 := hse14.1
  have hrt14 := hr14.rt g2
  have hRL := hrl14
  rw [henv] at hRL
  have hCB := hcb14
  have hEP := EvP.mk' hRL hCB hsb14 hsn14 hsr14
  have hNP := NxP.mk' hEP
  have hST := hEP.steps
  have hXS := hsr14
  have hXL := hsn14
  refine lw_tvn 1 rfl (wp_seq (wp_seq (wp_plain _ [0,0,0,2,0] rfl (lw_tv 1 rfl (q_nil rfl zN (q_fldP (p := (.pointer (some ⟨w.heap.size,0,none⟩))) (b := w.heap.size) (o := 0) 3 fd123_3 rfl rfl zN (q_load (p := (padd (.pointer (some ⟨w.heap.size,0,none⟩)) 3)) (.inr rfl) (.int .i64 c14) one2 rfl (hB14.ldp (i := 3) sM) zN ?_)))))))
  by_cases hc19 : c14 ≠ ((0 :Nat):Int)
  ·
   refine q_neq true rfl rfl (decide_eq_true hc19) zN (lw_nil (c_cond_t rfl (wp_seq (wp_draw _ [3,0,0,0,1,0,0,0] mixed (by kernel_rfl) (r_nil (rI) good_rI u25 ti2 zN fun v20 w20 hX20 hz20 hO20 => ?_)))))
   replace hX20 := hX20.of_drew
   have hzs20:=hX20.size
   have hE20:=hE14.trans hX20
   have hF17x20 := hF17.ext (o2) hX20
   have hB14x20 := hB14.ext hX20
   have hN21 := hrt14.ext g2 hX20
   exact lw_tv 1 rfl (q_nil rfl zN (q_fldP (p := (.pointer (some ⟨w.heap.size,0,none⟩))) (b := w.heap.size) (o := 0) 3 fd123_3 rfl rfl zN (q_load (p := (padd (.pointer (some ⟨w.heap.size,0,none⟩)) 3)) (.inl rfl) (.int .i64 c14) one2 rfl (hB14.ldp (i := 3) sM) zN (lw_tvn 3 rfl (wp_ret (t_ret (post_ret [6,7,8] rfl (.tuple #[v20,(.int .i64 ((0 :Nat):Int)),(.int .i64 c14)]) rfl ⟨v20,(by rw [evT_e (ev_err hRL oM),show nxC p f.toNat a = _ from evD_e (ev_err hRL oM)] <;> rfl),hE20,(by rw [hNP.non (by rw [show nxC p f.toNat a = _ from evD_e (ev_err hRL oM)]; omega)]; exact (hO20.up o1).low hE14.size),hNP,hST⟩)))))))
  ·
   refine q_neq false rfl rfl (decide_eq_false hc19) zN (lw_nil (c_cond_f rfl (wp_skip (wp_seq (wp_plain _ [3,0] rfl (r_nil (rI) good_rI u25 ti2 zN fun v22 w22 hX22 hz22 hO22 => ?_))))))
   have hzs22:=hX22.size
   have hE22:=hE14.trans hX22
   have hF17x22 := hF17.ext (o2) hX22
   have hB14x22 := hB14.ext hX22
   have hN23 := hrt14.ext g2 hX22
   refine lw_tvn 1 rfl (wp_seq (wp_seq (wp_plain _ [0] rfl (lw_tvn 1 rfl (wp_block ?_)))))
   refine c_loop (S := Nat × Value) (fun (⟨k,vo⟩ : Nat × Value) => ([(13,vo),(14,(.int .i64 ((k :Nat):Int))),(9,(.pointer (some ⟨w.heap.size,0,none⟩))),(12,v14)] : List (Nat × Value))) (fun (⟨k,vo⟩ : Nat × Value) (W : World) => Ext w W ∧ Fr (owL rI 2) w14.heap.size W.heap.size W.heap vo (((x14).take k).map (fun s => s.getD 0 0)) ∧ BX W.heap w.heap.size [vp,(.int .i64 ((1 :Nat):Int)),(.int .i64 ((s14 :Nat):Int)),(.int .i64 c14)] ∧ k ≤ (x14).length ∧ RT w14.heap.size (rdL (rdL rI)) W.heap v14 x14 ∧ w14.heap.size ≤ W.heap.size ∧ w.heap.size < w14.heap.size ∧ w14.heap.size ≤ w14.heap.size ∧ w14.heap.size ≤ W.heap.size) (fun (⟨k,vo⟩ : Nat × Value) => (x14).length - k) (0,v22) ⟨rfl,rfl,rfl,rfl,trivial⟩ ⟨hE22,hO22.up o1,hB14x22,sD,(by assumption),oM,oM,oM,oM⟩ ?_
   clear hzs2 hE2 hL5_1 hL5_0 hE5 hzs5 hln13 hC14 hF17 hO22 hz22 hX22 hzs22 hE22 hF17x22
   rintro ⟨k,vo⟩ ρ28 w28 ⟨hE28,hL28_0,hL28_1,hp28_0,hrk24,hkB25,hkg26,hkt27,hkB29⟩
   have hzs28 : w.heap.size ≤ w28.heap.size := hE28.size
   have hq30 := hL28_1.lt
   refine wp_seq (wp_seq (wp_plain _ [0,0,0,0] rfl (lw_tv 2 rfl (q_len (v := v14) u27 rfl hrk24.slL zN ?_))))
   by_cases hc31 : ((k :Nat):Int) < ((x14.length :Nat):Int)
   ·
    refine q_lss true rfl rfl (decide_eq_true hc31) zN (lw_nil (c_cond_t rfl (wp_skip (wp_seq (wp_block (wp_plain _ [0,0,0,0,2,0,2,3,4,0] rfl ?_))))))
    have hkx := hXS k oM
    have hkl := hkx.1
    refine lw_tv 3 rfl (q_idx (v := v14) k u27 ti25 rfl rfl hrk24.slL rfl sD zN ?_)
    obtain ⟨ue32,hl32,hr32⟩ := RT.getL g1 [] (k := k) hrk24 sD
    have hln32 := hr32.lenL
    unfold maxLen at hln32
    refine q_load (p := eptr v14 k 1) (.inr rfl) ue32 one25 rfl hl32 zN (q_idx (v := ue32) 0 u25 ti2 rfl rfl hr32.slL rfl sD zN ?_)
    have hg33 := RT.getI (k := 0) hr32 sD
    refine q_load (p := eptr ue32 0 1) (.inr rfl) (.int .i64 ((x14.getD k []).getD 0 0)) one2 rfl hg33.1 zN (r_one (u := (.int .i64 ((x14.getD k []).getD 0 0))) (B := w28.heap.size) good_rI u25 ti2 rfl rfl (frI w28.heap.size w28.heap.size _ _ hg33.2) (Nat.le_refl _) zN fun v34 w34 hX34 hz34 hO34 => ?_)
    have hzs34:=hX34.size
    have hE34:=hE28.trans hX34
    have hL28_0x34 := hL28_0.ext (o1) hX34
    have hL28_1x34 := hL28_1.ext hX34
    have hN35 := hrk24.ext g2 hX34
    have hN36 := hr32.ext g1 hX34
    refine e_appI (v := vo) (a := v34) u25 ti2 rfl rfl rfl hL28_0x34 oM hO34.rd1 sD z81_0 zN fun v37 w37 F37 hC37 hF37 hO37 => ?_
    have hE37 : Ext w w37 := hC37.below hE34 (fun c hc => Nat.le_trans hE14.size (hF37 c hc).1) hE34.size
    have hzs37:=hC37.size
    have hN38 := hN35.chg g2 hC37 (fun c hc => by have := hF37 c hc; omega)
    have hN39 := hN36.chg g1 hC37 (fun c hc => by have := hF37 c hc; omega)
    have hF40 := hL28_1x34.chg hC37 (fun hm => by have := hF37 _ hm; omega)
    have hF41 := hO34.chg (o1) hC37 (fun c hc => by have := hF37 c hc; omega)
    refine lw_tvn 1 rfl (wp_plain _ [0,0,0] rfl (lw_tv 1 rfl (q_add ((k + 1 :Nat):Int) rfl rfl (w64n oM sD) zN (lw_tvn 1 rfl ?_))))
    exact ⟨((k + 1),v37),_,rfl,⟨rfl,rfl,rfl,rfl,trivial⟩,⟨hE37,(by rw [map_snoc [] oM]; exact hO37.up o1),hF40,sD,(by assumption),oM,oM,oM,oM⟩,by first | omega | (dsimp only; omega)⟩
   ·
    refine q_lss false rfl rfl (decide_eq_false hc31) zN (lw_nil (c_cond_f rfl (wp_exit (t_exit (t_exit (c_exit_here (wp_seq (wp_draw _ [0,0,0,0,1,0,0,0] mixed (by kernel_rfl) (lw_tv 2 rfl (q_nil rfl zN (q_fldP (p := (.pointer (some ⟨w.heap.size,0,none⟩))) (b := w.heap.size) (o := 0) 2 fd123_2 rfl rfl zN (q_load (p := (padd (.pointer (some ⟨w.heap.size,0,none⟩)) 2)) (.inl rfl) (.int .i64 ((s14 :Nat):Int)) one2 rfl (hL28_1.ldp (i := 2) sM) zN (lw_tvn 3 rfl (wp_ret ?_))))))))))))))
    exact post_ret [6,7,8] rfl (.tuple #[vo,(.int .i64 ((s14 :Nat):Int)),(.int .i64 ((0 :Nat):Int))]) rfl ⟨vo,(by rw [evT_o (ev_ok hRL oM),show nxC p f.toNat a = _ from evD_o (ev_ok hRL oM)] <;> rfl),hE28.drew,(by have h := (hL28_0.up o1).low hE14.size; unfold nxR; rw [evR_o (ev_ok hRL oM)]; rwa [List.take_of_length_le oM] at h),hNP,hST⟩
theorem mp_b {p : List Fn} {f : Int} (h : isF p f = 0) (h1 : (decide (((1 : Nat) : Int) ≤ (p.getD f.toNat Fn.zero).params) && decide ((p.getD f.toNat Fn.zero).params ≤ ((12 : Nat) : Int))) = false) : 2 = shF p f fldB := by
  have h1' : inB (p.getD f.toNat Fn.zero).params 1 12 = false := h1
  unfold shF fldB; rw [if_pos h, h1', Bool.false_and]; rfl
theorem mp_c {p : List Fn} {f : Int} (h : isF p f = 0) (h1 : ¬ ((((p.getD f.toNat Fn.zero).outs.length : Nat) : Int) = (p.getD f.toNat Fn.zero).params)) : 2 = shF p f fldB := by
  unfold shF fldB; rw [if_pos h, decide_eq_false h1, Bool.and_false]; rfl
theorem mp_d {p : List Fn} {f : Int} (h : isF p f = 0) (h1 : (decide (((1 : Nat) : Int) ≤ (p.getD f.toNat Fn.zero).params) && decide ((p.getD f.toNat Fn.zero).params ≤ ((12 : Nat) : Int))) = true) (h2 : (((p.getD f.toNat Fn.zero).outs.length : Nat) : Int) = (p.getD f.toNat Fn.zero).params) : isF p f = shF p f fldB := by
  have h1' : inB (p.getD f.toNat Fn.zero).params 1 12 = true := h1
  unfold shF fldB; rw [if_pos h, h1', decide_eq_true h2, h]; rfl
theorem z91_0 {p : Prop} (h : p := by first | exact ret_int (shF_n oM) | exact ret_int (mp_b oM (by rw [← hm]; exact bn_t (by assumption))) | exact ret_int (mp_c oM oM) | exact ret_int (mp_d oM (by rw [← hm]; exact bn_f (by assumption)) oM)) : p := h
theorem z91_1 {p : Prop} (h : p := by simp [exC, fnC]) : p := h
theorem c_spec_l07Map (w : World) (dp : Nat) (vp : Value) (p : List Fn) (f : Int) (most : Int) (hp : RN [] (rP (rPr dp)) w.heap vp p) (_hf : -9223372036854775808 ≤ f ∧ f ≤ 9223372036854775807) (_hmost : -9223372036854775808 ≤ most ∧ most ≤ 9223372036854775807) (hz : SzP p) (hm : most = ((12 :Nat):Int)) :
  Calls Tryz.prog 91 #[vp,.int .i64 f,.int .i64 most] w (fun e w' => e = .returned (.int .i64 (shF p f fldB)) ∧ Ext w w') := by
 refine calls_mk [vp,.int .i64 f,.int .i64 most] 47 Tryz.func91 rfl rfl sM ?_
 have hE0 : Ext w w := Ext.refl w
 refine wp_seq (wp_plain _ [0] rfl (lw_tvn 1 rfl (wp_seq (wp_plain _ [0,0,3,0] rfl (lw_tv 2 rfl (lw_call 126 [] [] [vp,(.int .i64 f)] rfl rfl cf126 zN (c_spec_l02Asked _ dp vp (p) _ (hp.ext (good_rP (good_rPr dp)) hE0) _hf (by exact hz)) ?_))))))
 rintro e1 w1 ⟨rfl,hX1⟩
 refine ⟨_,rfl,hX1,?_⟩
 have hzs1:=hX1.size
 have hE1:=hE0.trans hX1
 refine lw_tvn 1 rfl (wp_seq (wp_seq (wp_draw _ [0,0,0,0,0,0,1,0,0,0,1,0,0,0,0,0,0,0,1,0,0,0,1,0,0,0,0,1,0,0,0,1,0,0,0] mixed (by kernel_rfl) (lw_tv 1 rfl ?_))))
 by_cases hc2 : isF p f = ((0 :Nat):Int)
 ·
  refine q_eql true rfl rfl (decide_eq_true hc2) zN (lw_tv 2 rfl ?_)
  have hi0 := isF_0 (p := p) (f := f) oM
  refine q_nilP (hp.isPtr) rfl (zS (e := 13) rfl rfl rfl) ?_
  obtain ⟨cs3,hr3,hl3⟩ := RN.at (good_rPr _) hp
  obtain ⟨ve3,rfl,hx3⟩ := RPr.of hr3
  have hln3 := hx3.lenle
  unfold maxLen at hln3
  refine q_fldL (p := vp) 0 fd32_0 rfl (hl3 _ (Chg.of_ext [] hE1.drew)) (zS (e := 13) rfl rfl rfl) (q_load (p := (padd vp 0)) (.inl rfl) ve3 one30 rfl ((hl3 _ (Chg.of_ext [] hE1.drew)).ld (i := 0) z91_1) (zS (e := 13) rfl rfl rfl) (lw_tv 1 rfl (q_idx (v := ve3) ((f).toNat) u30 tiS80 rfl rfl hx3.isSl oM sD (zS (e := 13) rfl rfl rfl) ?_)))
  obtain ⟨cs4,hr4,hl4⟩ := hx3.get (good_rFn dp) Fn.zero (k := ((f).toNat)) sD
  obtain ⟨ve4,rfl,hx4⟩ := RF.of hr4
  have hln4 := hx4.rn.lenle
  unfold maxLen at hln4
  refine q_fldL (p := eptr ve3 ((f).toNat) 3) 1 fd80_1 rfl (hl4 _ (Chg.of_ext [] hE1.drew)) (zS (e := 13) rfl rfl rfl) (q_load (p := (padd (eptr ve3 ((f).toNat) 3) 1)) (.inl rfl) (.int .i64 ((p.getD ((f).toNat) Fn.zero).params)) one2 rfl ((hl4 _ (Chg.of_ext [] hE1.drew)).ld (i := 1) z91_1) (zS (e := 13) rfl rfl rfl) (lw_tv 1 rfl (lw_callq 63 [] [] [(.int .i64 ((p.getD ((f).toNat) Fn.zero).params)),(.int .i64 ((1 :Nat):Int)),(.int .i64 most)] rfl rfl cf63 (zS (e := 13) rfl rfl rfl) (.bool (decide (((1 :Nat):Int) ≤ ((p.getD ((f).toNat) Fn.zero).params)) && decide (((p.getD ((f).toNat) Fn.zero).params) ≤ most))) (fun wq => c_spec_l00In wq _ _ _ hx4.rng oM _hmost) ?_)))
  refine q_not (!(decide (((1 :Nat):Int) ≤ ((p.getD ((f).toNat) Fn.zero).params)) && decide (((p.getD ((f).toNat) Fn.zero).params) ≤ most))) rfl rfl (zS (e := 13) rfl rfl rfl) (lw_tv 1 rfl ?_)
  cases hb6 : (!(decide (((1 :Nat):Int) ≤ ((p.getD ((f).toNat) Fn.zero).params)) && decide (((p.getD ((f).toNat) Fn.zero).params) ≤ most)))
  ·
   refine lw_tv 1 rfl (q_nilP (hp.isPtr) rfl (zS (e := 25) rfl rfl rfl) (q_fldL (p := vp) 0 fd32_0 rfl (hl3 _ (Chg.of_ext [] hE1.drew)) (zS (e := 25) rfl rfl rfl) (q_load (p := (padd vp 0)) (.inl rfl) ve3 one30 rfl ((hl3 _ (Chg.of_ext [] hE1.drew)).ld (i := 0) z91_1) (zS (e := 25) rfl rfl rfl) (lw_tv 1 rfl (q_idx (v := ve3) ((f).toNat) u30 tiS80 rfl rfl hx3.isSl oM sD (zS (e := 25) rfl rfl rfl) ?_)))))
   refine q_fldL (p := eptr ve3 ((f).toNat) 3) 2 fd80_2 rfl (hl4 _ (Chg.of_ext [] hE1.drew)) (zS (e := 25) rfl rfl rfl) (q_load (p := (padd (eptr ve3 ((f).toNat) 3) 2)) (.inl rfl) ve4 one78 rfl ((hl4 _ (Chg.of_ext [] hE1.drew)).ld (i := 2) z91_1) (zS (e := 25) rfl rfl rfl) (q_len (v := ve4) u78 rfl hx4.rn.isSl (zS (e := 25) rfl rfl rfl) (lw_tv 1 rfl (q_nilP (hp.isPtr) rfl (zS (e := 25) rfl rfl rfl) (q_fldL (p := vp) 0 fd32_0 rfl (hl3 _ (Chg.of_ext [] hE1.drew)) (zS (e := 25) rfl rfl rfl) (q_load (p := (padd vp 0)) (.inl rfl) ve3 one30 rfl ((hl3 _ (Chg.of_ext [] hE1.drew)).ld (i := 0) z91_1) (zS (e := 25) rfl rfl rfl) (lw_tv 1 rfl ?_)))))))
   refine q_idx (v := ve3) ((f).toNat) u30 tiS80 rfl rfl hx3.isSl oM sD (zS (e := 25) rfl rfl rfl) (q_fldL (p := eptr ve3 ((f).toNat) 3) 1 fd80_1 rfl (hl4 _ (Chg.of_ext [] hE1.drew)) (zS (e := 25) rfl rfl rfl) (q_load (p := (padd (eptr ve3 ((f).toNat) 3) 1)) (.inl rfl) (.int .i64 ((p.getD ((f).toNat) Fn.zero).params)) one2 rfl ((hl4 _ (Chg.of_ext [] hE1.drew)).ld (i := 1) z91_1) (zS (e := 25) rfl rfl rfl) ?_))
   by_cases hc7 : ((((p.getD ((f).toNat) Fn.zero).outs).length :Nat):Int) ≠ (p.getD ((f).toNat) Fn.zero).params
   ·
    exact q_neq true rfl rfl (decide_eq_true hc7) (zS (e := 25) rfl rfl rfl) (lw_tvn 2 rfl (c_cond_t rfl (wp_plain _ [0] rfl (lw_tvn 1 rfl (wp_seq (wp_plain _ [0,0] rfl (lw_tvn 2 rfl (wp_ret (post_ret [6] rfl (.int .i64 ((2 :Nat):Int)) rfl ⟨z91_0,hE1.drew⟩)))))))))
   ·
    exact q_neq false rfl rfl (decide_eq_false hc7) (zS (e := 25) rfl rfl rfl) (lw_tvn 2 rfl (c_cond_f rfl (wp_skip (wp_seq (wp_plain _ [0,0] rfl (lw_tvn 2 rfl (wp_ret (post_ret [6] rfl (.int .i64 (isF p f)) rfl ⟨z91_0,hE1.drew⟩))))))))
  ·
   exact lw_tvn 20 rfl (c_cond_t rfl (wp_plain _ [0] rfl (lw_tvn 1 rfl (wp_seq (wp_plain _ [0,0] rfl (lw_tvn 2 rfl (wp_ret (post_ret [6] rfl (.int .i64 ((2 :Nat):Int)) rfl ⟨z91_0,hE1.drew⟩))))))))
 ·
  exact q_eql false rfl rfl (decide_eq_false hc2) zN (lw_tvn 33 rfl (c_cond_f rfl (wp_skip (wp_seq (wp_plain _ [0,0] rfl (lw_tvn 2 rfl (wp_ret (post_ret [6] rfl (.int .i64 (isF p f)) rfl ⟨z91_0,hE1.drew⟩))))))))
/-- The outputs of a field for series. -/
def alR (p : List Fn) (f : Int) (y : List Sr) : List Sr := if gvC p f y = 0 then evR p (oOf y + 1) f.toNat y else []
end Go.Proofs.YtnofbmdpabcjaaaGreat
namespace Go.Proofs.YtnofbmdpabcjaaaGreat
open Go Go.RowKit
set_option linter.unusedVariables false
set_option linter.unusedSimpArgs false
set_option maxHeartbeats 4000000
set_option maxRecDepth 100000
attribute [local irreducible] LW
theorem c_spec_l07Cut (w : World) (vy : Value) (y : List (List Int)) (By Uy : Nat) (m : Nat) (hy : Fr (owL (owL rI 2) 25) By Uy w.heap vy y) (hUy : Uy ≤ w.heap.size) (_hm : m ≤ 1000000000000) (hml : ∀ k, k < y.length → m ≤ (y.getD k []).length ∧ (y.getD k []).length ≤ 1000000) (hyl : y.length ≤ 1000000) :
    Calls Tryz.prog 101 #[vy, .int .i64 ((m : Nat) : Int)] w (fun e w' => ∃ v0 : Value, e = .returned (v0) ∧ Ext w w' ∧ Fr (owL (owL rI 2) 25) w.heap.size w'.heap.size w'.heap v0 (y.map (cut m))) := by
  refine calls_mk [vy, .int .i64 ((m : Nat) : Int)] 25 Tryz.func101 rfl rfl sM ?_
  have hE0 : Ext w w := Ext.refl w
  refine wp_seq (wp_plain _ [0] rfl (lw_tvn 1 rfl (wp_seq (wp_plain _ [3, 0] rfl (r_nil (owL rI 2) o1 u27 ti25 zN fun v1 w1 hX1 hz1 hO1 => ?_)))))
  have hzs1 : w.heap.size ≤ w1.heap.size := hX1.size
  have hE1 : Ext w w1 := hE0.trans hX1
  have hyx1 := hy.ext (o2) hX1
  refine lw_tvn 1 rfl (wp_seq (wp_seq (wp_plain _ [0] rfl (lw_tvn 1 rfl (wp_block ?_)))))
  refine c_loop (S := Nat × Value) (fun (⟨k, vo⟩ : Nat × Value) => ([(5, vo), (6, (.int .i64 ((k : Nat) : Int))), (0, vy), (1, (.int .i64 ((m : Nat) : Int)))] : List (Nat × Value))) (fun (⟨k, vo⟩ : Nat × Value) (W : World) => Ext w W ∧ Fr (owL (owL rI 2) 25) w.heap.size W.heap.size W.heap vo ((y.take k).map (cut m)) ∧ Fr (owL (owL rI 2) 25) By Uy W.heap vy y ∧ k ≤ y.length) (fun (⟨k, vo⟩ : Nat × Value) => y.length - k) (0, v1) ⟨rfl, rfl, rfl, rfl, trivial⟩ ⟨hE1, hO1.up o2, hyx1, sD⟩ ?_
  clear hE0 hO1 hz1 hX1 hzs1 hE1
  rintro ⟨k, vo⟩ ρ2 w2 ⟨hE2, hL2_0, hL2_1, hp2_0⟩
  have hzs2 : w.heap.size ≤ w2.heap.size := hE2.size
  refine wp_seq (wp_seq (wp_plain _ [0, 0, 0, 0] rfl (lw_tv 2 rfl (q_len (v := vy) u27 rfl hL2_1.isSl zN ?_))))
  by_cases hc3 : ((k : Nat) : Int) < ((y.length : Nat) : Int)
  ·
    refine q_lss true rfl rfl (decide_eq_true hc3) zN (lw_nil (c_cond_t rfl (wp_skip (wp_seq (wp_block (wp_plain _ [0, 0, 0, 0, 2, 0, 0, 3, 3, 4, 0] rfl ?_))))))
    have hmk := hml k oM
    refine lw_tv 3 rfl (q_idx (v := vy) k u27 ti25 rfl rfl hL2_1.isSl rfl sD zN ?_)
    obtain ⟨ue4, hl4, hd4⟩ := hL2_1.rd2.get (k := k) [] sD
    have hln4 := hd4.lenle
    refine q_load (p := eptr vy k 1) (.inr rfl) ue4 one25 rfl hl4 zN (lw_tv 1 rfl ?_)
    have hcp5 := Fr.rowCap o1 hL2_1 sD hl4
    have hpf5 := Rd.pref (k := m) hd4 sD
    refine q_pref (v := ue4) (k := m) u25 ti2 rfl hd4.isSl hcp5 rfl sD zN (lw_call 80 [] [] [(prefV ue4 m)] rfl rfl cf80 zN (c_spec_l00Own _ _ _ hpf5 (by rw [List.length_take]; omega)) ?_)
    rintro e6 w6 ⟨v6_0, rfl, hX6, hO6_0⟩
    refine ⟨_, rfl, hX6, ?_⟩
    have hzs6 : w2.heap.size ≤ w6.heap.size := hX6.size
    have hE6 : Ext w w6 := hE2.trans hX6
    have hL2_0x6 := hL2_0.ext (o2) hX6
    have hL2_1x6 := hL2_1.ext (o2) hX6
    have hd4x6 := hd4.ext g1 hX6
    have hlx7 := ldH_ext hX6 hl4
    have hpf5x6 := hpf5.ext g1 hX6
    refine r_one (u := v6_0) (B := w2.heap.size) o1 u27 ti25 rfl rfl hO6_0 (by first | exact Nat.le_refl _ | omega) zN fun v8 w8 hX8 hz8 hO8 => ?_
    have hzs8 : w6.heap.size ≤ w8.heap.size := hX8.size
    have hE8 : Ext w w8 := hE6.trans hX8
    have hL2_0x8 := hL2_0x6.ext (o2) hX8
    have hL2_1x8 := hL2_1x6.ext (o2) hX8
    have hd4x8 := hd4x6.ext g1 hX8
    have hlx9 := ldH_ext hX8 hlx7
    have hpf5x8 := hpf5x6.ext g1 hX8
    refine e_appF o1 (v := vo) (a := v8) u27 ti25 rfl rfl rfl hL2_0x8 hE8.size hO8 oM hE2.size sD (by unfold maxLen; first | omega | assumption | (simp only [List.length_nil, List.length_cons, List.length_append, List.length_set, List.length_replicate]; omega) | (simp [List.length_nil, List.length_cons, List.length_append, List.length_set, List.length_replicate]; done) | (simp [List.length_nil, List.length_cons, List.length_append, List.length_set, List.length_replicate]; omega)) zN fun v10 w10 F10 hC10 hF10 hO10 => ?_
    have hE10 : Ext w w10 := hC10.below hE8 (fun c hc => Nat.le_trans (Nat.le_refl _) (hF10 c hc).1) hE8.size
    have hzs10 : w8.heap.size ≤ w10.heap.size := hC10.size
    have hF11 := hL2_1x8.chg (o2) hC10 (fun c hc => by have := hF10 c hc; omega)
    refine lw_tvn 1 rfl (wp_plain _ [0, 0, 0] rfl (lw_tv 1 rfl (q_add ((k + 1 : Nat) : Int) rfl rfl (w64n oM sD) zN (lw_tvn 1 rfl ?_))))
    exact ⟨((k + 1), v10), _, rfl, ⟨rfl, rfl, rfl, rfl, trivial⟩, ⟨hE10, (by rw [map_snoc [] oM]; exact hO10.up o2), hF11, sD⟩, by first | omega | (dsimp only; omega)⟩
  ·
    exact q_lss false rfl rfl (decide_eq_false hc3) zN (lw_nil (c_cond_f rfl (wp_exit (t_exit (t_exit (c_exit_here (wp_seq (wp_plain _ [0, 0] rfl (lw_tvn 2 rfl (wp_ret (post_ret [4] rfl vo rfl ⟨vo, rfl, hE2, (by have h := hL2_0.up o2; rwa [List.take_of_length_le oM] at h)⟩)))))))))))
theorem fd_n {p : List Fn} {f o : Int} {a : Sr} (h : shF p f fldB ≠ 0) : shF p f fldB = stC p f o [a] := by unfold stC; rw [if_neg h]
theorem fd_2 {p : List Fn} {f o : Int} {a : Sr} (h : shF p f fldB = 0) (h2 : (decide (((a.length : Nat) : Int) = (p.getD f.toNat Fn.zero).params) && allN a) = false) : 2 = stC p f o [a] := by
  unfold stC; rw [if_pos h, List.all_cons, h2]; rfl
theorem fd_o {p : List Fn} {f o : Int} {a : Sr} (h : shF p f fldB = 0) (h2 : (decide (((0 : Nat) : Int) ≤ o) && decide (o ≤ ((12 : Nat) : Int))) = false) : 2 = stC p f o [a] := by
  have h2' : inB o 0 12 = false := h2
  unfold stC; rw [if_pos h, h2', Bool.and_false]; rfl
theorem fd_0 {p : List Fn} {f o : Int} {a : Sr} (h : shF p f fldB = 0) (h1 : (decide (((a.length : Nat) : Int) = (p.getD f.toNat Fn.zero).params) && allN a) = true) (h2 : (decide (((0 : Nat) : Int) ≤ o) && decide (o ≤ ((12 : Nat) : Int))) = true) : shF p f fldB = stC p f o [a] := by
  have h2' : inB o 0 12 = true := h2
  unfold stC; rw [if_pos h, List.all_cons, h1, h2', h]; rfl
theorem z62_0 {p : Prop} (h : p := by first | exact ret_int (fd_n oM) | exact ret_int (fd_2 oM (bn_t (by assumption))) | exact ret_int (fd_o oM (bn_t (by assumption))) | exact ret_int (fd_0 oM (bn_f (by assumption)) (bn_f (by assumption)))) : p := h
theorem c_spec_l07Field (w : World) (dp : Nat) (vp : Value) (p : List Fn) (f : Int) (va : Value) (a : List Int) (o : Int) (hp : RN [] (rP (rPr dp)) w.heap vp p) (_hf : -9223372036854775808 ≤ f ∧ f ≤ 9223372036854775807) (ha : Rd (rdL rI) w.heap va a) (_ho : -9223372036854775808 ≤ o ∧ o ≤ 9223372036854775807) (hz : SzP p) :
    Calls Tryz.prog 62 #[vp, .int .i64 f, va, .int .i64 o] w (fun e w' => e = .returned (.int .i64 (stC p f o [a])) ∧ Ext w w') := by
  refine calls_mk [vp, .int .i64 f, va, .int .i64 o] 34 Tryz.func62 rfl rfl sM ?_
  have hE0 : Ext w w := Ext.refl w
  have hl_va := ha.lenle
  refine wp_seq (wp_plain _ [0] rfl (lw_tvn 1 rfl (wp_seq (wp_plain _ [0, 0, 3, 0] rfl (lw_tv 2 rfl (lw_call 91 [] [] [vp, (.int .i64 f), (.int .i64 ((12 : Nat) : Int))] rfl rfl cf91 zN (c_spec_l07Map _ dp vp (p) _ _ (hp.ext (good_rP (good_rPr dp)) hE0) _hf oM (by exact hz) (by rfl)) ?_))))))
  rintro e1 w1 ⟨rfl, hX1⟩
  refine ⟨_, rfl, hX1, ?_⟩
  have hzs1 : w.heap.size ≤ w1.heap.size := hX1.size
  have hE1 : Ext w w1 := hE0.trans hX1
  refine lw_tvn 1 rfl (wp_seq (wp_seq (wp_plain _ [0, 0, 0, 0, 0, 0, 0, 2, 0, 0, 0, 2, 3, 0, 0, 0, 0, 0, 0, 0] rfl (lw_tv 1 rfl ?_))))
  by_cases hc2 : shF p f fldB = ((0 : Nat) : Int)
  ·
    refine q_eql true rfl rfl (decide_eq_true hc2) zN (lw_tv 1 rfl ?_)
    have hi0 := fld_0 (p := p) (f := f) oM
    refine lw_tv 2 rfl (q_nilP (hp.isPtr) rfl (zS (e := 15) rfl rfl rfl) ?_)
    obtain ⟨cs3, hr3, hl3⟩ := RN.at (good_rPr _) hp
    obtain ⟨ve3, rfl, hx3⟩ := RPr.of hr3
    have hln3 := hx3.lenle
    unfold maxLen at hln3
    refine q_fldL (p := vp) 0 fd32_0 rfl (hl3 _ (Chg.of_ext [] hE1)) (zS (e := 15) rfl rfl rfl) (q_load (p := (padd vp 0)) (.inr rfl) ve3 one30 rfl ((hl3 _ (Chg.of_ext [] hE1)).ld (i := 0) (by simp [exC, fnC])) (zS (e := 15) rfl rfl rfl) (lw_tv 1 rfl (q_idx (v := ve3) ((f).toNat) u30 tiS80 rfl rfl hx3.isSl oM sD (zS (e := 15) rfl rfl rfl) ?_)))
    obtain ⟨cs4, hr4, hl4⟩ := hx3.get (good_rFn dp) Fn.zero (k := ((f).toNat)) sD
    obtain ⟨ve4, rfl, hx4⟩ := RF.of hr4
    have hln4 := hx4.rn.lenle
    unfold maxLen at hln4
    refine q_fldL (p := eptr ve3 ((f).toNat) 3) 1 fd80_1 rfl (hl4 _ (Chg.of_ext [] hE1)) (zS (e := 15) rfl rfl rfl) (q_load (p := (padd (eptr ve3 ((f).toNat) 3) 1)) (.inr rfl) (.int .i64 ((p.getD ((f).toNat) Fn.zero).params)) one2 rfl ((hl4 _ (Chg.of_ext [] hE1)).ld (i := 1) (by simp [exC, fnC])) (zS (e := 15) rfl rfl rfl) (lw_call 100 [] [] [va, (.int .i64 ((p.getD ((f).toNat) Fn.zero).params))] rfl rfl cf100 (zS (e := 15) rfl rfl rfl) (c_spec_l07Numbers _ _ _ _ (ha.ext g1 hE1) hx4.rng) ?_))
    rintro e5 w5 ⟨rfl, hX5⟩
    refine ⟨_, rfl, hX5, ?_⟩
    have hzs5 : w1.heap.size ≤ w5.heap.size := hX5.size
    have hE5 : Ext w w5 := hE1.trans hX5
    refine q_not (!(decide (((a.length : Nat) : Int) = ((p.getD ((f).toNat) Fn.zero).params)) && allN a)) rfl rfl (zS (e := 15) rfl rfl rfl) (lw_tv 1 rfl ?_)
    cases hb6 : (!(decide (((a.length : Nat) : Int) = ((p.getD ((f).toNat) Fn.zero).params)) && allN a))
    ·
      refine lw_tv 1 rfl (lw_callq 63 [] [] [(.int .i64 o), (.int .i64 ((0 : Nat) : Int)), (.int .i64 ((12 : Nat) : Int))] rfl rfl cf63 (zS (e := 27) rfl rfl rfl) (.bool (decide (((0 : Nat) : Int) ≤ o) && decide (o ≤ ((12 : Nat) : Int)))) (fun wq => c_spec_l00In wq _ _ _ _ho oM oM) (q_not (!(decide (((0 : Nat) : Int) ≤ o) && decide (o ≤ ((12 : Nat) : Int)))) rfl rfl (zS (e := 27) rfl rfl rfl) (lw_tvn 2 rfl ?_)))
      cases hb8 : (!(decide (((0 : Nat) : Int) ≤ o) && decide (o ≤ ((12 : Nat) : Int))))
      ·
        exact c_cond_f (by first | rfl | (show Value.bool _ = _; rw [hb8])) (wp_skip (wp_seq (wp_plain _ [0, 0] rfl (lw_tvn 2 rfl (wp_ret (post_ret [8] rfl (.int .i64 (shF p f fldB)) rfl ⟨z62_0, hE5⟩))))))
      ·
        exact c_cond_t (by first | rfl | (show Value.bool _ = _; rw [hb8])) (wp_plain _ [0] rfl (lw_tvn 1 rfl (wp_seq (wp_plain _ [0, 0] rfl (lw_tvn 2 rfl (wp_ret (post_ret [8] rfl (.int .i64 ((2 : Nat) : Int)) rfl ⟨z62_0, hE5⟩)))))))
    ·
      exact lw_tvn 5 rfl (c_cond_t rfl (wp_plain _ [0] rfl (lw_tvn 1 rfl (wp_seq (wp_plain _ [0, 0] rfl (lw_tvn 2 rfl (wp_ret (post_ret [8] rfl (.int .i64 ((2 : Nat) : Int)) rfl ⟨z62_0, hE5⟩))))))))
  ·
    exact q_eql false rfl rfl (decide_eq_false hc2) zN (lw_tvn 18 rfl (c_cond_f rfl (wp_skip (wp_seq (wp_plain _ [0, 0] rfl (lw_tvn 2 rfl (wp_ret (post_ret [8] rfl (.int .i64 (shF p f fldB)) rfl ⟨z62_0, hE1⟩))))))))
theorem spS_row {out y : List Sr} {k i : Nat} (hi : i < y.length) : (mix i (spS out y k) y).getD i [] = y.getD i [] := mix_ge [] (spS_len _ _ _) (Nat.le_refl _) hi
theorem spS_step {out y : List Sr} {k i : Nat} (hi : i < y.length) : mix (i + 1) (spS out y k) y = (mix i (spS out y k) y).set i ((y.getD i []).set (k + 1) (md ((out.getD i []).getD k 0 * inv (((k + 1 : Nat)) : Int)))) := mix_tab (n := y.length) rfl hi
theorem z64_0 {p : Prop} (h : p := by first | omega | assumption | (simp only [List.length_nil, List.length_cons, List.length_append, List.length_set, List.length_replicate, mix_len, spS_len]; omega) | (simp [List.length_nil, List.length_cons, List.length_append, List.length_set, List.length_replicate, mix_len, spS_len]; done) | (simp [List.length_nil, List.length_cons, List.length_append, List.length_set, List.length_replicate, mix_len, spS_len]; omega)) : p := h
theorem c_spec_l07Flow (w : World) (dp : Nat) (vp : Value) (p : List Fn) (f : Int) (va : Value) (a : List Int) (o : Int) (hp : RN [] (rP (rPr dp)) w.heap vp p) (_hf : -9223372036854775808 ≤ f ∧ f ≤ 9223372036854775807) (ha : Rd (rdL rI) w.heap va a) (_ho : -9223372036854775808 ≤ o ∧ o ≤ 9223372036854775807) (hfl : Fld p f.toNat a) (hf : 0 ≤ f ∧ f < ((p.length : Nat) : Int)) (ho : 0 ≤ o ∧ o ≤ 12) :
    Calls Tryz.prog 64 #[vp, .int .i64 f, va, .int .i64 o] w (fun e w' => ∃ v0 : Value, e = .returned (.tuple #[v0, .int .i64 (flC p f.toNat (extS a (o.toNat + 1)) (o.toNat + 1))]) ∧ Ext w w' ∧ Fr (owL (owL rI 2) 25) w.heap.size w'.heap.size w'.heap v0 (flR p f.toNat (extS a (o.toNat + 1)) (o.toNat + 1)) ∧ (0 ≤ flC p f.toNat (extS a (o.toNat + 1)) (o.toNat + 1) ∧ flC p f.toNat (extS a (o.toNat + 1)) (o.toNat + 1) ≤ 9)) := by
  refine calls_mk [vp, .int .i64 f, va, .int .i64 o] 90 Tryz.func64 rfl rfl sM ?_
  have hE0 : Ext w w := Ext.refl w
  have hl_va := ha.lenle
  have hfc := fl_code hfl o.toNat
  have hpar := hfl.hv.par f.toNat oM
  have hal := hfl.hl
  have ha0 := hfl.h0
  refine wp_seq (wp_plain _ [0, 0] rfl (lw_tvn 2 rfl (wp_seq (wp_plain _ [0, 0, 0, 3, 0, 0, 0, 0, 0, 0, 0] rfl (lw_tv 3 rfl (lw_call 81 [] [] [vp, (.int .i64 f), va] rfl rfl cf81 zN (c_spec_l02Eval _ dp vp (p) _ _ _ (hp.ext (good_rP (good_rPr dp)) hE0) _hf (ha.ext g1 hE0) (by exact hfl.hv) (by exact hf) (by exact hfl.hl) (by exact hfl.hn)) ?_))))))
  rintro e1 w1 ⟨v1_0, rfl, hX1, hO1_0, hP1_0, hP1_1⟩
  refine ⟨_, rfl, hX1, ?_⟩
  have hzs1 : w.heap.size ≤ w1.heap.size := hX1.size
  have hE1 : Ext w w1 := hE0.trans hX1
  refine lw_tv 1 rfl (q_extract (vs := [v1_0, (.int .i64 ((evT p 1 f.toNat (sing a) : Nat) : Int)), (.int .i64 (nxC p f.toNat a))]) v1_0 rfl rfl zN (q_extract (vs := [v1_0, (.int .i64 ((evT p 1 f.toNat (sing a) : Nat) : Int)), (.int .i64 (nxC p f.toNat a))]) (.int .i64 ((evT p 1 f.toNat (sing a) : Nat) : Int)) rfl rfl zN (q_extract (vs := [v1_0, (.int .i64 ((evT p 1 f.toNat (sing a) : Nat) : Int)), (.int .i64 (nxC p f.toNat a))]) (.int .i64 (nxC p f.toNat a)) rfl rfl zN (lw_tvn 3 rfl (wp_seq (wp_seq (wp_plain _ [0, 0] rfl ?_)))))))
  have hNC := (‹NxP p f.toNat a›).code
  refine lw_tv 1 rfl ?_
  by_cases hc2 : nxC p f.toNat a ≠ ((0 : Nat) : Int)
  ·
    refine q_neq true rfl rfl (decide_eq_true hc2) zN (lw_nil (c_cond_t rfl (wp_seq (wp_plain _ [3, 0, 0, 0] rfl (r_nil (owL rI 2) o1 u27 ti25 zN fun v3 w3 hX3 hz3 hO3 => ?_)))))
    have hzs3 : w1.heap.size ≤ w3.heap.size := hX3.size
    have hE3 : Ext w w3 := hE1.trans hX3
    have hO1_0x3 := hO1_0.ext (o1) hX3
    exact lw_tvn 3 rfl (wp_ret (t_ret (post_ret [8, 9] rfl (.tuple #[v3, (.int .i64 (nxC p f.toNat a))]) rfl ⟨v3, (by rw [hfc]), hE3, (by rw [flR_e (by rw [hfc]; omega)]; exact (hO3.up o2).low hE1.size), oM⟩)))
  ·
    refine q_neq false rfl rfl (decide_eq_false hc2) zN (lw_nil (c_cond_f rfl (wp_skip (wp_seq (wp_plain _ [3, 0] rfl ?_)))))
    have hc0 : nxC p f.toNat a = 0 := by omega
    refine r_nil (owL rI 2) o1 u27 ti25 zN fun v4 w4 hX4 hz4 hO4 => ?_
    have hzs4 : w1.heap.size ≤ w4.heap.size := hX4.size
    have hE4 : Ext w w4 := hE1.trans hX4
    have hO1_0x4 := hO1_0.ext (o1) hX4
    refine lw_tvn 1 rfl (wp_seq (wp_seq (wp_plain _ [0] rfl (lw_tvn 1 rfl (wp_block ?_)))))
    refine c_loop (S := Nat × Value) (fun (⟨k, vy⟩ : Nat × Value) => ([(13, vy), (14, (.int .i64 ((k : Nat) : Int))), (0, vp), (1, (.int .i64 f)), (2, va), (3, (.int .i64 o))] : List (Nat × Value))) (fun (⟨k, vy⟩ : Nat × Value) (W : World) => Ext w W ∧ Fr (owL (owL rI 2) 25) w1.heap.size W.heap.size W.heap vy ((a.take k).map (cst (o.toNat + 1))) ∧ k ≤ a.length ∧ w1.heap.size ≤ W.heap.size) (fun (⟨k, vy⟩ : Nat × Value) => a.length - k) (0, v4) ⟨rfl, rfl, rfl, rfl, rfl, rfl, trivial⟩ ⟨hE4, hO4.up o2, z64_0, oM⟩ ?_
    clear hE0 hO1_0 hX1 hO4 hz4 hX4 hzs4 hE4 hO1_0x4
    rintro ⟨k, vy⟩ ρ5 w5 ⟨hE5, hL5_0, hp5_0, hkB6⟩
    have hzs5 : w.heap.size ≤ w5.heap.size := hE5.size
    refine wp_seq (wp_seq (wp_plain _ [0, 0, 0, 0] rfl (lw_tv 2 rfl (q_len (v := va) u25 rfl ha.isSl zN ?_))))
    by_cases hc7 : ((k : Nat) : Int) < ((a.length : Nat) : Int)
    ·
      refine q_lss true rfl rfl (decide_eq_true hc7) zN (lw_nil (c_cond_t rfl (wp_skip (wp_seq (wp_block (wp_plain _ [0, 0, 0, 0, 2, 0, 0, 3, 3, 4, 0] rfl (lw_tv 3 rfl (q_idx (v := va) k u25 ti2 rfl rfl ha.isSl rfl z64_0 zN ?_))))))))
      refine q_load (p := eptr va k 1) (.inr rfl) (.int .i64 (a.getD k 0)) one2 rfl (ldH_ext hE5 (ha.getI z64_0).1) zN (lw_tv 1 rfl (q_add ((o.toNat + 1 : Nat) : Int) rfl rfl (by rw [w64 oM oM]; omega) zN ?_))
      refine lw_call 93 [] [] [(.int .i64 (a.getD k 0)), (.int .i64 ((o.toNat + 1 : Nat) : Int))] rfl rfl cf93 zN (c_spec_l01Const _ _ (o.toNat + 1) (ha.getI z64_0).2 z64_0 oM) ?_
      rintro e8 w8 ⟨v8_0, rfl, hX8, hO8_0⟩
      refine ⟨_, rfl, hX8, ?_⟩
      have hzs8 : w5.heap.size ≤ w8.heap.size := hX8.size
      have hE8 : Ext w w8 := hE5.trans hX8
      have hL5_0x8 := hL5_0.ext (o2) hX8
      refine r_one (u := v8_0) (B := w5.heap.size) o1 u27 ti25 rfl rfl hO8_0 (by first | exact Nat.le_refl _ | omega) zN fun v9 w9 hX9 hz9 hO9 => ?_
      have hzs9 : w8.heap.size ≤ w9.heap.size := hX9.size
      have hE9 : Ext w w9 := hE8.trans hX9
      have hL5_0x9 := hL5_0x8.ext (o2) hX9
      refine e_appF o1 (v := vy) (a := v9) u27 ti25 rfl rfl rfl hL5_0x9 oM hO9 oM oM z64_0 (by unfold maxLen; first | omega | assumption | (simp only [List.length_nil, List.length_cons, List.length_append, List.length_set, List.length_replicate, mix_len, spS_len]; omega) | (simp [List.length_nil, List.length_cons, List.length_append, List.length_set, List.length_replicate, mix_len, spS_len]; done) | (simp [List.length_nil, List.length_cons, List.length_append, List.length_set, List.length_replicate, mix_len, spS_len]; omega)) zN fun v10 w10 F10 hC10 hF10 hO10 => ?_
      have hE10 : Ext w w10 := hC10.below hE9 (fun c hc => Nat.le_trans hE1.size (hF10 c hc).1) hE9.size
      have hzs10 : w9.heap.size ≤ w10.heap.size := hC10.size
      refine lw_tvn 1 rfl (wp_plain _ [0, 0, 0] rfl (lw_tv 1 rfl (q_add ((k + 1 : Nat) : Int) rfl rfl (w64n oM z64_0) zN (lw_tvn 1 rfl ?_))))
      exact ⟨((k + 1), v10), _, rfl, ⟨rfl, rfl, rfl, rfl, rfl, rfl, trivial⟩, ⟨hE10, (by rw [map_snoc 0 oM]; exact hO10.up o2), z64_0, oM⟩, by first | omega | (dsimp only; omega)⟩
    ·
      refine q_lss false rfl rfl (decide_eq_false hc7) zN (lw_nil (c_cond_f rfl (wp_exit (t_exit (t_exit (c_exit_here (wp_seq (wp_seq (wp_plain _ [0] rfl (lw_tvn 1 rfl (wp_block ?_)))))))))))
      refine c_loop (S := Nat × List (List Int)) (fun (⟨k, ys⟩ : Nat × List (List Int)) => ([(15, (.int .i64 ((k : Nat) : Int))), (0, vp), (1, (.int .i64 f)), (3, (.int .i64 o)), (13, vy)] : List (Nat × Value))) (fun (⟨k, ys⟩ : Nat × List (List Int)) (W : World) => Ext w W ∧ Fr (owL (owL rI 2) 25) w1.heap.size W.heap.size W.heap vy ys ∧ k ≤ o.toNat ∧ ys = spI p f.toNat (extS a (o.toNat + 1)) k ∧ w1.heap.size ≤ W.heap.size) (fun (⟨k, ys⟩ : Nat × List (List Int)) => o.toNat - k) (0, ((a.take k).map (cst (o.toNat + 1)))) ⟨rfl, rfl, rfl, rfl, rfl, trivial⟩ ⟨hE5, hL5_0.up o2, z64_0, (by rw [List.take_of_length_le oM]; rfl), oM⟩ ?_
      clear hL5_0 hE5 hzs5
      rintro ⟨k, ys⟩ ρ11 w11 ⟨hE11, hL11_0, hp11_0, hyf, hkB12⟩
      have hzs11 : w.heap.size ≤ w11.heap.size := hE11.size
      refine wp_seq (wp_seq (wp_plain _ [0, 0, 0] rfl (lw_tv 2 rfl ?_)))
      by_cases hc13 : ((k : Nat) : Int) < o
      ·
        refine q_lss true rfl rfl (decide_eq_true hc13) zN (lw_nil (c_cond_t rfl (wp_skip (wp_seq (wp_block (wp_seq (wp_plain _ [0, 0, 0, 0, 0, 3, 0, 0, 3, 0, 0, 0, 0, 0] rfl ?_)))))))
        have hsp := sp_all (o := o.toNat) hfl hc0 k oM
        have hso := hsp.out hfl hc0 oM
        have hsl := hsp.len
        have hss := hsp.ser
        unfold spO at hso
        rw [← hyf] at hso hsl hss
        have hov := hso.2.2.1.ser
        refine lw_tv 4 rfl (q_add ((k + 1 : Nat) : Int) rfl rfl (w64n oM z64_0) zN ?_)
        refine lw_call 101 [] [] [vy, (.int .i64 ((k + 1 : Nat) : Int))] rfl rfl cf101 zN (c_spec_l07Cut _ vy (ys) (w1.heap.size) (w11.heap.size) (k + 1) hL11_0 oM z64_0 (by intro j hj; have := (hss j hj).1; omega) oM) ?_
        rintro e14 w14 ⟨v14_0, rfl, hX14, hO14_0⟩
        refine ⟨_, rfl, hX14, ?_⟩
        have hzs14 : w11.heap.size ≤ w14.heap.size := hX14.size
        have hE14 : Ext w w14 := hE11.trans hX14
        have hL11_0x14 := hL11_0.ext (o2) hX14
        refine lw_tv 1 rfl (q_add ((k + 1 : Nat) : Int) rfl rfl (w64n oM z64_0) zN (lw_call 65 [] [] [vp, (.int .i64 f), v14_0, (.int .i64 ((k + 1 : Nat) : Int))] rfl rfl cf65 zN (c_spec_l03Eval _ dp vp (p) _ v14_0 (ys.map (cut (k + 1))) (k + 1) (hp.ext (good_rP (good_rPr dp)) hE14) _hf (RN.of_fr2 hO14_0 (fun b hb => by cases hb)) hO14_0.cap (by exact hfl.hv) (by exact hf) (by rw [List.length_map]; omega) (by exact hso.1) oM) ?_))
        rintro e15 w15 ⟨v15_0, rfl, hX15, hO15_0, hP15_0⟩
        refine ⟨_, rfl, hX15, ?_⟩
        have hzs15 : w14.heap.size ≤ w15.heap.size := hX15.size
        have hE15 : Ext w w15 := hE14.trans hX15
        have hL11_0x15 := hL11_0x14.ext (o2) hX15
        have hO14_0x15 := hO14_0.ext (o2) hX15
        refine lw_tv 1 rfl (q_extract (vs := [v15_0, (.int .i64 (evD p (k + 1) f.toNat (ys.map (cut (k + 1)))))]) v15_0 rfl rfl zN (q_extract (vs := [v15_0, (.int .i64 (evD p (k + 1) f.toNat (ys.map (cut (k + 1)))))]) (.int .i64 (evD p (k + 1) f.toNat (ys.map (cut (k + 1))))) rfl rfl zN (lw_tvn 2 rfl (wp_seq (wp_plain _ [0] rfl (lw_tvn 1 rfl (wp_block ?_)))))))
        refine c_loop (S := Nat) (fun (i : Nat) => ([(18, (.int .i64 ((i : Nat) : Int))), (0, vp), (1, (.int .i64 f)), (3, (.int .i64 o)), (13, vy), (15, (.int .i64 ((k : Nat) : Int))), (16, v15_0)] : List (Nat × Value))) (fun (i : Nat) (W : World) => Ext w W ∧ Fr (owL (owL rI 2) 25) w1.heap.size w11.heap.size W.heap vy (mix i (spS (evR p (k + 1) f.toNat (ys.map (cut (k + 1)))) ys k) ys) ∧ Fr (owL (owL rI 2) 25) w14.heap.size w15.heap.size W.heap v15_0 (evR p (k + 1) f.toNat (ys.map (cut (k + 1)))) ∧ i ≤ ys.length ∧ w1.heap.size ≤ W.heap.size) (fun (i : Nat) => ys.length - i) 0 ⟨rfl, rfl, rfl, rfl, rfl, rfl, rfl, trivial⟩ ⟨hE15, (by rw [mix_zero]; exact hL11_0x15), hO15_0, z64_0, oM⟩ ?_
        clear hL11_0 hO14_0 hX14 hL11_0x14 hO15_0 hX15 hL11_0x15 hO14_0x15
        rintro i ρ16 w16 ⟨hE16, hL16_0, hL16_1, hp16_0, hkB17⟩
        have hzs16 : w.heap.size ≤ w16.heap.size := hE16.size
        have hml := mix_len i (spS (evR p (k + 1) f.toNat (ys.map (cut (k + 1)))) ys k) ys (spS_len _ _ _)
        refine wp_seq (wp_seq (wp_plain _ [0, 0, 0, 0] rfl (lw_tv 2 rfl (q_len (v := vy) u27 rfl hL16_0.isSl zN ?_))))
        by_cases hc18 : ((i : Nat) : Int) < (((mix i (spS (evR p (k + 1) f.toNat (ys.map (cut (k + 1)))) ys k) ys).length : Nat) : Int)
        ·
          refine q_lss true rfl rfl (decide_eq_true hc18) zN (lw_nil (c_cond_t rfl (wp_skip (wp_seq (wp_block (wp_draw _ [0, 0, 0, 1, 0, 0, 0, 0, 0, 1, 0, 0, 1, 0, 0, 0, 0, 0, 4] mixed (by kernel_rfl) ?_))))))
          have hrw := spS_row (out := (evR p (k + 1) f.toNat (ys.map (cut (k + 1))))) (k := k) (y := ys) (i := i) oM
          have hrwl := congrArg List.length hrw
          have hrl := (hss i oM).1
          have hol := (hov i oM).1
          have hin := inv_num (((k + 1 : Nat)) : Int)
          refine lw_tv 2 rfl (q_idx (v := vy) i u27 ti25 rfl rfl hL16_0.isSl rfl z64_0 zN ?_)
          obtain ⟨ue19, hl19, hd19⟩ := hL16_0.rd2.get (k := i) [] z64_0
          have hln19 := hd19.lenle
          refine q_load (p := eptr vy i 1) (.inl rfl) ue19 one25 rfl hl19 zN (lw_tv 1 rfl (q_add ((k + 1 : Nat) : Int) rfl rfl (w64n oM z64_0) zN (lw_tv 2 rfl ?_)))
          refine q_idx (v := v15_0) i u27 ti25 rfl rfl hL16_1.isSl rfl z64_0 zN ?_
          obtain ⟨ue20, hl20, hd20⟩ := hL16_1.rd2.get (k := i) [] z64_0
          have hln20 := hd20.lenle
          refine q_load (p := eptr v15_0 i 1) (.inl rfl) ue20 one25 rfl hl20 zN (lw_tv 1 rfl (q_idx (v := ue20) k u25 ti2 rfl rfl hd20.isSl rfl z64_0 zN ?_))
          refine q_load (p := eptr ue20 k 1) (.inl rfl) (.int .i64 (((evR p (k + 1) f.toNat (ys.map (cut (k + 1)))).getD i []).getD k 0)) one2 rfl (hd20.getI z64_0).1 zN (lw_tv 1 rfl (q_add ((k + 1 : Nat) : Int) rfl rfl (w64n oM oM) zN (lw_callq 98 [] [] [(.int .i64 ((k + 1 : Nat) : Int))] rfl rfl cf98 zN (.int .i64 (inv ((k + 1 : Nat) : Int))) (fun wq => c_spec_l01Inv wq _ oM) ?_)))
          refine lw_callq 94 [] [] [(.int .i64 (((evR p (k + 1) f.toNat (ys.map (cut (k + 1)))).getD i []).getD k 0)), (.int .i64 (inv ((k + 1 : Nat) : Int)))] rfl rfl cf94 zN (.int .i64 (md ((((evR p (k + 1) f.toNat (ys.map (cut (k + 1)))).getD i []).getD k 0) * (inv ((k + 1 : Nat) : Int))))) (fun wq => c_spec_Times wq _ _ (hd20.getI z64_0).2 (inv_rng _)) ?_
          refine q_idx (v := ue19) (k + 1) u25 ti2 rfl rfl hd19.isSl rfl z64_0 zN ?_
          refine e_setM (v := vy) (u := ue19) (w := w16.drew) sz2 rfl rfl (md_rng _) hL16_0 z64_0 hl19 z64_0 zN fun w23 F23 hC23 hz23 hF23 hO23 => ?_
          replace hC23 := hC23.of_drew
          have hE23 : Ext w w23 := hC23.below hE16 (fun c hc => Nat.le_trans hE1.size (hF23 c hc).1) hE16.size
          have hzs23 : w16.heap.size ≤ w23.heap.size := hC23.size
          have hF24 := hL16_1.chg (o2) hC23 (fun c hc => by have := hF23 c hc; omega)
          refine lw_nil (wp_plain _ [0, 0, 0] rfl (lw_tv 1 rfl (q_add ((i + 1 : Nat) : Int) rfl rfl (w64n oM z64_0) zN (lw_tvn 1 rfl ?_))))
          exact ⟨(i + 1), _, rfl, ⟨rfl, rfl, rfl, rfl, rfl, rfl, rfl, trivial⟩, ⟨hE23, (by rw [spS_step oM]; have h := hO23; rw [hrw] at h; exact h), hF24, z64_0, oM⟩, by first | omega | (dsimp only; omega)⟩
        ·
          refine q_lss false rfl rfl (decide_eq_false hc18) zN (lw_nil (c_cond_f rfl (wp_exit (t_exit (t_exit (c_exit_here (wp_plain _ [0, 0, 0] rfl (lw_tv 1 rfl (q_add ((k + 1 : Nat) : Int) rfl rfl (w64n oM z64_0) zN (lw_tvn 1 rfl ?_))))))))))
          exact ⟨((k + 1), (mix i (spS (evR p (k + 1) f.toNat (ys.map (cut (k + 1)))) ys k) ys)), _, rfl, ⟨rfl, rfl, rfl, rfl, rfl, trivial⟩, ⟨hE16, hL16_0.up o2, z64_0, (by rw [mix_all (spS_len _ _ _) oM, hyf]; rfl), oM⟩, by first | omega | (dsimp only; omega)⟩
      ·
        refine q_lss false rfl rfl (decide_eq_false hc13) zN (lw_nil (c_cond_f rfl (wp_exit (t_exit (t_exit (c_exit_here (wp_seq (wp_plain _ [0, 0, 0] rfl (lw_tvn 3 rfl (wp_ret ?_))))))))))
        have hke : k = o.toNat := by omega
        exact post_ret [8, 9] rfl (.tuple #[vy, (.int .i64 ((0 : Nat) : Int))]) rfl ⟨vy, (by rw [hfc, hc0]; rfl), hE11, (by have h := (hL11_0.up o2).low hE1.size; rw [show flR p f.toNat (extS a (o.toNat + 1)) (o.toNat + 1) = ys from by unfold flR; rw [if_pos (by rw [hfc, hc0]), ← sp_flow hfl hc0, hyf, hke]]; exact h), oM⟩
theorem c_spec_FlowOf (w : World) (dp : Nat) (vp : Value) (p : List Fn) (f : Int) (va : Value) (a : List Int) (o : Int) (hp : RP [] dp w.heap vp p) (_hf : -9223372036854775808 ≤ f ∧ f ≤ 9223372036854775807) (ha : Rd (rdL rI) w.heap va a) (_ho : -9223372036854775808 ≤ o ∧ o ≤ 9223372036854775807) (hz : SzP p) :
    Calls Tryz.prog 30 #[(.agg #[vp]), .int .i64 f, va, .int .i64 o] w (fun e w' => ∃ v0 : Value, e = .returned (.tuple #[v0, .int .i64 (foC p f a o)]) ∧ Ext w w' ∧ Fr (owL (owL rI 2) 25) w.heap.size w'.heap.size w'.heap v0 (foR p f a o)) := by
  refine calls_mk [(.agg #[vp]), .int .i64 f, va, .int .i64 o] 25 Tryz.func30 rfl rfl sM ?_
  have hE0 : Ext w w := Ext.refl w
  have hl_vp := hp.lenle
  unfold maxLen at hl_vp
  have hl_va := ha.lenle
  refine wp_seq (wp_plain _ [3, 0, 0] rfl (r_boxA (cs := #[vp]) rfl zN fun w1 hX1 hz1 hB1 => ?_))
  have hzs1 : w.heap.size ≤ w1.heap.size := hX1.size
  have hE1 : Ext w w1 := hE0.trans hX1
  replace hB1 : BX w1.heap w.heap.size [vp] := hB1
  refine lw_tvn 2 rfl (wp_seq (wp_seq (wp_plain _ [0, 0, 0, 3, 0] rfl (lw_tv 3 rfl (lw_call 62 [] [] [(.pointer (some ⟨w.heap.size, 0, none⟩)), (.int .i64 f), va, (.int .i64 o)] rfl rfl cf62 zN (c_spec_l07Field _ dp ((.pointer (some ⟨w.heap.size, 0, none⟩))) (p) _ _ _ _ (RN.box hB1 (RP.mk' (hp.ext (good_rdS (good_rFn dp)) hE1)) sM) _hf (ha.ext g1 hE1) _ho (by exact hz)) ?_)))))
  rintro e2 w2 ⟨rfl, hX2⟩
  refine ⟨_, rfl, hX2, ?_⟩
  have hzs2 : w1.heap.size ≤ w2.heap.size := hX2.size
  have hE2 : Ext w w2 := hE1.trans hX2
  have hB1x2 := hB1.ext hX2
  refine lw_tvn 1 rfl (wp_seq (wp_plain _ [0, 0] rfl (lw_tv 1 rfl ?_)))
  by_cases hc3 : stC p f o [a] ≠ ((0 : Nat) : Int)
  ·
    refine q_neq true rfl rfl (decide_eq_true hc3) zN (lw_nil (c_cond_t rfl (wp_seq (wp_plain _ [3, 0, 0, 0] rfl (r_nil (owL rI 2) o1 u27 ti25 zN fun v4 w4 hX4 hz4 hO4 => ?_)))))
    have hzs4 : w2.heap.size ≤ w4.heap.size := hX4.size
    have hE4 : Ext w w4 := hE2.trans hX4
    have hB1x4 := hB1x2.ext hX4
    exact lw_tvn 3 rfl (wp_ret (t_ret (post_ret [8, 9] rfl (.tuple #[v4, (.int .i64 (stC p f o [a]))]) rfl ⟨v4, (by rw [foC_n oM]), hE4, (by rw [foR_n oM]; exact (hO4.up o2).low hE2.size)⟩)))
  ·
    refine q_neq false rfl rfl (decide_eq_false hc3) zN (lw_nil (c_cond_f rfl (wp_skip (wp_seq (wp_plain _ [0, 0, 0, 3, 0, 0, 0, 0] rfl ?_)))))
    have hst0 : stC p f o [a] = 0 := by omega
    have hq0 := fld_of hst0
    refine lw_tv 3 rfl (lw_call 64 [] [] [(.pointer (some ⟨w.heap.size, 0, none⟩)), (.int .i64 f), va, (.int .i64 o)] rfl rfl cf64 zN (c_spec_l07Flow _ dp ((.pointer (some ⟨w.heap.size, 0, none⟩))) (p) _ _ _ _ (RN.box hB1x2 (RP.mk' (hp.ext (good_rdS (good_rFn dp)) hE2)) sM) _hf (ha.ext g1 hE2) _ho (by exact hq0.1) (by exact hq0.2.1) (by exact hq0.2.2)) ?_)
    rintro e5 w5 ⟨v5_0, rfl, hX5, hO5_0, hP5_0⟩
    refine ⟨_, rfl, hX5, ?_⟩
    have hzs5 : w2.heap.size ≤ w5.heap.size := hX5.size
    have hE5 : Ext w w5 := hE2.trans hX5
    have hB1x5 := hB1x2.ext hX5
    exact q_extract (vs := [v5_0, (.int .i64 (flC p f.toNat (extS a (o.toNat + 1)) (o.toNat + 1)))]) v5_0 rfl rfl zN (q_extract (vs := [v5_0, (.int .i64 (flC p f.toNat (extS a (o.toNat + 1)) (o.toNat + 1)))]) (.int .i64 (flC p f.toNat (extS a (o.toNat + 1)) (o.toNat + 1))) rfl rfl zN (lw_tvn 2 rfl (wp_ret (post_ret [8, 9] rfl (.tuple #[v5_0, (.int .i64 (flC p f.toNat (extS a (o.toNat + 1)) (o.toNat + 1)))]) rfl ⟨v5_0, (by rw [foC_0 hst0]), hE5, (by rw [foR_0 hst0]; exact (hO5_0.up o2).low hE2.size)⟩))))
/-- What a check of a flow returns. -/
def ckR (p : List Fn) (f : Int) (y : List Sr) : Bool := if psC p f y = 0 then ckB (alR p f y) y else false
end Go.Proofs.YtnofbmdpabcjaaaGreat
namespace Go.Proofs.YtnofbmdpabcjaaaGreat
open Go Go.RowKit
set_option linter.unusedVariables false
set_option linter.unusedSimpArgs false
set_option maxHeartbeats 4000000
set_option maxRecDepth 100000
attribute [local irreducible] LW
theorem c_slices_Equal___int64_int64_ (w : World) (va : Value) (a : List Int) (vb : Value) (b : List Int) (ha : Rd (rdL rI) w.heap va a) (hb : Rd (rdL rI) w.heap vb b)  :
    Calls Tryz.prog 59 #[va, vb] w (fun e w' => e = .returned (.bool (decide (a = b))) ∧ Ext w w') := by
  refine calls_mk [va, vb] 26 Tryz.func59 rfl rfl sM ?_
  have hE0 : Ext w w := Ext.refl w
  have hl_va := ha.lenle
  have hl_vb := hb.lenle
  refine wp_seq (wp_plain _ [0] rfl (lw_tvn 1 rfl (wp_seq (wp_seq (wp_plain _ [0, 0, 0, 0, 0] rfl (lw_tv 1 rfl (q_len (v := va) u25 rfl ha.isSl zN (lw_tv 1 rfl (q_len (v := vb) u25 rfl hb.isSl zN ?_)))))))))
  by_cases hc1 : ((a.length : Nat) : Int) ≠ ((b.length : Nat) : Int)
  ·
    exact q_neq true rfl rfl (decide_eq_true hc1) zN (lw_nil (c_cond_t rfl (wp_seq (wp_plain _ [0] rfl (lw_tvn 1 rfl (wp_ret (t_ret (post_ret [4] rfl (.bool false) rfl ⟨(ret_bool (decide_eq_false (leq_len oM)).symm), hE0⟩))))))))
  ·
    refine q_neq false rfl rfl (decide_eq_false hc1) zN (lw_nil (c_cond_f rfl (wp_skip (wp_seq (wp_seq (wp_plain _ [0, 0, 0] rfl (lw_tv 1 rfl (q_len (v := va) u25 rfl ha.isSl zN (lw_tvn 1 rfl (wp_block ?_))))))))))
    refine c_loop (S := Nat) (fun (k : Nat) => ([(13, (.int .i64 ((k : Nat) : Int))), (0, va), (1, vb), (12, (.int .i64 ((a.length : Nat) : Int)))] : List (Nat × Value))) (fun (k : Nat) (W : World) => Ext w W ∧ k ≤ a.length ∧ (∀ j, j < k → a.getD j 0 = b.getD j 0)) (fun (k : Nat) => a.length - k) 0 ⟨rfl, rfl, rfl, rfl, trivial⟩ ⟨hE0, sD, (by intro j hj; omega)⟩ ?_
    clear hE0
    rintro k ρ2 w2 ⟨hE2, hp2_0, hq⟩
    have hzs2 : w.heap.size ≤ w2.heap.size := hE2.size
    refine wp_seq (wp_plain _ [0] rfl ?_)
    by_cases hc3 : ((k : Nat) : Int) < ((a.length : Nat) : Int)
    ·
      refine q_lss true rfl rfl (decide_eq_true hc3) zN (lw_nil (wp_seq (c_cond_t rfl (wp_skip (wp_seq (wp_block (wp_seq (wp_plain _ [0, 0] rfl (lw_tvn 2 rfl (wp_seq (wp_draw _ [0, 0, 0, 1, 0, 0, 0, 1, 0] mixed (by kernel_rfl) (lw_tv 2 rfl (q_idx (v := va) k u25 ti2 rfl rfl ha.isSl rfl sD zN ?_)))))))))))))
      refine q_load (p := eptr va k 1) (.inl rfl) (.int .i64 (a.getD k 0)) one2 rfl (ldH_ext hE2.drew (ha.getI sD).1) zN (lw_tv 2 rfl ?_)
      refine q_idx (v := vb) k u25 ti2 rfl rfl hb.isSl rfl sD zN ?_
      refine q_load (p := eptr vb k 1) (.inl rfl) (.int .i64 (b.getD k 0)) one2 rfl (ldH_ext hE2.drew (hb.getI sD).1) zN ?_
      by_cases hc4 : a.getD k 0 ≠ b.getD k 0
      ·
        exact q_neq true rfl rfl (decide_eq_true hc4) zN (lw_nil (c_cond_t rfl (wp_seq (wp_plain _ [0] rfl (lw_tvn 1 rfl (wp_ret (b_ret (t_ret (t_ret (b_ret (t_ret (post_ret [4] rfl (.bool false) rfl ⟨(ret_bool (decide_eq_false (leq_fail (d := 0) (k := k) oM)).symm), hE2.drew⟩))))))))))))
      ·
        refine q_neq false rfl rfl (decide_eq_false hc4) zN (lw_nil (c_cond_f rfl (wp_skip (wp_plain _ [0, 0] rfl (q_add ((k + 1 : Nat) : Int) rfl rfl (w64n oM sD) zN (lw_tvn 1 rfl ?_))))))
        exact ⟨(k + 1), _, rfl, ⟨rfl, rfl, rfl, rfl, trivial⟩, ⟨hE2.drew, sD, (by exact leq_step hq oM)⟩, by first | omega | (dsimp only; omega)⟩
    ·
      exact q_lss false rfl rfl (decide_eq_false hc3) zN (lw_nil (wp_seq (c_cond_f rfl (wp_exit (t_exit (t_exit (c_exit_here (wp_seq (wp_plain _ [0] rfl (lw_tvn 1 rfl (wp_ret (post_ret [4] rfl (.bool true) rfl ⟨(ret_bool (decide_eq_true (leq_done hq oM oM)).symm), hE2⟩))))))))))))
theorem c_impl_CheckFlow_1 (w : World) (va : Value) (a : List Int) (vb : Value) (b : List Int) (ha : Rd (rdL rI) w.heap va a) (hb : Rd (rdL rI) w.heap vb b)  :
    Calls Tryz.prog 58 #[va, vb] w (fun e w' => e = .returned (.bool (decide (a = b))) ∧ Ext w w') := by
  refine calls_mk [va, vb] 8 Tryz.func58 rfl rfl sM ?_
  have hE0 : Ext w w := Ext.refl w
  have hl_va := ha.lenle
  have hl_vb := hb.lenle
  refine wp_seq (wp_plain _ [0] rfl (lw_tvn 1 rfl (wp_seq (wp_plain _ [0, 0, 3, 0] rfl (lw_tv 2 rfl (lw_call 59 [] [] [va, vb] rfl rfl cf59 zN (c_slices_Equal___int64_int64_ _ _ _ _ _ (ha.ext g1 hE0) (hb.ext g1 hE0)) ?_))))))
  rintro e1 w1 ⟨rfl, hX1⟩
  refine ⟨_, rfl, hX1, ?_⟩
  have hzs1 : w.heap.size ≤ w1.heap.size := hX1.size
  have hE1 : Ext w w1 := hE0.trans hX1
  exact lw_tvn 1 rfl (wp_ret (post_ret [4] rfl (.bool (decide (a = b))) rfl ⟨rfl, hE1⟩))
theorem c_slices_EqualFunc_____int64_____int64___int64___int64_ (w : World) (va : Value) (a : List (List Int)) (vb : Value) (b : List (List Int)) (q : Nat) (qf qc : List Value) (pr : List Int → List Int → Bool) (ha : Rd (rdL (rdL rI)) w.heap va a) (hb : Rd (rdL (rdL rI)) w.heap vb b) (hcf_q : ((Tryz.prog.funcs[q]?).map fun fn => (fn.name != "runtime.NumGoroutine") && fn.body.isSome) = some true) (hpr : ∀ (u1 : Value) (x1 : List Int) (u2 : Value) (x2 : List Int) w1, Rd (rdL rI) w1.heap u1 x1 → Rd (rdL rI) w1.heap u2 x2 → Ext w w1 → Calls Tryz.prog q (qf ++ [u1, u2] ++ qc).toArray w1 (fun e w2 => e = .returned (.bool (pr x1 x2)) ∧ Ext w1 w2))  :
    Calls Tryz.prog 57 #[va, vb, .func (.func q) qf.toArray qc.toArray] w (fun e w' => e = .returned (.bool (eqL pr a b)) ∧ Ext w w') := by
  refine calls_mk [va, vb, .func (.func q) qf.toArray qc.toArray] 32 Tryz.func57 rfl rfl sM ?_
  have hE0 : Ext w w := Ext.refl w
  have hl_va := ha.lenle
  have hl_vb := hb.lenle
  refine wp_seq (wp_plain _ [0] rfl (lw_tvn 1 rfl (wp_seq (wp_seq (wp_plain _ [0, 0, 0, 0, 0] rfl (lw_tv 1 rfl (q_len (v := va) u27 rfl ha.isSl zN (lw_tv 1 rfl (q_len (v := vb) u27 rfl hb.isSl zN ?_)))))))))
  by_cases hc1 : ((a.length : Nat) : Int) ≠ ((b.length : Nat) : Int)
  ·
    exact q_neq true rfl rfl (decide_eq_true hc1) zN (lw_nil (c_cond_t rfl (wp_seq (wp_plain _ [0] rfl (lw_tvn 1 rfl (wp_ret (t_ret (post_ret [6] rfl (.bool false) rfl ⟨(ret_bool (by unfold eqL; rw [decide_eq_false oM]; rfl)), hE0⟩))))))))
  ·
    refine q_neq false rfl rfl (decide_eq_false hc1) zN (lw_nil (c_cond_f rfl (wp_skip (wp_seq (wp_seq (wp_plain _ [0, 0, 0] rfl (lw_tv 1 rfl (q_len (v := va) u27 rfl ha.isSl zN (lw_tvn 1 rfl (wp_block ?_))))))))))
    refine c_loop (S := Nat) (fun (k : Nat) => ([(17, (.int .i64 ((k : Nat) : Int))), (1, vb), (2, (.func (.func q) qf.toArray qc.toArray)), (15, va), (16, (.int .i64 ((a.length : Nat) : Int)))] : List (Nat × Value))) (fun (k : Nat) (W : World) => Ext w W ∧ k ≤ a.length ∧ (List.range k).all (fun i => pr (a.getD i []) (b.getD i [])) = true) (fun (k : Nat) => a.length - k) 0 ⟨rfl, rfl, rfl, rfl, rfl, trivial⟩ ⟨hE0, sD, (by rfl)⟩ ?_
    clear hE0
    rintro k ρ2 w2 ⟨hE2, hp2_0, hq⟩
    have hzs2 : w.heap.size ≤ w2.heap.size := hE2.size
    refine wp_seq (wp_plain _ [0] rfl ?_)
    by_cases hc3 : ((k : Nat) : Int) < ((a.length : Nat) : Int)
    ·
      refine q_lss true rfl rfl (decide_eq_true hc3) zN (lw_nil (wp_seq (c_cond_t rfl (wp_skip (wp_seq (wp_block (wp_seq (wp_plain _ [0, 0, 2, 0, 0] rfl (lw_tv 1 rfl (q_idx (v := va) k u27 ti25 rfl rfl ha.isSl rfl sD zN ?_))))))))))
      obtain ⟨ue4, hl4, hd4⟩ := ha.get (k := k) [] sD
      have hln4 := hd4.lenle
      refine q_load (p := eptr va k 1) (.inr rfl) ue4 one25 rfl (ldH_ext hE2 hl4) zN (lw_tvn 2 rfl (wp_seq (wp_plain _ [0, 0, 0, 2, 0] rfl (lw_tv 2 rfl (q_idx (v := vb) k u27 ti25 rfl rfl hb.isSl rfl sD zN ?_)))))
      obtain ⟨ue5, hl5, hd5⟩ := hb.get (k := k) [] sD
      have hln5 := hd5.lenle
      refine q_load (p := eptr vb k 1) (.inr rfl) ue5 one25 rfl (ldH_ext hE2 hl5) zN (lw_tvn 1 rfl (wp_seq (wp_plain _ [0, 0, 0, 3, 0] rfl (lw_tv 3 rfl (lw_call q qf qc _ rfl rfl hcf_q zN (hpr _ _ _ _ _ (hd4.ext g1 hE2) (hd5.ext g1 hE2) hE2) ?_)))))
      rintro e6 w6 ⟨rfl, hX6⟩
      refine ⟨_, rfl, hX6, ?_⟩
      have hzs6 : w2.heap.size ≤ w6.heap.size := hX6.size
      have hE6 : Ext w w6 := hE2.trans hX6
      cases hc6 : pr (a.getD k []) (b.getD k [])
      ·
        exact q_not true rfl rfl zN (lw_nil (c_cond_t rfl (wp_seq (wp_plain _ [0] rfl (lw_tvn 1 rfl (wp_ret (b_ret (t_ret (t_ret (b_ret (t_ret (post_ret [6] rfl (.bool false) rfl ⟨(ret_bool (by unfold eqL; rw [allR_fail (f := fun i => pr (a.getD i []) (b.getD i [])) (k := k) oM (by assumption), Bool.and_false])), hE6⟩))))))))))))
      ·
        refine q_not false rfl rfl zN (lw_nil (c_cond_f rfl (wp_skip (wp_plain _ [0, 0] rfl (q_add ((k + 1 : Nat) : Int) rfl rfl (w64n oM sD) zN (lw_tvn 1 rfl ?_))))))
        exact ⟨(k + 1), _, rfl, ⟨rfl, rfl, rfl, rfl, rfl, trivial⟩, ⟨hE6, sD, (by exact allR_succ hq (by assumption))⟩, by first | omega | (dsimp only; omega)⟩
    ·
      exact q_lss false rfl rfl (decide_eq_false hc3) zN (lw_nil (wp_seq (c_cond_f rfl (wp_exit (t_exit (t_exit (c_exit_here (wp_seq (wp_plain _ [0] rfl (lw_tvn 1 rfl (wp_ret (post_ret [6] rfl (.bool true) rfl ⟨(ret_bool (by unfold eqL; rw [show a.length = k from by omega, hq, decide_eq_true oM]; rfl)), hE2⟩))))))))))))
theorem ck_fld {p : List Fn} {f : Int} {y : List Sr} (h : gvC p f y = 0) : Fld p f.toNat (y.map (fun s => s.getD 0 0)) := by
  obtain ⟨q1, q2, q3, q4, q5, q6⟩ := gvC_0 h
  exact ⟨okP_vpr q1, by omega, by rw [List.length_map]; exact q4.2, q4.1, by rw [List.length_map]; omega, firsts_num q5⟩
theorem ck_code {p : List Fn} {f : Int} {y : List Sr} (h : gvC p f y = 0) : flC p f.toNat (extS (y.map (fun s => s.getD 0 0)) (oOf y + 1)) (oOf y + 1) = psC p f y := by
  have hq := gvC_0 h
  have hf := ck_fld h
  rw [psC_0 h]
  obtain ⟨r1, r2, _⟩ := pic_P hf hq.2.2.2.2.1 (by rw [List.length_map]) ag_firsts
  unfold picC; rw [r2, fl_code hf]
theorem ck_eq {p : List Fn} {f : Int} {y : List Sr} (h : gvC p f y = 0) (hc : psC p f y = 0) : eqL (fun x y => decide (x = y)) (flR p f.toNat (extS (y.map (fun s => s.getD 0 0)) (oOf y + 1)) (oOf y + 1)) y = ckR p f y := by
  have hq := gvC_0 h
  have hf := ck_fld h
  have hc2 := ck_code h
  have hnx : nxC p f.toNat (y.map (fun s => s.getD 0 0)) = 0 := by rw [← fl_code hf (oOf y), hc2, hc]
  rw [eqL_eq]
  unfold ckR alR flR
  rw [if_pos hc, if_pos h, if_pos (by rw [hc2, hc]), ck_flow hf hnx hq.2.2.2.2.2 hq.2.2.2.2.1 (by rw [List.length_map]) ag_firsts]
theorem z24_0 {p : Prop} (h : p := by first | (have h9 : psC p f y = gvC p f y := psC_n oM; unfold ckR; rw [if_neg oM, h9]) | (have h9 : psC p f y ≠ 0 := oM; unfold ckR; rw [if_neg h9, ← hfc]) | (have h9 : psC p f y = 0 := oM; rw [h9, ← ck_eq hg0 h9]; try rfl)) : p := h
theorem c_impl_CheckFlow (w : World) (dp : Nat) (vp : Value) (p : List Fn) (f : Int) (vy : Value) (y : List (List Int)) (hp : RP [] dp w.heap vp p) (_hf : -9223372036854775808 ≤ f ∧ f ≤ 9223372036854775807) (hy : RN [] (rdL (rdL rI)) w.heap vy y) (hqy : CapS vy) (hz : SzP p) :
    Calls Tryz.prog 24 #[(.agg #[vp]), .int .i64 f, vy] w (fun e w' => e = .returned (.tuple #[.bool (ckR p f y), .int .i64 (psC p f y)]) ∧ Ext w w') := by
  refine calls_mk [(.agg #[vp]), .int .i64 f, vy] 34 Tryz.func24 rfl rfl sM ?_
  have hE0 : Ext w w := Ext.refl w
  have hl_vp := hp.lenle
  unfold maxLen at hl_vp
  have hl_vy := hy.lenL
  unfold maxLen at hl_vy
  refine wp_seq (wp_plain _ [3, 0, 0] rfl (r_boxA (cs := #[vp]) rfl zN fun w1 hX1 hz1 hB1 => ?_))
  have hzs1 : w.heap.size ≤ w1.heap.size := hX1.size
  have hE1 : Ext w w1 := hE0.trans hX1
  replace hB1 : BX w1.heap w.heap.size [vp] := hB1
  refine lw_tvn 2 rfl (wp_seq (wp_seq (wp_plain _ [2, 0, 0, 3, 0] rfl (q_loadA (p := (.pointer (some ⟨w.heap.size, 0, none⟩))) (.inr rfl) [vp] agg32 rfl (fun w9 hw9 => LD.of_box (BX.ext (w := w1) hB1 hw9)) rfl zN (lw_tv 2 rfl (lw_call 53 [] [] [(.agg #[vp]), (.int .i64 f), vy] rfl rfl cf53 zN (c_impl_isGiven _ dp vp (p) _ vy (y) (hp.ext (good_rdS (good_rFn dp)) hE1) _hf (hy.ext g2 hE1) hqy (by exact hz)) ?_))))))
  rintro e2 w2 ⟨rfl, hX2⟩
  refine ⟨_, rfl, hX2, ?_⟩
  have hzs2 : w1.heap.size ≤ w2.heap.size := hX2.size
  have hE2 : Ext w w2 := hE1.trans hX2
  have hB1x2 := hB1.ext hX2
  refine lw_tvn 1 rfl (wp_seq (wp_plain _ [0, 0] rfl ?_))
  have hgr := gvC_rng p f y
  refine lw_tv 1 rfl ?_
  by_cases hc3 : gvC p f y ≠ ((0 : Nat) : Int)
  ·
    exact q_neq true rfl rfl (decide_eq_true hc3) zN (lw_nil (c_cond_t rfl (wp_seq (wp_plain _ [0, 0, 0] rfl (lw_tvn 3 rfl (wp_ret (t_ret (post_ret [6, 7] rfl (.tuple #[(.bool false), (.int .i64 (gvC p f y))]) rfl ⟨z24_0, hE2⟩))))))))
  ·
    refine q_neq false rfl rfl (decide_eq_false hc3) zN (lw_nil (c_cond_f rfl (wp_skip (wp_seq (wp_draw2 _ [1, 0, 0, 3, 0, 3, 3, 0, 0, 0, 0, 0] 3 5 [0, 1, 2, 4, 5, 3, 6, 7, 8, 9, 10, 11] [_, _, _, _, _, _, _, _, _, _, _, _] [1, 0, 0, 0, 3, 3, 3, 0, 0, 0, 0, 0] mixed (by kernel_rfl) rfl ⟨rfl, rfl, ⟨rfl, rfl, ⟨rfl, rfl, ⟨rfl, rfl, ⟨rfl, rfl, ⟨rfl, rfl, ⟨rfl, rfl, ⟨rfl, rfl, ⟨rfl, rfl, ⟨rfl, rfl, ⟨rfl, rfl, ⟨rfl, rfl, trivial⟩⟩⟩⟩⟩⟩⟩⟩⟩⟩⟩⟩ ?_ ?_)))))
    ·
      have hg0 : gvC p f y = 0 := by omega
      have hq0 := gvC_0 hg0
      have hfl := ck_fld hg0
      have hfc : flC p f.toNat (extS (y.map (fun s => s.getD 0 0)) (((oOf y : Nat) : Int).toNat + 1)) (((oOf y : Nat) : Int).toNat + 1) = psC p f y := ck_code hg0
      have hy1 := (hq0.2.2.2.2.1 0 oM).1
      have hot : (((oOf y : Nat) : Int)).toNat = oOf y := rfl
      refine q_loadA (p := (.pointer (some ⟨w.heap.size, 0, none⟩))) (.inl rfl) [vp] agg32 rfl (fun w9 hw9 => LD.of_box (BX.ext (w := w2.drew) hB1x2 hw9)) rfl zN (lw_tv 2 rfl (lw_call 55 [] [] [vy] rfl rfl cf55 zN (c_impl_firsts _ _ _ ((hy.ext g2 hE2.drew)).rd oM (by intro k9 hk9; have := (hq0.2.2.2.2.1 k9 hk9).1; omega)) ?_))
      rintro e4 w4 ⟨v4_0, rfl, hX4, hO4_0⟩
      refine ⟨_, rfl, hX4, ?_⟩
      replace hX4 := hX4.of_drew
      have hzs4 : w2.heap.size ≤ w4.heap.size := hX4.size
      have hE4 : Ext w w4 := hE2.trans hX4
      have hB1x4 := hB1x2.ext hX4
      replace hO4_0 := hO4_0.low (B' := w2.heap.size) (Nat.le_refl _)
      refine lw_tv 1 rfl (lw_call 56 [] [] [vy] rfl rfl cf56 zN (c_impl_orderOf _ vy (y) (hy.ext g2 hE4) hqy (by intro _; omega)) ?_)
      rintro e5 w5 ⟨rfl, hX5⟩
      refine ⟨_, rfl, hX5, ?_⟩
      have hzs5 : w4.heap.size ≤ w5.heap.size := hX5.size
      have hE5 : Ext w w5 := hE4.trans hX5
      have hB1x5 := hB1x4.ext hX5
      have hO4_0x5 := hO4_0.ext (o1) hX5
      refine lw_call 54 [] [] [(.agg #[vp]), (.int .i64 f), v4_0, (.int .i64 ((oOf y : Nat) : Int))] rfl rfl cf54 zN (c_impl_Program_flow _ dp vp (p) _ _ _ _ (hp.ext (good_rdS (good_rFn dp)) hE5) _hf hO4_0x5.rd1 (by unfold oOf; omega) (by exact hfl.hv) oM (by exact hfl.hl) (by exact hfl.ho) (by exact hfl.h0) (by exact hfl.hn) oM) ?_
      rintro e6 w6 ⟨v6_0, rfl, hX6, hO6_0, hP6_0⟩
      refine ⟨_, rfl, hX6, ?_⟩
      have hzs6 : w5.heap.size ≤ w6.heap.size := hX6.size
      have hE6 : Ext w w6 := hE5.trans hX6
      have hB1x6 := hB1x5.ext hX6
      have hO4_0x6 := hO4_0x5.ext (o1) hX6
      refine lw_tv 1 rfl (q_extract (vs := [v6_0, (.int .i64 (flC p f.toNat (extS (y.map (fun s => s.getD 0 0)) (((oOf y : Nat) : Int).toNat + 1)) (((oOf y : Nat) : Int).toNat + 1)))]) v6_0 rfl rfl zN (q_extract (vs := [v6_0, (.int .i64 (flC p f.toNat (extS (y.map (fun s => s.getD 0 0)) (((oOf y : Nat) : Int).toNat + 1)) (((oOf y : Nat) : Int).toNat + 1)))]) (.int .i64 (flC p f.toNat (extS (y.map (fun s => s.getD 0 0)) (((oOf y : Nat) : Int).toNat + 1)) (((oOf y : Nat) : Int).toNat + 1))) rfl rfl zN (lw_tvn 2 rfl (wp_seq (wp_seq (wp_plain _ [0, 0] rfl (lw_tv 1 rfl ?_)))))))
      by_cases hc7 : flC p f.toNat (extS (y.map (fun s => s.getD 0 0)) (((oOf y : Nat) : Int).toNat + 1)) (((oOf y : Nat) : Int).toNat + 1) ≠ ((0 : Nat) : Int)
      ·
        exact q_neq true rfl rfl (decide_eq_true hc7) zN (lw_nil (c_cond_t rfl (wp_seq (wp_plain _ [0, 0, 0] rfl (lw_tvn 3 rfl (wp_ret (t_ret (post_ret [6, 7] rfl (.tuple #[(.bool false), (.int .i64 (flC p f.toNat (extS (y.map (fun s => s.getD 0 0)) (((oOf y : Nat) : Int).toNat + 1)) (((oOf y : Nat) : Int).toNat + 1)))]) rfl ⟨z24_0, hE6⟩))))))))
      ·
        refine q_neq false rfl rfl (decide_eq_false hc7) zN (lw_nil (c_cond_f rfl (wp_skip (wp_seq (wp_plain _ [0, 0, 3, 0, 0] rfl (lw_tv 2 rfl (lw_call 57 [] [] [v6_0, vy, (.func (.func 58) #[] #[])] rfl rfl cf57 zN (c_slices_EqualFunc_____int64_____int64___int64___int64_ _ _ _ _ _ 58 [] [] (fun x y => decide (x = y)) hO6_0.rd2 ((hy.ext g2 hE6)).rd cf58 (fun u1 x1 u2 x2 w1 h1 h2 hw => c_impl_CheckFlow_1 w1 u1 x1 u2 x2 h1 h2)) ?_)))))))
        rintro e8 w8 ⟨rfl, hX8⟩
        refine ⟨_, rfl, hX8, ?_⟩
        have hzs8 : w6.heap.size ≤ w8.heap.size := hX8.size
        have hE8 : Ext w w8 := hE6.trans hX8
        have hB1x8 := hB1x6.ext hX8
        have hO4_0x8 := hO4_0x6.ext (o1) hX8
        have hO6_0x8 := hO6_0.ext (o2) hX8
        exact lw_tvn 2 rfl (wp_ret (post_ret [6, 7] rfl (.tuple #[(.bool (eqL (fun x y => decide (x = y)) (flR p f.toNat (extS (y.map (fun s => s.getD 0 0)) (((oOf y : Nat) : Int).toNat + 1)) (((oOf y : Nat) : Int).toNat + 1)) y)), (.int .i64 ((0 : Nat) : Int))]) rfl ⟨z24_0, hE8⟩))
    ·
      have hg0 : gvC p f y = 0 := by omega
      have hq0 := gvC_0 hg0
      have hfl := ck_fld hg0
      have hfc : flC p f.toNat (extS (y.map (fun s => s.getD 0 0)) (((oOf y : Nat) : Int).toNat + 1)) (((oOf y : Nat) : Int).toNat + 1) = psC p f y := ck_code hg0
      have hy1 := (hq0.2.2.2.2.1 0 oM).1
      have hot : (((oOf y : Nat) : Int)).toNat = oOf y := rfl
      refine q_loadA (p := (.pointer (some ⟨w.heap.size, 0, none⟩))) (.inl rfl) [vp] agg32 rfl (fun w9 hw9 => LD.of_box (BX.ext (w := w2.drew) hB1x2 hw9)) rfl zN (lw_tv 3 rfl (lw_call 56 [] [] [vy] rfl rfl cf56 zN (c_impl_orderOf _ vy (y) (hy.ext g2 hE2.drew) hqy (by intro _; omega)) ?_))
      rintro e9 w9 ⟨rfl, hX9⟩
      refine ⟨_, rfl, hX9, ?_⟩
      replace hX9 := hX9.of_drew
      have hzs9 : w2.heap.size ≤ w9.heap.size := hX9.size
      have hE9 : Ext w w9 := hE2.trans hX9
      have hB1x9 := hB1x2.ext hX9
      refine lw_call 55 [] [] [vy] rfl rfl cf55 zN (c_impl_firsts _ _ _ ((hy.ext g2 hE9)).rd oM (by intro k9 hk9; have := (hq0.2.2.2.2.1 k9 hk9).1; omega)) ?_
      rintro e10 w10 ⟨v10_0, rfl, hX10, hO10_0⟩
      refine ⟨_, rfl, hX10, ?_⟩
      have hzs10 : w9.heap.size ≤ w10.heap.size := hX10.size
      have hE10 : Ext w w10 := hE9.trans hX10
      have hB1x10 := hB1x9.ext hX10
      refine lw_call 54 [] [] [(.agg #[vp]), (.int .i64 f), v10_0, (.int .i64 ((oOf y : Nat) : Int))] rfl rfl cf54 zN (c_impl_Program_flow _ dp vp (p) _ _ _ _ (hp.ext (good_rdS (good_rFn dp)) hE10) _hf hO10_0.rd1 (by unfold oOf; omega) (by exact hfl.hv) oM (by exact hfl.hl) (by exact hfl.ho) (by exact hfl.h0) (by exact hfl.hn) oM) ?_
      rintro e11 w11 ⟨v11_0, rfl, hX11, hO11_0, hP11_0⟩
      refine ⟨_, rfl, hX11, ?_⟩
      have hzs11 : w10.heap.size ≤ w11.heap.size := hX11.size
      have hE11 : Ext w w11 := hE10.trans hX11
      have hB1x11 := hB1x10.ext hX11
      have hO10_0x11 := hO10_0.ext (o1) hX11
      refine lw_tv 1 rfl (q_extract (vs := [v11_0, (.int .i64 (flC p f.toNat (extS (y.map (fun s => s.getD 0 0)) (((oOf y : Nat) : Int).toNat + 1)) (((oOf y : Nat) : Int).toNat + 1)))]) v11_0 rfl rfl zN (q_extract (vs := [v11_0, (.int .i64 (flC p f.toNat (extS (y.map (fun s => s.getD 0 0)) (((oOf y : Nat) : Int).toNat + 1)) (((oOf y : Nat) : Int).toNat + 1)))]) (.int .i64 (flC p f.toNat (extS (y.map (fun s => s.getD 0 0)) (((oOf y : Nat) : Int).toNat + 1)) (((oOf y : Nat) : Int).toNat + 1))) rfl rfl zN (lw_tvn 2 rfl (wp_seq (wp_seq (wp_plain _ [0, 0] rfl (lw_tv 1 rfl ?_)))))))
      by_cases hc12 : flC p f.toNat (extS (y.map (fun s => s.getD 0 0)) (((oOf y : Nat) : Int).toNat + 1)) (((oOf y : Nat) : Int).toNat + 1) ≠ ((0 : Nat) : Int)
      ·
        exact q_neq true rfl rfl (decide_eq_true hc12) zN (lw_nil (c_cond_t rfl (wp_seq (wp_plain _ [0, 0, 0] rfl (lw_tvn 3 rfl (wp_ret (t_ret (post_ret [6, 7] rfl (.tuple #[(.bool false), (.int .i64 (flC p f.toNat (extS (y.map (fun s => s.getD 0 0)) (((oOf y : Nat) : Int).toNat + 1)) (((oOf y : Nat) : Int).toNat + 1)))]) rfl ⟨z24_0, hE11⟩))))))))
      ·
        refine q_neq false rfl rfl (decide_eq_false hc12) zN (lw_nil (c_cond_f rfl (wp_skip (wp_seq (wp_plain _ [0, 0, 3, 0, 0] rfl (lw_tv 2 rfl (lw_call 57 [] [] [v11_0, vy, (.func (.func 58) #[] #[])] rfl rfl cf57 zN (c_slices_EqualFunc_____int64_____int64___int64___int64_ _ _ _ _ _ 58 [] [] (fun x y => decide (x = y)) hO11_0.rd2 ((hy.ext g2 hE11)).rd cf58 (fun u1 x1 u2 x2 w1 h1 h2 hw => c_impl_CheckFlow_1 w1 u1 x1 u2 x2 h1 h2)) ?_)))))))
        rintro e13 w13 ⟨rfl, hX13⟩
        refine ⟨_, rfl, hX13, ?_⟩
        have hzs13 : w11.heap.size ≤ w13.heap.size := hX13.size
        have hE13 : Ext w w13 := hE11.trans hX13
        have hB1x13 := hB1x11.ext hX13
        have hO10_0x13 := hO10_0x11.ext (o1) hX13
        have hO11_0x13 := hO11_0.ext (o2) hX13
        exact lw_tvn 2 rfl (wp_ret (post_ret [6, 7] rfl (.tuple #[(.bool (eqL (fun x y => decide (x = y)) (flR p f.toNat (extS (y.map (fun s => s.getD 0 0)) (((oOf y : Nat) : Int).toNat + 1)) (((oOf y : Nat) : Int).toNat + 1)) y)), (.int .i64 ((0 : Nat) : Int))]) rfl ⟨z24_0, hE13⟩))
end Go.Proofs.YtnofbmdpabcjaaaGreat
namespace Go.Proofs.YtnofbmdpabcjaaaGreat
open Go Go.RowKit
set_option linter.unusedVariables false
set_option linter.unusedSimpArgs false
set_option maxHeartbeats 4000000
set_option maxRecDepth 100000
attribute [local irreducible] LW
theorem z107_0 {p : Prop} (h : p := by first | omega | exact and_255 _) : p := h
theorem z107_1 {p : Prop} (h : p := by kernel_rfl) : p := h
theorem c_spec_l00Src_next (w : World) (g : Nat) (sv : Value) (cs : List UInt8) (n0 : Nat) (hs : Src w.heap g sv cs n0) (hn0 : n0 + 1 ≤ 1000000000000)  :
  Calls Tryz.prog 107 #[.pointer (some ⟨g,0,none⟩)] w (fun e w' => ∃ (x0 : Int) (n1 : Nat),e = .returned (.int .i64 x0) ∧ Chg [g] w w' ∧ Src w'.heap g sv cs n1 ∧ (n0 ≤ n1 ∧ n1 ≤ n0 + 1) ∧ (0 ≤ x0 ∧ x0 ≤ 255)) := by
 refine calls_mk [.pointer (some ⟨g,0,none⟩)] 62 Tryz.func107 rfl rfl sM ?_
 have hE0 : Chg [g] w w := Chg.refl [g] w
 have hgl := hs.lt
 obtain ⟨sd,hbx,hrs⟩ := hs.parts
 have hl_sv := (hrs _ (Chg.refl [g] w)).lenle
 refine wp_seq (wp_plain _ [0] rfl (lw_tvn 1 rfl (wp_seq (wp_plain _ [0] rfl (lw_tvn 1 rfl (wp_seq (wp_seq (wp_draw _ [0,0,0,1,0,0,0,1,0,0] mixed z107_1 (lw_tv 1 rfl (q_nil rfl zN (q_fld 1 z107_1 rfl zN (q_load (p := (.pointer (some ⟨g,1,none⟩))) (.inl rfl) (.int .i64 ((n0 :Nat):Int)) one3 rfl (hbx.ld (k := 1) sM) zN (lw_tv 1 rfl (q_nil rfl zN (q_fld 0 z107_1 rfl zN (q_load (p := (.pointer (some ⟨g,0,none⟩))) (.inl rfl) sv one50 rfl (hbx.ld (k := 0) sM) zN (q_len (v := sv) u50 rfl (hrs _ hE0.drew).isSl zN ?_)))))))))))))))))
 by_cases hc1 : ((n0 :Nat):Int) < ((cs.length :Nat):Int)
 ·
  refine q_lss true rfl rfl (decide_eq_true hc1) zN (lw_nil (c_cond_t rfl (wp_draw _ [0,0,0,1,0,0,0,1,0,1,0,0] mixed z107_1 (lw_tv 1 rfl (q_nil rfl zN (q_fld 0 z107_1 rfl zN (q_load (p := (.pointer (some ⟨g,0,none⟩))) (.inl rfl) sv one50 rfl (hbx.ld (k := 0) sM) zN (lw_tv 1 rfl (q_nil rfl zN (q_fld 1 z107_1 rfl zN (q_load (p := (.pointer (some ⟨g,1,none⟩))) (.inl rfl) (.int .i64 ((n0 :Nat):Int)) one3 rfl (hbx.ld (k := 1) sM) zN ?_)))))))))))
  refine q_idx (v := sv) n0 u50 ti5 rfl rfl (hrs _ hE0.drew.drew).isSl rfl sD zN ?_
  refine q_load (p := eptr sv n0 1) (.inl rfl) (.int .u8 ((cs.getD n0 0).toNat : Int)) one5 rfl ((hrs _ hE0.drew.drew).getU sD).1 zN (q_conv ((cs.getD n0 0).toNat : Int) u5 u3 rfl (w8 _) zN (lw_tvn 1 rfl (wp_seq (wp_plain _ [0,0,0,2,0,0,0,4] rfl (lw_tv 1 rfl (q_nil rfl zN (q_fld 1 z107_1 rfl zN (q_load (p := (.pointer (some ⟨g,1,none⟩))) (.inr rfl) (.int .i64 ((n0 :Nat):Int)) one3 rfl (hbx.ld (k := 1) sM) zN ?_))))))))
  refine q_add ((n0 + 1 :Nat):Int) rfl rfl (w64n oM sD) zN (q_nil rfl zN (q_fld 1 z107_1 rfl zN (e_setB (w := w.drew.drew) sz3 rfl rfl ⟨rfl,rfl⟩ hbx sM zN fun w2 hC2 hz2 hB2 => ?_)))
  replace hC2 := hC2.of_drew
  replace hC2 := hC2.of_drew
  have hE2 : Chg [g] w w2 := hE0.trans hC2
  have hBx2 : BX w2.heap g [sv,(.int .i64 ((n0 + 1 :Nat):Int)),(.int .u64 sd)] := hB2
  refine lw_nil (wp_seq (wp_plain _ [0,0,0,0,2,0,0,0,0,0,0,0,4] rfl (lw_tv 2 rfl (q_nil rfl zN (q_fld 2 z107_1 rfl zN (q_load (p := (.pointer (some ⟨g,2,none⟩))) (.inr rfl) (.int .u64 sd) one130 rfl (hBx2.ld (k := 2) sM) zN (q_mul (IntKind.u64.wrap (sd * 6364136223846793005)) rfl rfl rfl zN (lw_tv 1 rfl (q_conv (IntKind.u64.wrap (((cs.getD n0 0).toNat : Int))) u3 u130 rfl rfl zN (q_add (IntKind.u64.wrap ((IntKind.u64.wrap (sd * 6364136223846793005)) + (IntKind.u64.wrap (((cs.getD n0 0).toNat : Int))))) rfl rfl rfl zN (q_add (IntKind.u64.wrap ((IntKind.u64.wrap ((IntKind.u64.wrap (sd * 6364136223846793005)) + (IntKind.u64.wrap (((cs.getD n0 0).toNat : Int))))) + 1442695040888963407)) rfl rfl rfl zN (q_nil rfl zN ?_))))))))))))
  refine q_fld 2 z107_1 rfl zN (e_setB (w := w2) sz130 rfl rfl ⟨rfl,rfl⟩ hBx2 sM zN fun w3 hC3 hz3 hB3 => ?_)
  have hE3 : Chg [g] w w3 := hE2.trans hC3
  have hBx3 : BX w3.heap g [sv,(.int .i64 ((n0 + 1 :Nat):Int)),(.int .u64 (IntKind.u64.wrap ((IntKind.u64.wrap ((IntKind.u64.wrap (sd * 6364136223846793005)) + (IntKind.u64.wrap (((cs.getD n0 0).toNat : Int))))) + 1442695040888963407)))] := hB3
  refine lw_nil (wp_seq (wp_seq (wp_draw _ [0,0,0,1,0,0,0,1,0,0] mixed z107_1 (lw_tv 1 rfl (q_nil rfl zN (q_fld 1 z107_1 rfl zN (q_load (p := (.pointer (some ⟨g,1,none⟩))) (.inl rfl) (.int .i64 ((n0 + 1 :Nat):Int)) one3 rfl (hBx3.ld (k := 1) sM) zN (lw_tv 1 rfl (q_nil rfl zN (q_fld 0 z107_1 rfl zN (q_load (p := (.pointer (some ⟨g,0,none⟩))) (.inl rfl) sv one50 rfl (hBx3.ld (k := 0) sM) zN (q_len (v := sv) u50 rfl (hrs _ hE3.drew).isSl zN ?_))))))))))))
  by_cases hc4 : ((n0 + 1 :Nat):Int) ≤ ((cs.length :Nat):Int)
  ·
   refine q_leq true rfl rfl (decide_eq_true hc4) zN (lw_nil (c_cond_t rfl (wp_seq (wp_plain _ [0,0] rfl (lw_tvn 2 rfl (wp_ret (t_ret ?_)))))))
   have hu8 := u8_lt (cs.getD n0 0)
   exact post_ret [2] rfl (.int .i64 ((cs.getD n0 0).toNat : Int)) rfl ⟨((cs.getD n0 0).toNat : Int),n0 + 1,rfl,hE3.drew,(hs.close hE3.drew hBx3),⟨by omega,by omega⟩,z107_0⟩
  ·
   refine q_leq false rfl rfl (decide_eq_false hc4) zN (lw_nil (c_cond_f rfl (wp_skip (wp_seq (wp_plain _ [0,0,0,2,0,0,0,0] rfl (lw_tv 1 rfl (q_nil rfl zN (q_fld 2 z107_1 rfl zN (q_load (p := (.pointer (some ⟨g,2,none⟩))) (.inr rfl) (.int .u64 (IntKind.u64.wrap ((IntKind.u64.wrap ((IntKind.u64.wrap (sd * 6364136223846793005)) + (IntKind.u64.wrap (((cs.getD n0 0).toNat : Int))))) + 1442695040888963407))) one130 rfl (hBx3.ld (k := 2) sM) zN (q_shr ((IntKind.u64.wrap ((IntKind.u64.wrap ((IntKind.u64.wrap (sd * 6364136223846793005)) + (IntKind.u64.wrap (((cs.getD n0 0).toNat : Int))))) + 1442695040888963407)).fdiv (2 ^ (min (40 : Int).toNat (IntKind.u64).bits))) rfl rfl (by decide) rfl zN (q_and rfl rfl zN ?_)))))))))))
   refine q_conv (andV .u64 ((IntKind.u64.wrap ((IntKind.u64.wrap ((IntKind.u64.wrap (sd * 6364136223846793005)) + (IntKind.u64.wrap (((cs.getD n0 0).toNat : Int))))) + 1442695040888963407)).fdiv (2 ^ (min (40 : Int).toNat (IntKind.u64).bits))) 255) u130 u2 rfl (wand _) zN (lw_tvn 1 rfl (wp_ret ?_))
   have hu8 := u8_lt (cs.getD n0 0)
   exact post_ret [2] rfl (.int .i64 (andV .u64 ((IntKind.u64.wrap ((IntKind.u64.wrap ((IntKind.u64.wrap (sd * 6364136223846793005)) + (IntKind.u64.wrap (((cs.getD n0 0).toNat : Int))))) + 1442695040888963407)).fdiv (2 ^ (min (40 : Int).toNat (IntKind.u64).bits))) 255)) rfl ⟨andV .u64 ((IntKind.u64.wrap ((IntKind.u64.wrap ((IntKind.u64.wrap (sd * 6364136223846793005)) + (IntKind.u64.wrap (((cs.getD n0 0).toNat : Int))))) + 1442695040888963407)).fdiv (2 ^ (min (40 : Int).toNat (IntKind.u64).bits))) 255,n0 + 1,rfl,hE3.drew,(hs.close hE3.drew hBx3),⟨by omega,by omega⟩,z107_0⟩
 ·
  refine q_lss false rfl rfl (decide_eq_false hc1) zN (lw_nil (c_cond_f rfl (wp_skip (wp_seq (wp_plain _ [0,0,0,2,0,0,0,4] rfl (lw_tv 1 rfl (q_nil rfl zN (q_fld 1 z107_1 rfl zN (q_load (p := (.pointer (some ⟨g,1,none⟩))) (.inr rfl) (.int .i64 ((n0 :Nat):Int)) one3 rfl (hbx.ld (k := 1) sM) zN (q_add ((n0 + 1 :Nat):Int) rfl rfl (w64n oM sD) zN (q_nil rfl zN ?_)))))))))))
  refine q_fld 1 z107_1 rfl zN (e_setB (w := w.drew) sz3 rfl rfl ⟨rfl,rfl⟩ hbx sM zN fun w5 hC5 hz5 hB5 => ?_)
  replace hC5 := hC5.of_drew
  have hE5 : Chg [g] w w5 := hE0.trans hC5
  have hBx5 : BX w5.heap g [sv,(.int .i64 ((n0 + 1 :Nat):Int)),(.int .u64 sd)] := hB5
  refine lw_nil (wp_seq (wp_plain _ [0,0,0,0,2,0,0,0,0,0,0,0,4] rfl (lw_tv 2 rfl (q_nil rfl zN (q_fld 2 z107_1 rfl zN (q_load (p := (.pointer (some ⟨g,2,none⟩))) (.inr rfl) (.int .u64 sd) one130 rfl (hBx5.ld (k := 2) sM) zN (q_mul (IntKind.u64.wrap (sd * 6364136223846793005)) rfl rfl rfl zN (lw_tv 1 rfl (q_conv (IntKind.u64.wrap (((0 :Nat):Int))) u3 u130 rfl rfl zN (q_add (IntKind.u64.wrap ((IntKind.u64.wrap (sd * 6364136223846793005)) + (IntKind.u64.wrap (((0 :Nat):Int))))) rfl rfl rfl zN (q_add (IntKind.u64.wrap ((IntKind.u64.wrap ((IntKind.u64.wrap (sd * 6364136223846793005)) + (IntKind.u64.wrap (((0 :Nat):Int))))) + 1442695040888963407)) rfl rfl rfl zN (q_nil rfl zN (q_fld 2 z107_1 rfl zN ?_)))))))))))))
  refine e_setB (w := w5) sz130 rfl rfl ⟨rfl,rfl⟩ hBx5 sM zN fun w6 hC6 hz6 hB6 => ?_
  have hE6 : Chg [g] w w6 := hE5.trans hC6
  have hBx6 : BX w6.heap g [sv,(.int .i64 ((n0 + 1 :Nat):Int)),(.int .u64 (IntKind.u64.wrap ((IntKind.u64.wrap ((IntKind.u64.wrap (sd * 6364136223846793005)) + (IntKind.u64.wrap (((0 :Nat):Int))))) + 1442695040888963407)))] := hB6
  refine lw_nil (wp_seq (wp_seq (wp_draw _ [0,0,0,1,0,0,0,1,0,0] mixed z107_1 (lw_tv 1 rfl (q_nil rfl zN (q_fld 1 z107_1 rfl zN (q_load (p := (.pointer (some ⟨g,1,none⟩))) (.inl rfl) (.int .i64 ((n0 + 1 :Nat):Int)) one3 rfl (hBx6.ld (k := 1) sM) zN (lw_tv 1 rfl (q_nil rfl zN (q_fld 0 z107_1 rfl zN (q_load (p := (.pointer (some ⟨g,0,none⟩))) (.inl rfl) sv one50 rfl (hBx6.ld (k := 0) sM) zN (q_len (v := sv) u50 rfl (hrs _ hE6.drew).isSl zN ?_))))))))))))
  by_cases hc7 : ((n0 + 1 :Nat):Int) ≤ ((cs.length :Nat):Int)
  ·
   refine q_leq true rfl rfl (decide_eq_true hc7) zN (lw_nil (c_cond_t rfl (wp_seq (wp_plain _ [0,0] rfl (lw_tvn 2 rfl (wp_ret (t_ret ?_)))))))
   have hu8 := u8_lt (cs.getD n0 0)
   exact post_ret [2] rfl (.int .i64 ((0 :Nat):Int)) rfl ⟨((0 :Nat):Int),n0 + 1,rfl,hE6.drew,(hs.close hE6.drew hBx6),⟨by omega,by omega⟩,z107_0⟩
  ·
   refine q_leq false rfl rfl (decide_eq_false hc7) zN (lw_nil (c_cond_f rfl (wp_skip (wp_seq (wp_plain _ [0,0,0,2,0,0,0,0] rfl (lw_tv 1 rfl (q_nil rfl zN (q_fld 2 z107_1 rfl zN (q_load (p := (.pointer (some ⟨g,2,none⟩))) (.inr rfl) (.int .u64 (IntKind.u64.wrap ((IntKind.u64.wrap ((IntKind.u64.wrap (sd * 6364136223846793005)) + (IntKind.u64.wrap (((0 :Nat):Int))))) + 1442695040888963407))) one130 rfl (hBx6.ld (k := 2) sM) zN (q_shr ((IntKind.u64.wrap ((IntKind.u64.wrap ((IntKind.u64.wrap (sd * 6364136223846793005)) + (IntKind.u64.wrap (((0 :Nat):Int))))) + 1442695040888963407)).fdiv (2 ^ (min (40 : Int).toNat (IntKind.u64).bits))) rfl rfl (by decide) rfl zN (q_and rfl rfl zN ?_)))))))))))
   refine q_conv (andV .u64 ((IntKind.u64.wrap ((IntKind.u64.wrap ((IntKind.u64.wrap (sd * 6364136223846793005)) + (IntKind.u64.wrap (((0 :Nat):Int))))) + 1442695040888963407)).fdiv (2 ^ (min (40 : Int).toNat (IntKind.u64).bits))) 255) u130 u2 rfl (wand _) zN (lw_tvn 1 rfl (wp_ret ?_))
   have hu8 := u8_lt (cs.getD n0 0)
   exact post_ret [2] rfl (.int .i64 (andV .u64 ((IntKind.u64.wrap ((IntKind.u64.wrap ((IntKind.u64.wrap (sd * 6364136223846793005)) + (IntKind.u64.wrap (((0 :Nat):Int))))) + 1442695040888963407)).fdiv (2 ^ (min (40 : Int).toNat (IntKind.u64).bits))) 255)) rfl ⟨andV .u64 ((IntKind.u64.wrap ((IntKind.u64.wrap ((IntKind.u64.wrap (sd * 6364136223846793005)) + (IntKind.u64.wrap (((0 :Nat):Int))))) + 1442695040888963407)).fdiv (2 ^ (min (40 : Int).toNat (IntKind.u64).bits))) 255,n0 + 1,rfl,hE6.drew,(hs.close hE6.drew hBx6),⟨by omega,by omega⟩,z107_0⟩
theorem z72_0 {p : Prop} (h : p := by first | omega | exact ⟨Int.emod_nonneg _ oM, Int.le_of_lt (Int.lt_of_lt_of_le (Int.emod_lt_of_pos _ oM) oM), fun _ => Int.emod_lt_of_pos _ oM⟩) : p := h
theorem c_spec_l00Src_pick (w : World) (g : Nat) (sv : Value) (cs : List UInt8) (n0 : Nat) (k : Int) (hs : Src w.heap g sv cs n0) (hn0 : n0 + 2 ≤ 1000000000000) (_hk : -9223372036854775808 ≤ k ∧ k ≤ 9223372036854775807) (hk : k ≤ 1000000) :
  Calls Tryz.prog 72 #[.pointer (some ⟨g,0,none⟩),.int .i64 k] w (fun e w' => ∃ (x0 : Int) (n1 : Nat),e = .returned (.int .i64 x0) ∧ Chg [g] w w' ∧ Src w'.heap g sv cs n1 ∧ (n0 ≤ n1 ∧ n1 ≤ n0 + 2) ∧ (0 ≤ x0 ∧ x0 ≤ 1000000 ∧ (1 ≤ k → x0 < k))) := by
 refine calls_mk [.pointer (some ⟨g,0,none⟩),.int .i64 k] 20 Tryz.func72 rfl rfl sM ?_
 have hE0 : Chg [g] w w := Chg.refl [g] w
 have hgl := hs.lt
 refine wp_seq (wp_plain _ [0] rfl (lw_tvn 1 rfl (wp_seq (wp_seq (wp_plain _ [0,0] rfl (lw_tv 1 rfl ?_))))))
 by_cases hc1 : k ≤ ((1 :Nat):Int)
 ·
  exact q_leq true rfl rfl (decide_eq_true hc1) zN (lw_nil (c_cond_t rfl (wp_seq (wp_plain _ [0] rfl (lw_tvn 1 rfl (wp_ret (t_ret (post_ret [4] rfl (.int .i64 ((0 :Nat):Int)) rfl ⟨((0 :Nat):Int),n0,rfl,hE0,hs,⟨by omega,by omega⟩,z72_0⟩))))))))
 ·
  refine q_leq false rfl rfl (decide_eq_false hc1) zN (lw_nil (c_cond_f rfl (wp_skip (wp_seq (wp_plain _ [0,4,0] rfl (lw_tv 1 rfl (lw_callE 107 [] [] [(.pointer (some ⟨g,0,none⟩))] rfl rfl cf107 zN (c_spec_l00Src_next _ g _ _ _ hs oM) ?_)))))))
  rintro e2 w2 ⟨x2_0,n2,rfl,hC2,hs2,hb2,hp2_0⟩
  refine ⟨_,rfl,?_⟩
  have hzs2:=hC2.size
  have hE2 : Chg [g] w w2 := hE0.trans hC2
  refine lw_tvn 1 rfl (wp_seq (wp_seq (wp_plain _ [0,0] rfl (lw_tv 1 rfl ?_))))
  by_cases hc3 : ((200 :Nat):Int) < k
  ·
   refine q_gtr true rfl rfl (decide_eq_true hc3) zN (lw_nil (c_cond_t rfl (wp_plain _ [0,0,0,4,0,0] rfl (lw_tv 1 rfl ?_))))
   refine q_mul (x2_0 * ((256 :Nat):Int)) rfl rfl (w64 sD sD) zN (lw_tv 1 rfl ?_)
   refine lw_callE 107 [] [] [(.pointer (some ⟨g,0,none⟩))] rfl rfl cf107 zN (c_spec_l00Src_next _ g _ _ _ hs2 oM) ?_
   rintro e4 w4 ⟨x4_0,n4,rfl,hC4,hs4,hb4,hp4_0⟩
   refine ⟨_,rfl,?_⟩
   have hzs4:=hC4.size
   have hE4 : Chg [g] w w4 := hE2.trans hC4
   refine q_add ((x2_0 * ((256 :Nat):Int)) + x4_0) rfl rfl (w64 sD sD) zN (lw_tvn 1 rfl (wp_seq (wp_plain _ [0,0,0,0] rfl ?_)))
   exact lw_tv 2 rfl (q_rem (((x2_0 * ((256 :Nat):Int)) + x4_0) % k) rfl rfl oM (Int.tmod_eq_emod_of_nonneg oM) zN (lw_tvn 1 rfl (wp_ret (post_ret [4] rfl (.int .i64 (((x2_0 * ((256 :Nat):Int)) + x4_0) % k)) rfl ⟨((x2_0 * ((256 :Nat):Int)) + x4_0) % k,n4,rfl,hE4,hs4,⟨by omega,by omega⟩,z72_0⟩))))
  ·
   exact q_gtr false rfl rfl (decide_eq_false hc3) zN (lw_nil (c_cond_f rfl (wp_skip (wp_seq (wp_plain _ [0,0,0,0] rfl (lw_tv 2 rfl (q_rem ((x2_0) % k) rfl rfl oM (Int.tmod_eq_emod_of_nonneg oM) zN (lw_tvn 1 rfl (wp_ret (post_ret [4] rfl (.int .i64 ((x2_0) % k)) rfl ⟨(x2_0) % k,n2,rfl,hE2,hs2,⟨by omega,by omega⟩,z72_0⟩))))))))))
theorem c_spec_l00Src_one (w : World) (g : Nat) (sv : Value) (cs : List UInt8) (n0 : Nat) (k : Int) (hs : Src w.heap g sv cs n0) (hn0 : n0 + 2 ≤ 1000000000000) (_hk : -9223372036854775808 ≤ k ∧ k ≤ 9223372036854775807) (hk : k ≤ 1000000) :
  Calls Tryz.prog 73 #[.pointer (some ⟨g,0,none⟩),.int .i64 k] w (fun e w' => ∃ (x0 : Bool) (n1 : Nat),e = .returned (.bool x0) ∧ Chg [g] w w' ∧ Src w'.heap g sv cs n1 ∧ (n0 ≤ n1 ∧ n1 ≤ n0 + 2) ∧ True) := by
 refine calls_mk [.pointer (some ⟨g,0,none⟩),.int .i64 k] 9 Tryz.func73 rfl rfl sM ?_
 have hE0 : Chg [g] w w := Chg.refl [g] w
 have hgl := hs.lt
 refine wp_seq (wp_plain _ [0] rfl (lw_tvn 1 rfl (wp_seq (wp_plain _ [0,0,4,0,0] rfl (lw_tv 2 rfl (lw_callE 72 [] [] [(.pointer (some ⟨g,0,none⟩)),(.int .i64 k)] rfl rfl cf72 zN (c_spec_l00Src_pick _ g _ _ _ _ hs oM _hk sD) ?_))))))
 rintro e1 w1 ⟨x1_0,n1,rfl,hC1,hs1,hb1,hp1_0⟩
 refine ⟨_,rfl,?_⟩
 have hzs1:=hC1.size
 have hE1 : Chg [g] w w1 := hE0.trans hC1
 exact q_eql (decide (x1_0 = ((0 :Nat):Int))) rfl rfl rfl zN (lw_tvn 1 rfl (wp_ret (post_ret [4] rfl (.bool (decide (x1_0 = ((0 :Nat):Int)))) rfl ⟨decide (x1_0 = ((0 :Nat):Int)),n1,rfl,hE1,hs1,⟨by omega,by omega⟩,(by trivial)⟩)))
theorem c_spec_l01Any (w : World) (g : Nat) (sv : Value) (cs : List UInt8) (n0 : Nat) (hs : Src w.heap g sv cs n0) (hn0 : n0 + 8 ≤ 1000000000000)  :
  Calls Tryz.prog 111 #[.pointer (some ⟨g,0,none⟩)] w (fun e w' => ∃ (x0 : Int) (n1 : Nat),e = .returned (.int .i64 x0) ∧ Chg [g] w w' ∧ Src w'.heap g sv cs n1 ∧ (n0 ≤ n1 ∧ n1 ≤ n0 + 8) ∧ (0 ≤ x0 ∧ x0 < 1000003)) := by
 refine calls_mk [.pointer (some ⟨g,0,none⟩)] 25 Tryz.func111 rfl rfl sM ?_
 have hE0 : Chg [g] w w := Chg.refl [g] w
 have hgl := hs.lt
 refine wp_seq (wp_plain _ [0] rfl (lw_tvn 1 rfl (wp_seq (wp_seq (wp_plain _ [0,4] rfl (lw_tv 1 rfl (lw_callE 72 [] [] [(.pointer (some ⟨g,0,none⟩)),(.int .i64 ((6 :Nat):Int))] rfl rfl cf72 zN (c_spec_l00Src_pick _ g _ _ _ _ hs oM oM sD) ?_)))))))
 rintro e1 w1 ⟨x1_0,n1,rfl,hC1,hs1,hb1,hp1_0⟩
 refine ⟨_,rfl,?_⟩
 have hzs1:=hC1.size
 have hE1 : Chg [g] w w1 := hE0.trans hC1
 refine lw_nil (wp_block (wp_seq (wp_plain _ [0,0] rfl ?_)))
 by_cases hc2 : x1_0 = ((0 :Nat):Int)
 ·
  refine q_eql true rfl rfl (decide_eq_true hc2) zN (lw_tvn 1 rfl (c_cond_t rfl (wp_seq (wp_plain _ [0,4,0,0] rfl (lw_tv 1 rfl (lw_callE 72 [] [] [(.pointer (some ⟨g,0,none⟩)),(.int .i64 ((3 :Nat):Int))] rfl rfl cf72 zN (c_spec_l00Src_pick _ g _ _ _ _ hs1 oM oM sD) ?_))))))
  rintro e3 w3 ⟨x3_0,n3,rfl,hC3,hs3,hb3,hp3_0⟩
  refine ⟨_,rfl,?_⟩
  have hzs3:=hC3.size
  have hE3 : Chg [g] w w3 := hE1.trans hC3
  refine q_sub (((1000002 :Nat):Int) - x3_0) rfl rfl (w64 sD sD) zN (lw_tvn 1 rfl (wp_ret (b_ret (t_ret ?_))))
  exact post_ret [2] rfl (.int .i64 (((1000002 :Nat):Int) - x3_0)) rfl ⟨((1000002 :Nat):Int) - x3_0,n3,rfl,hE3,hs3,⟨by omega,by omega⟩,(by first | omega | exact md_num _)⟩
 ·
  refine q_eql false rfl rfl (decide_eq_false hc2) zN (lw_tvn 1 rfl (c_cond_f rfl (wp_seq (wp_plain _ [0,0] rfl ?_))))
  by_cases hc4 : x1_0 = ((1 :Nat):Int)
  ·
   refine q_eql true rfl rfl (decide_eq_true hc4) zN (lw_tvn 1 rfl (c_cond_t rfl (wp_seq (wp_plain _ [0,4,0,0,4,0,0,0,4,0,0,0] rfl (lw_tv 1 rfl (lw_callE 72 [] [] [(.pointer (some ⟨g,0,none⟩)),(.int .i64 ((256 :Nat):Int))] rfl rfl cf72 zN (c_spec_l00Src_pick _ g _ _ _ _ hs1 oM oM sD) ?_))))))
   rintro e5 w5 ⟨x5_0,n5,rfl,hC5,hs5,hb5,hp5_0⟩
   refine ⟨_,rfl,?_⟩
   have hzs5:=hC5.size
   have hE5 : Chg [g] w w5 := hE1.trans hC5
   refine q_mul (x5_0 * ((65536 :Nat):Int)) rfl rfl (w64 sD sD) zN (lw_tv 1 rfl ?_)
   refine lw_callE 72 [] [] [(.pointer (some ⟨g,0,none⟩)),(.int .i64 ((256 :Nat):Int))] rfl rfl cf72 zN (c_spec_l00Src_pick _ g _ _ _ _ hs5 oM oM sD) ?_
   rintro e6 w6 ⟨x6_0,n6,rfl,hC6,hs6,hb6,hp6_0⟩
   refine ⟨_,rfl,?_⟩
   have hzs6:=hC6.size
   have hE6 : Chg [g] w w6 := hE5.trans hC6
   refine q_mul (x6_0 * ((256 :Nat):Int)) rfl rfl (w64 sD sD) zN ?_
   refine q_add ((x5_0 * ((65536 :Nat):Int)) + (x6_0 * ((256 :Nat):Int))) rfl rfl (w64 sD sD) zN (lw_tv 1 rfl ?_)
   refine lw_callE 72 [] [] [(.pointer (some ⟨g,0,none⟩)),(.int .i64 ((256 :Nat):Int))] rfl rfl cf72 zN (c_spec_l00Src_pick _ g _ _ _ _ hs6 oM oM sD) ?_
   rintro e7 w7 ⟨x7_0,n7,rfl,hC7,hs7,hb7,hp7_0⟩
   refine ⟨_,rfl,?_⟩
   have hzs7:=hC7.size
   have hE7 : Chg [g] w w7 := hE6.trans hC7
   refine q_add (((x5_0 * ((65536 :Nat):Int)) + (x6_0 * ((256 :Nat):Int))) + x7_0) rfl rfl (w64 sD sD) zN ?_
   exact q_rem (md (((x5_0 * ((65536 :Nat):Int)) + (x6_0 * ((256 :Nat):Int))) + x7_0)) rfl rfl (by decide) (Int.tmod_eq_emod_of_nonneg oM) zN (lw_tvn 1 rfl (wp_ret (b_ret (t_ret (post_ret [2] rfl (.int .i64 (md (((x5_0 * ((65536 :Nat):Int)) + (x6_0 * ((256 :Nat):Int))) + x7_0))) rfl ⟨md (((x5_0 * ((65536 :Nat):Int)) + (x6_0 * ((256 :Nat):Int))) + x7_0),n7,rfl,hE7,hs7,⟨by omega,by omega⟩,(by first | omega | exact md_num _)⟩)))))
  ·
   refine q_eql false rfl rfl (decide_eq_false hc4) zN (lw_tvn 1 rfl (c_cond_f rfl (wp_skip (wp_seq (wp_plain _ [0,4,0] rfl (lw_tv 1 rfl (lw_callE 72 [] [] [(.pointer (some ⟨g,0,none⟩)),(.int .i64 ((7 :Nat):Int))] rfl rfl cf72 zN (c_spec_l00Src_pick _ g _ _ _ _ hs1 oM oM sD) ?_)))))))
   rintro e8 w8 ⟨x8_0,n8,rfl,hC8,hs8,hb8,hp8_0⟩
   refine ⟨_,rfl,?_⟩
   have hzs8:=hC8.size
   have hE8 : Chg [g] w w8 := hE1.trans hC8
   exact lw_tvn 1 rfl (wp_ret (post_ret [2] rfl (.int .i64 x8_0) rfl ⟨x8_0,n8,rfl,hE8,hs8,⟨by omega,by omega⟩,(by first | omega | exact md_num _)⟩))
theorem c_spec_l01Draw (w : World) (g : Nat) (sv : Value) (cs : List UInt8) (n0 : Nat) (k : Int) (hs : Src w.heap g sv cs n0) (hn0 : n0 + (8 * k.toNat) ≤ 1000000000000) (_hk : -9223372036854775808 ≤ k ∧ k ≤ 9223372036854775807) (hk : k ≤ 1000) :
  Calls Tryz.prog 75 #[.pointer (some ⟨g,0,none⟩),.int .i64 k] w (fun e w' => ∃ (v0 : Value) (x0 : List Int) (n1 : Nat),e = .returned (v0) ∧ Chg [g] w w' ∧ Src w'.heap g sv cs n1 ∧ (n0 ≤ n1 ∧ n1 ≤ n0 + (8 * k.toNat)) ∧ Fr (owL rI 2) w.heap.size w'.heap.size w'.heap v0 x0 ∧ (x0.length = k.toNat ∧ allN x0 = true)) := by
 refine calls_mk [.pointer (some ⟨g,0,none⟩),.int .i64 k] 19 Tryz.func75 rfl rfl sM ?_
 have hE0 : Chg [g] w w := Chg.refl [g] w
 have hgl := hs.lt
 refine wp_seq (wp_plain _ [0] rfl (lw_tvn 1 rfl (wp_seq (wp_plain _ [3,0] rfl (r_nil (rI) good_rI u25 ti2 zN fun v1 w1 hX1 hz1 hO1 => ?_)))))
 have hzs1:=hX1.size
 have hE1 : Chg [g] w w1 := hE0.ext hX1
 have hsx1 := hs.ext hX1
 refine lw_tvn 1 rfl (wp_seq (wp_seq (wp_plain _ [0] rfl (lw_tvn 1 rfl (wp_block ?_)))))
 refine c_loop (S := Nat × Value × List Int × Nat) (fun (⟨j,vo,xs,m⟩ : Nat × Value × List Int × Nat) => ([(5,vo),(6,(.int .i64 ((j :Nat):Int))),(0,(.pointer (some ⟨g,0,none⟩))),(1,(.int .i64 k))] : List (Nat × Value))) (fun (⟨j,vo,xs,m⟩ : Nat × Value × List Int × Nat) (W : World) => Chg [g] w W ∧ Fr (owL rI 2) w.heap.size W.heap.size W.heap vo xs ∧ Src W.heap g sv cs m ∧ j ≤ k.toNat ∧ (n0 ≤ m ∧ m ≤ n0 + 8 * j) ∧ (xs.length = j ∧ allN xs = true)) (fun (⟨j,vo,xs,m⟩ : Nat × Value × List Int × Nat) => k.toNat - j) (0,v1,[],n0) ⟨rfl,rfl,rfl,rfl,trivial⟩ ⟨hE1,hO1.up o1,hsx1,sD,oM,(by exact ⟨rfl,rfl⟩)⟩ ?_
 clear hE0 hO1 hz1 hX1 hzs1 hE1
 rintro ⟨j,vo,xs,m⟩ ρ2 w2 ⟨hE2,hL2_0,hL2_1,hp2_0,hm,hxs⟩
 have hzs2 : w.heap.size ≤ w2.heap.size := hE2.size
 refine wp_seq (wp_seq (wp_plain _ [0,0,0] rfl (lw_tv 2 rfl ?_)))
 by_cases hc3 : ((j :Nat):Int) < k
 ·
  refine q_lss true rfl rfl (decide_eq_true hc3) zN (lw_nil (c_cond_t rfl (wp_skip (wp_seq (wp_block (wp_plain _ [0,0,4,3,4,0] rfl (lw_tv 2 rfl (lw_callE 111 [] [] [(.pointer (some ⟨g,0,none⟩))] rfl rfl cf111 zN (c_spec_l01Any _ g _ _ _ hL2_1 oM) ?_))))))))
  rintro e4 w4 ⟨x4_0,n4,rfl,hC4,hs4,hb4,hp4_0⟩
  refine ⟨_,rfl,?_⟩
  have hzs4:=hC4.size
  have hE4 : Chg [g] w w4 := hE2.trans hC4
  have hF5 := hL2_0.chg (o1) hC4 (fun b hb => by have : b = g := (by simpa using hb); omega)
  refine r_one (u := (.int .i64 x4_0)) (B := w4.heap.size) good_rI u25 ti2 rfl rfl (frI w4.heap.size w4.heap.size _ _ oM) (Nat.le_refl _) zN fun v6 w6 hX6 hz6 hO6 => ?_
  have hzs6:=hX6.size
  have hE6 : Chg [g] w w6 := hE4.ext hX6
  have hF5x6 := hF5.ext (o1) hX6
  have hs4x6 := hs4.ext hX6
  refine e_appI (v := vo) (a := v6) u25 ti2 rfl rfl rfl hF5x6 hE6.size hO6.rd1 sD (by unfold maxLen; first | omega | assumption | (simp; done) | (simp; omega)) zN fun v7 w7 F7 hC7 hF7 hO7 => ?_
  have hE7 : Chg [g] w w7 := hE6.fresh hC7 (fun c hc => Nat.le_trans (Nat.le_refl _) (hF7 c hc).1)
  have hzs7:=hC7.size
  have hF8 := hs4x6.chg hC7 (fun c hc => by have := hF7 c hc; omega)
  have hF9 := hO6.chg (o1) hC7 (fun c hc => by have := hF7 c hc; omega)
  refine lw_tvn 1 rfl (wp_plain _ [0,0,0] rfl (lw_tv 1 rfl (q_add ((j + 1 :Nat):Int) rfl rfl (w64n oM oM) zN (lw_tvn 1 rfl ?_))))
  exact ⟨((j + 1),v7,(xs ++ [x4_0]),n4),_,rfl,⟨rfl,rfl,rfl,rfl,trivial⟩,⟨hE7,hO7.up o1,hF8,sD,oM,(by exact ⟨by rw [List.length_append,hxs.1]; rfl,by unfold allN at *; rw [List.all_append,hxs.2]; simp only [List.all_cons,List.all_nil,Bool.and_true,Bool.true_and]; exact isN_iff.2 oM⟩)⟩,by first | omega | (dsimp only; omega)⟩
 ·
  exact q_lss false rfl rfl (decide_eq_false hc3) zN (lw_nil (c_cond_f rfl (wp_exit (t_exit (t_exit (c_exit_here (wp_seq (wp_plain _ [0,0] rfl (lw_tvn 2 rfl (wp_ret (post_ret [4] rfl vo rfl ⟨vo,xs,m,rfl,hE2,hL2_1,⟨by omega,by omega⟩,hL2_0.up o1,(by exact ⟨by omega,hxs.2⟩)⟩)))))))))))
end Go.Proofs.YtnofbmdpabcjaaaGreat
namespace Go.Proofs.YtnofbmdpabcjaaaGreat
open Go Go.RowKit
set_option linter.unusedVariables false
set_option linter.unusedSimpArgs false
set_option maxHeartbeats 4000000
set_option maxRecDepth 100000
attribute [local irreducible] LW
theorem bld98a (a : Option Addr) (n c : Nat) (w : World) : (Instr.build 132 #[(0, .slice a n c)]).run Tryz.prog w = .ok (.agg #[.slice a n c, .int .i64 0, .int .u64 0]) w := by
  kernel_rfl
theorem bld98 {v : Value} {n : Nat} (h : isSl v n) (w : World) : (Instr.build 132 #[(0, v)]).run Tryz.prog w = .ok (.agg #[v, .int .i64 0, .int .u64 0]) w := by
  obtain ⟨a, c, rfl, _⟩ := h
  exact bld98a a n c w
theorem c_spec_l00From (w : World) (vc : Value) (cs : List UInt8) (hcs : Rd (rdL rU) w.heap vc cs)  :
  Calls Tryz.prog 70 #[vc] w (fun e w' => ∃ g : Nat,e = .returned (.pointer (some ⟨g,0,none⟩)) ∧ Ext w w' ∧ Src w'.heap g vc cs 0 ∧ w.heap.size ≤ g) := by
 refine calls_mk [vc] 6 Tryz.func70 rfl rfl sM ?_
 have hE0 : Ext w w := Ext.refl w
 have hl_vc := hcs.lenle
 refine wp_seq (wp_plain _ [0] rfl (lw_tvn 1 rfl (wp_seq (wp_plain _ [0,0,3,0] rfl (lw_tv 1 rfl (q_build (ps := #[(0,vc)]) (.agg #[vc,.int .i64 0,.int .u64 0]) (by simp only [List.map_toArray,List.map_cons,List.map_nil]; rfl) (fun wq => bld98 hcs.isSl wq) zN (r_boxA rfl zN fun w1 hX1 hz1 hB1 => ?_)))))))
 have hzs1:=hX1.size
 have hE1:=hE0.trans hX1
 have hs1 := Src.new hcs hE1 hB1 hE0.size
 exact lw_tvn 1 rfl (wp_ret (post_ret [2] rfl (.pointer (some ⟨w.heap.size,0,none⟩)) rfl ⟨w.heap.size,rfl,hE1,hs1,hE0.size⟩))
end Go.Proofs.YtnofbmdpabcjaaaGreat
namespace Go.Proofs.YtnofbmdpabcjaaaGreat
open Go Go.RowKit
set_option linter.unusedVariables false
set_option linter.unusedSimpArgs false
set_option maxHeartbeats 4000000
set_option maxRecDepth 100000
attribute [local irreducible] LW
theorem z108_0 {p : Prop} (h : p := by intro u hu; simp only [List.mem_cons, List.not_mem_nil, or_false] at hu; rcases hu with rfl | rfl | rfl | rfl | rfl <;> first | exact ⟨rfl, rfl⟩) : p := h
theorem z108_1 {p : Prop} (h : p := by simp only [List.map_toArray, List.map_cons, List.map_nil]; rfl) : p := h
theorem z108_2 {p : Prop} (h : p := by first | exact LOk.var oM | exact LOk.num oM) : p := h
theorem c_spec_l02Gen_leaf (w : World) (gg gs : Nat) (sv : Value) (cs : List UInt8) (n0 : Nat) (pp : Value) (dp : Nat) (l0 : Int) (pl : Bool) (p : List Fn) (vars : Int) (hgg : gs < gg) (hs : Src w.heap gs sv cs n0) (hB0 : BX w.heap gg [.pointer (some ⟨gs, 0, none⟩), pp, .int .i64 l0, .bool pl]) (hp : RN [gs, gg] (rP (rPr dp)) w.heap pp p) (_hvars : -9223372036854775808 ≤ vars ∧ vars ≤ 9223372036854775807) (hv : 0 ≤ vars ∧ vars ≤ 1000) (hn : n0 + 20 ≤ 1000000000000) :
    Calls Tryz.prog 108 #[.pointer (some ⟨gg, 0, none⟩), .int .i64 vars] w (fun e w' => ∃ (ex : Ex) (n1 : Nat), e = .returned (.agg #[.int .i64 ex.kind, .int .i64 ex.num, .int .i64 ex.pick, .int .i64 ex.count, .slice none 0 0]) ∧ Chg [gs, gg] w w' ∧ Src w'.heap gs sv cs n1 ∧ (n0 ≤ n1 ∧ n1 ≤ n0 + 20) ∧ BX w'.heap gg [.pointer (some ⟨gs, 0, none⟩), pp, .int .i64 l0, .bool pl] ∧ exR ex ∧ ex.kids = [] ∧ LOk p vars ex) := by
  refine calls_mk [.pointer (some ⟨gg, 0, none⟩), .int .i64 vars] 28 Tryz.func108 rfl rfl sM ?_
  have hE0 : Chg [gs, gg] w w := Chg.refl [gs, gg] w
  have hgl := hs.lt
  have hgl2 := hB0.lt
  refine wp_seq (wp_plain _ [3] rfl ?_)
  have hq2 := hB0.lt
  refine r_allocA (z := .agg #[.int .i64 0, .int .i64 0, .int .i64 0, .int .i64 0, .slice none 0 0]) zr94 zN fun w1 hX1 hz1 hB1 => ?_
  have hzs1 : w.heap.size ≤ w1.heap.size := hX1.size
  have hE1 : Chg [gs, gg] w w1 := hE0.ext hX1
  have hsx1 := hs.ext hX1
  have hB0x1 := hB0.ext hX1
  replace hB1 : BX w1.heap w.heap.size [(.int .i64 0), (.int .i64 0), (.int .i64 0), (.int .i64 0), (.slice none 0 0)] := hB1
  refine lw_nil (wp_seq (wp_seq (wp_plain _ [0, 0, 0, 0, 0, 0, 2, 4, 0, 0] rfl (lw_tv 1 rfl ?_))))
  by_cases hc3 : ((0 : Nat) : Int) < vars
  ·
    refine q_gtr true rfl rfl (decide_eq_true hc3) zN (lw_tv 2 rfl (q_nil rfl (zS (e := 7) rfl rfl rfl) (q_fldP (p := (.pointer (some ⟨gg, 0, none⟩))) (b := gg) (o := 0) 0 fd92_0 rfl rfl (zS (e := 7) rfl rfl rfl) (q_load (p := (padd (.pointer (some ⟨gg, 0, none⟩)) 0)) (.inr rfl) (.pointer (some ⟨gs, 0, none⟩)) one86 rfl (hB0x1.ldp (i := 0) sM) (zS (e := 7) rfl rfl rfl) ?_))))
    refine lw_callE 73 [] [] [(.pointer (some ⟨gs, 0, none⟩)), (.int .i64 ((4 : Nat) : Int))] rfl rfl cf73 (zS (e := 7) rfl rfl rfl) (c_spec_l00Src_one _ gs _ _ _ (((4 : Nat) : Int)) hsx1 oM oM sD) ?_
    rintro e4 w4 ⟨x4_0, n4, rfl, hC4, hs4, hb4, hp4_0⟩
    refine ⟨_, rfl, ?_⟩
    have hzs4 : w1.heap.size ≤ w4.heap.size := hC4.size
    have hE4 : Chg [gs, gg] w w4 := hE1.trans (hC4.sub sub_gs)
    have hF5 := hB0x1.chg hC4 (fun hm => by have := List.mem_singleton.1 hm; omega)
    have hF6 := hB1.chg hC4 (fun hm => by have := List.mem_singleton.1 hm; omega)
    refine q_not (!x4_0) rfl rfl (zS (e := 7) rfl rfl rfl) (lw_tvn 1 rfl ?_)
    cases hb7 : (!x4_0)
    ·
      refine c_cond_f (by first | rfl | (show Value.bool _ = _; rw [hb7])) (wp_skip (wp_seq (wp_plain _ [0, 0, 0, 2, 4, 0, 4] rfl (lw_tv 1 rfl (q_nil rfl zN (q_fldP (p := (.pointer (some ⟨gg, 0, none⟩))) (b := gg) (o := 0) 0 fd92_0 rfl rfl zN (q_load (p := (padd (.pointer (some ⟨gg, 0, none⟩)) 0)) (.inr rfl) (.pointer (some ⟨gs, 0, none⟩)) one86 rfl (hF5.ldp (i := 0) sM) zN (lw_callE 111 [] [] [(.pointer (some ⟨gs, 0, none⟩))] rfl rfl cf111 zN (c_spec_l01Any _ gs _ _ _ hs4 oM) ?_))))))))
      rintro e8 w8 ⟨x8_0, n8, rfl, hC8, hs8, hb8, hp8_0⟩
      refine ⟨_, rfl, ?_⟩
      have hzs8 : w4.heap.size ≤ w8.heap.size := hC8.size
      have hE8 : Chg [gs, gg] w w8 := hE4.trans (hC8.sub sub_gs)
      have hF9 := hF5.chg hC8 (fun hm => by have := List.mem_singleton.1 hm; omega)
      have hF10 := hF6.chg hC8 (fun hm => by have := List.mem_singleton.1 hm; omega)
      have hbd11 : ∀ (wq : World), (Instr.build 94 #[(0, (.int .i64 ((1 : Nat) : Int))), (1, (.int .i64 x8_0))]).run Tryz.prog wq = .ok (.agg #[(.int .i64 ((1 : Nat) : Int)), (.int .i64 x8_0), (.int .i64 0), (.int .i64 0), (.slice none 0 0)]) wq := by intro wq; kernel_rfl
      refine q_build (ps := #[(0, (.int .i64 ((1 : Nat) : Int))), (1, (.int .i64 x8_0))]) (.agg #[(.int .i64 ((1 : Nat) : Int)), (.int .i64 x8_0), (.int .i64 0), (.int .i64 0), (.slice none 0 0)]) z108_1 (fun wq => hbd11  wq) zN (e_setA (vs := [(.int .i64 ((1 : Nat) : Int)), (.int .i64 x8_0), (.int .i64 0), (.int .i64 0), (.slice none 0 0)]) agg94 rfl rfl z108_0 hF10 rfl rfl zN fun w12 hC12 hz12 hB12 => ?_)
      replace hB12 : BX w12.heap w.heap.size [(.int .i64 ((1 : Nat) : Int)), (.int .i64 x8_0), (.int .i64 0), (.int .i64 0), (.slice none 0 0)] := hB12
      have hzs12 : w8.heap.size ≤ w12.heap.size := hC12.size
      have hE12 : Chg [gs, gg] w w12 := hE8.fresh hC12 (fun c hc => by have := List.mem_singleton.1 hc; omega)
      have hF13 := hs8.chg hC12 (fun c hc => by have := List.mem_singleton.1 hc; omega)
      have hF14 := hF9.chg hC12 (fun hm => by have := List.mem_singleton.1 hm; omega)
      exact lw_nil (wp_ret (post_retA (cs := [(.int .i64 ((1 : Nat) : Int)), (.int .i64 x8_0), (.int .i64 0), (.int .i64 0), (.slice none 0 0)]) rfl agg94 rfl hB12 rfl ⟨(.mk ((1 : Nat) : Int) x8_0 0 0 []), n8, rfl, hE12, hF13, ⟨by omega, by omega⟩, hF14, (exR_mk oM oM oM oM), rfl, z108_2⟩))
    ·
      refine c_cond_t (by first | rfl | (show Value.bool _ = _; rw [hb7])) (wp_seq (wp_plain _ [0, 0, 0, 2, 0, 4, 0, 4] rfl (lw_tv 1 rfl (q_nil rfl zN (q_fldP (p := (.pointer (some ⟨gg, 0, none⟩))) (b := gg) (o := 0) 0 fd92_0 rfl rfl zN (q_load (p := (padd (.pointer (some ⟨gg, 0, none⟩)) 0)) (.inr rfl) (.pointer (some ⟨gs, 0, none⟩)) one86 rfl (hF5.ldp (i := 0) sM) zN (lw_tv 1 rfl ?_)))))))
      refine lw_callE 72 [] [] [(.pointer (some ⟨gs, 0, none⟩)), (.int .i64 vars)] rfl rfl cf72 zN (c_spec_l00Src_pick _ gs _ _ _ (vars) hs4 oM _hvars sD) ?_
      rintro e15 w15 ⟨x15_0, n15, rfl, hC15, hs15, hb15, hp15_0⟩
      refine ⟨_, rfl, ?_⟩
      have hzs15 : w4.heap.size ≤ w15.heap.size := hC15.size
      have hE15 : Chg [gs, gg] w w15 := hE4.trans (hC15.sub sub_gs)
      have hF16 := hF5.chg hC15 (fun hm => by have := List.mem_singleton.1 hm; omega)
      have hF17 := hF6.chg hC15 (fun hm => by have := List.mem_singleton.1 hm; omega)
      have hbd18 : ∀ (wq : World), (Instr.build 94 #[(0, (.int .i64 ((2 : Nat) : Int))), (1, (.int .i64 x15_0))]).run Tryz.prog wq = .ok (.agg #[(.int .i64 ((2 : Nat) : Int)), (.int .i64 x15_0), (.int .i64 0), (.int .i64 0), (.slice none 0 0)]) wq := by intro wq; kernel_rfl
      refine q_build (ps := #[(0, (.int .i64 ((2 : Nat) : Int))), (1, (.int .i64 x15_0))]) (.agg #[(.int .i64 ((2 : Nat) : Int)), (.int .i64 x15_0), (.int .i64 0), (.int .i64 0), (.slice none 0 0)]) z108_1 (fun wq => hbd18  wq) zN (e_setA (vs := [(.int .i64 ((2 : Nat) : Int)), (.int .i64 x15_0), (.int .i64 0), (.int .i64 0), (.slice none 0 0)]) agg94 rfl rfl z108_0 hF17 rfl rfl zN fun w19 hC19 hz19 hB19 => ?_)
      replace hB19 : BX w19.heap w.heap.size [(.int .i64 ((2 : Nat) : Int)), (.int .i64 x15_0), (.int .i64 0), (.int .i64 0), (.slice none 0 0)] := hB19
      have hzs19 : w15.heap.size ≤ w19.heap.size := hC19.size
      have hE19 : Chg [gs, gg] w w19 := hE15.fresh hC19 (fun c hc => by have := List.mem_singleton.1 hc; omega)
      have hF20 := hs15.chg hC19 (fun c hc => by have := List.mem_singleton.1 hc; omega)
      have hF21 := hF16.chg hC19 (fun hm => by have := List.mem_singleton.1 hm; omega)
      exact lw_nil (wp_ret (t_ret (post_retA (cs := [(.int .i64 ((2 : Nat) : Int)), (.int .i64 x15_0), (.int .i64 0), (.int .i64 0), (.slice none 0 0)]) rfl agg94 rfl hB19 rfl ⟨(.mk ((2 : Nat) : Int) x15_0 0 0 []), n15, rfl, hE19, hF20, ⟨by omega, by omega⟩, hF21, (exR_mk oM oM oM oM), rfl, z108_2⟩)))
  ·
    refine q_gtr false rfl rfl (decide_eq_false hc3) zN (lw_tvn 8 rfl (c_cond_f rfl (wp_skip (wp_seq (wp_plain _ [0, 0, 0, 2, 4, 0, 4] rfl (lw_tv 1 rfl (q_nil rfl zN (q_fldP (p := (.pointer (some ⟨gg, 0, none⟩))) (b := gg) (o := 0) 0 fd92_0 rfl rfl zN (q_load (p := (padd (.pointer (some ⟨gg, 0, none⟩)) 0)) (.inr rfl) (.pointer (some ⟨gs, 0, none⟩)) one86 rfl (hB0x1.ldp (i := 0) sM) zN (lw_callE 111 [] [] [(.pointer (some ⟨gs, 0, none⟩))] rfl rfl cf111 zN (c_spec_l01Any _ gs _ _ _ hsx1 oM) ?_))))))))))
    rintro e22 w22 ⟨x22_0, n22, rfl, hC22, hs22, hb22, hp22_0⟩
    refine ⟨_, rfl, ?_⟩
    have hzs22 : w1.heap.size ≤ w22.heap.size := hC22.size
    have hE22 : Chg [gs, gg] w w22 := hE1.trans (hC22.sub sub_gs)
    have hF23 := hB0x1.chg hC22 (fun hm => by have := List.mem_singleton.1 hm; omega)
    have hF24 := hB1.chg hC22 (fun hm => by have := List.mem_singleton.1 hm; omega)
    have hbd25 : ∀ (wq : World), (Instr.build 94 #[(0, (.int .i64 ((1 : Nat) : Int))), (1, (.int .i64 x22_0))]).run Tryz.prog wq = .ok (.agg #[(.int .i64 ((1 : Nat) : Int)), (.int .i64 x22_0), (.int .i64 0), (.int .i64 0), (.slice none 0 0)]) wq := by intro wq; kernel_rfl
    refine q_build (ps := #[(0, (.int .i64 ((1 : Nat) : Int))), (1, (.int .i64 x22_0))]) (.agg #[(.int .i64 ((1 : Nat) : Int)), (.int .i64 x22_0), (.int .i64 0), (.int .i64 0), (.slice none 0 0)]) z108_1 (fun wq => hbd25  wq) zN (e_setA (vs := [(.int .i64 ((1 : Nat) : Int)), (.int .i64 x22_0), (.int .i64 0), (.int .i64 0), (.slice none 0 0)]) agg94 rfl rfl z108_0 hF24 rfl rfl zN fun w26 hC26 hz26 hB26 => ?_)
    replace hB26 : BX w26.heap w.heap.size [(.int .i64 ((1 : Nat) : Int)), (.int .i64 x22_0), (.int .i64 0), (.int .i64 0), (.slice none 0 0)] := hB26
    have hzs26 : w22.heap.size ≤ w26.heap.size := hC26.size
    have hE26 : Chg [gs, gg] w w26 := hE22.fresh hC26 (fun c hc => by have := List.mem_singleton.1 hc; omega)
    have hF27 := hs22.chg hC26 (fun c hc => by have := List.mem_singleton.1 hc; omega)
    have hF28 := hF23.chg hC26 (fun hm => by have := List.mem_singleton.1 hm; omega)
    exact lw_nil (wp_ret (post_retA (cs := [(.int .i64 ((1 : Nat) : Int)), (.int .i64 x22_0), (.int .i64 0), (.int .i64 0), (.slice none 0 0)]) rfl agg94 rfl hB26 rfl ⟨(.mk ((1 : Nat) : Int) x22_0 0 0 []), n22, rfl, hE26, hF27, ⟨by omega, by omega⟩, hF28, (exR_mk oM oM oM oM), rfl, z108_2⟩))
theorem y110_0 {p : Prop} (h : p := by first | (rw [kn_0 oM]; rfl) | (rw [kn_2 oM]; rfl) | (rw [kn_1 oM]; rfl) | (rw [kn_3 oM]; rfl) | (rw [kn_m (by assumption) (by assumption) (by assumption) (by assumption) (by assumption) (by assumption) (by assumption) (by assumption) (by assumption)])) : p := h
theorem c_kn (w : World) (k : Int) (_hk : -9223372036854775808 ≤ k ∧ k ≤ 9223372036854775807)  :
    Calls Tryz.prog 110 #[.int .i64 k] w (fun e w' => e = .returned (.int .i64 (kn k)) ∧ w' = w) := by
  refine calls_mk [.int .i64 k] 17 Tryz.func110 rfl rfl sM ?_
  have hE0 : w = w := rfl
  refine wp_seq (wp_plain _ [0] rfl (lw_tvn 1 rfl (wp_seq (wp_seq (wp_plain _ [0] rfl (lw_tvn 1 rfl (wp_block (wp_seq (wp_seq (wp_plain _ [0, 0] rfl ?_))))))))))
  by_cases hc1 : k = ((1 : Nat) : Int)
  ·
    exact q_eql true rfl rfl (decide_eq_true hc1) zN (lw_tvn 1 rfl (c_cond_t rfl (wp_skip (c_cond_t rfl (wp_seq (wp_plain _ [0] rfl (lw_tvn 1 rfl (wp_ret (b_ret (t_ret (post_ret [2] rfl (.int .i64 ((0 : Nat) : Int)) rfl ⟨y110_0, hE0⟩)))))))))))
  ·
    refine q_eql false rfl rfl (decide_eq_false hc1) zN (lw_tvn 1 rfl (c_cond_f rfl (wp_plain _ [0, 0] rfl ?_)))
    by_cases hc2 : k = ((2 : Nat) : Int)
    ·
      exact q_eql true rfl rfl (decide_eq_true hc2) zN (lw_tvn 1 rfl (c_cond_t rfl (wp_seq (wp_plain _ [0] rfl (lw_tvn 1 rfl (wp_ret (b_ret (t_ret (post_ret [2] rfl (.int .i64 ((0 : Nat) : Int)) rfl ⟨y110_0, hE0⟩)))))))))
    ·
      refine q_eql false rfl rfl (decide_eq_false hc2) zN (lw_tvn 1 rfl (c_cond_f rfl (wp_seq (wp_seq (wp_plain _ [0, 0] rfl ?_)))))
      by_cases hc3 : k = ((3 : Nat) : Int)
      ·
        exact q_eql true rfl rfl (decide_eq_true hc3) zN (lw_tvn 1 rfl (c_cond_t rfl (wp_skip (c_cond_t rfl (wp_seq (wp_plain _ [0] rfl (lw_tvn 1 rfl (wp_ret (b_ret (t_ret (post_ret [2] rfl (.int .i64 ((2 : Nat) : Int)) rfl ⟨y110_0, hE0⟩)))))))))))
      ·
        refine q_eql false rfl rfl (decide_eq_false hc3) zN (lw_tvn 1 rfl (c_cond_f rfl (wp_seq (wp_plain _ [0, 0] rfl ?_))))
        by_cases hc4 : k = ((4 : Nat) : Int)
        ·
          exact q_eql true rfl rfl (decide_eq_true hc4) zN (lw_tvn 1 rfl (c_cond_t rfl (wp_skip (c_cond_t rfl (wp_seq (wp_plain _ [0] rfl (lw_tvn 1 rfl (wp_ret (b_ret (t_ret (post_ret [2] rfl (.int .i64 ((2 : Nat) : Int)) rfl ⟨y110_0, hE0⟩)))))))))))
        ·
          refine q_eql false rfl rfl (decide_eq_false hc4) zN (lw_tvn 1 rfl (c_cond_f rfl (wp_seq (wp_plain _ [0, 0] rfl ?_))))
          by_cases hc5 : k = ((5 : Nat) : Int)
          ·
            exact q_eql true rfl rfl (decide_eq_true hc5) zN (lw_tvn 1 rfl (c_cond_t rfl (wp_skip (c_cond_t rfl (wp_seq (wp_plain _ [0] rfl (lw_tvn 1 rfl (wp_ret (b_ret (t_ret (post_ret [2] rfl (.int .i64 ((2 : Nat) : Int)) rfl ⟨y110_0, hE0⟩)))))))))))
          ·
            refine q_eql false rfl rfl (decide_eq_false hc5) zN (lw_tvn 1 rfl (c_cond_f rfl (wp_seq (wp_plain _ [0, 0] rfl ?_))))
            by_cases hc6 : k = ((6 : Nat) : Int)
            ·
              exact q_eql true rfl rfl (decide_eq_true hc6) zN (lw_tvn 1 rfl (c_cond_t rfl (wp_skip (c_cond_t rfl (wp_seq (wp_plain _ [0] rfl (lw_tvn 1 rfl (wp_ret (b_ret (t_ret (post_ret [2] rfl (.int .i64 ((2 : Nat) : Int)) rfl ⟨y110_0, hE0⟩)))))))))))
            ·
              refine q_eql false rfl rfl (decide_eq_false hc6) zN (lw_tvn 1 rfl (c_cond_f rfl (wp_plain _ [0, 0] rfl ?_)))
              by_cases hc7 : k = ((9 : Nat) : Int)
              ·
                exact q_eql true rfl rfl (decide_eq_true hc7) zN (lw_tvn 1 rfl (c_cond_t rfl (wp_seq (wp_plain _ [0] rfl (lw_tvn 1 rfl (wp_ret (b_ret (t_ret (post_ret [2] rfl (.int .i64 ((2 : Nat) : Int)) rfl ⟨y110_0, hE0⟩)))))))))
              ·
                refine q_eql false rfl rfl (decide_eq_false hc7) zN (lw_tvn 1 rfl (c_cond_f rfl (wp_seq (wp_plain _ [0, 0] rfl ?_))))
                by_cases hc8 : k = ((7 : Nat) : Int)
                ·
                  exact q_eql true rfl rfl (decide_eq_true hc8) zN (lw_tvn 1 rfl (c_cond_t rfl (wp_seq (wp_plain _ [0] rfl (lw_tvn 1 rfl (wp_ret (b_ret (t_ret (post_ret [2] rfl (.int .i64 ((1 : Nat) : Int)) rfl ⟨y110_0, hE0⟩)))))))))
                ·
                  refine q_eql false rfl rfl (decide_eq_false hc8) zN (lw_tvn 1 rfl (c_cond_f rfl (wp_seq (wp_plain _ [0, 0] rfl ?_))))
                  by_cases hc9 : k = ((8 : Nat) : Int)
                  ·
                    exact q_eql true rfl rfl (decide_eq_true hc9) zN (lw_tvn 1 rfl (c_cond_t rfl (wp_seq (wp_plain _ [0] rfl (lw_tvn 1 rfl (wp_ret (b_ret (t_ret (post_ret [2] rfl (.int .i64 ((3 : Nat) : Int)) rfl ⟨y110_0, hE0⟩)))))))))
                  ·
                    exact q_eql false rfl rfl (decide_eq_false hc9) zN (lw_tvn 1 rfl (c_cond_f rfl (wp_skip (wp_seq (wp_plain _ [0] rfl (lw_tvn 1 rfl (wp_ret (post_ret [2] rfl (.int .i64 (-1)) rfl ⟨y110_0, hE0⟩))))))))
def GX (d : Nat) : Prop := ∀ (w : World) (gg gs : Nat) (sv : Value) (cs : List UInt8) (n0 : Nat) (pp : Value) (dp : Nat) (l0 : Int) (pl : Bool) (p : List Fn) (vars funcs : Int) (hgg : gs < gg) (hs : Src w.heap gs sv cs n0) (hB0 : BX w.heap gg [.pointer (some ⟨gs, 0, none⟩), pp, .int .i64 l0, .bool pl]) (hp : RN [gs, gg] (rP (rPr dp)) w.heap pp p) (_hvars : -9223372036854775808 ≤ vars ∧ vars ≤ 9223372036854775807) (_hfuncs : -9223372036854775808 ≤ funcs ∧ funcs ≤ 9223372036854775807) (hv : 0 ≤ vars ∧ vars + ((d : Nat) : Int) ≤ 1000) (hfu : 0 ≤ funcs ∧ funcs ≤ ((p.length : Nat) : Int)) (hpr : GPr p) (hd : d ≤ 8) (hn : n0 + stp d ≤ 1000000000000) (hl : nds d - 1000000 ≤ l0 ∧ l0 ≤ 1000), Calls Tryz.prog 74 #[.pointer (some ⟨gg, 0, none⟩), .int .i64 vars, .int .i64 funcs, .int .i64 ((d : Nat) : Int)] w (fun e w' => ∃ (v : Value) (ex : Ex) (n1 : Nat) (l1 : Int), e = .returned (.agg #[.int .i64 ex.kind, .int .i64 ex.num, .int .i64 ex.pick, .int .i64 ex.count, v]) ∧ Chg [gs, gg] w w' ∧ Src w'.heap gs sv cs n1 ∧ (n0 ≤ n1 ∧ n1 ≤ n0 + (stp d)) ∧ BX w'.heap gg [.pointer (some ⟨gs, 0, none⟩), pp, .int .i64 l1, .bool pl] ∧ Fr (owS 5 (oEx 94 d) 94) w.heap.size w'.heap.size w'.heap v ex.kids ∧ exR ex ∧ GOk p funcs vars pl d l0 l1 ex)
def GC (d : Nat) : Prop := ∀ (w : World) (gg gs : Nat) (sv : Value) (cs : List UInt8) (n0 : Nat) (pp : Value) (dp : Nat) (l0 : Int) (pl : Bool) (p : List Fn) (vars funcs : Int) (hgg : gs < gg) (hs : Src w.heap gs sv cs n0) (hB0 : BX w.heap gg [.pointer (some ⟨gs, 0, none⟩), pp, .int .i64 l0, .bool pl]) (hp : RN [gs, gg] (rP (rPr dp)) w.heap pp p) (_hvars : -9223372036854775808 ≤ vars ∧ vars ≤ 9223372036854775807) (_hfuncs : -9223372036854775808 ≤ funcs ∧ funcs ≤ 9223372036854775807) (hv : 0 ≤ vars ∧ vars + ((d : Nat) : Int) ≤ 1000) (hfu : 0 ≤ funcs ∧ funcs ≤ ((p.length : Nat) : Int)) (hpr : GPr p) (hd : 1 ≤ d ∧ d ≤ 8) (hn : n0 + (20 + 4 * stp (d - 1)) ≤ 1000000000000) (hl : 1 ≤ l0 ∧ l0 ≤ 1000), Calls Tryz.prog 109 #[.pointer (some ⟨gg, 0, none⟩), .int .i64 vars, .int .i64 funcs, .int .i64 ((d : Nat) : Int)] w (fun e w' => ∃ (v : Value) (ex : Ex) (n1 : Nat) (l1 : Int), e = .returned (.agg #[.int .i64 ex.kind, .int .i64 ex.num, .int .i64 ex.pick, .int .i64 ex.count, v]) ∧ Chg [gs, gg] w w' ∧ Src w'.heap gs sv cs n1 ∧ (n0 ≤ n1 ∧ n1 ≤ n0 + (20 + 4 * stp (d - 1))) ∧ BX w'.heap gg [.pointer (some ⟨gs, 0, none⟩), pp, .int .i64 l1, .bool pl] ∧ Fr (owS 5 (oEx 94 d) 94) w.heap.size w'.heap.size w'.heap v ex.kids ∧ exR ex ∧ GOk p funcs vars pl d (l0 + 1) l1 ex)
theorem z109_0 {p : Prop} (h : p := by intro u hu; simp only [List.mem_cons, List.not_mem_nil, or_false] at hu; rcases hu with rfl | rfl | rfl | rfl | rfl <;> first | exact ⟨rfl, rfl⟩) : p := h
theorem c_spec_l02Gen_call (w : World) (gg gs : Nat) (sv : Value) (cs : List UInt8) (n0 : Nat) (pp : Value) (dp : Nat) (l0 : Int) (pl : Bool) (p : List Fn) (vars : Int) (funcs : Int) (d : Nat) (hgg : gs < gg) (hs : Src w.heap gs sv cs n0) (hB0 : BX w.heap gg [.pointer (some ⟨gs, 0, none⟩), pp, .int .i64 l0, .bool pl]) (hp : RN [gs, gg] (rP (rPr dp)) w.heap pp p) (_hvars : -9223372036854775808 ≤ vars ∧ vars ≤ 9223372036854775807) (_hfuncs : -9223372036854775808 ≤ funcs ∧ funcs ≤ 9223372036854775807) (hv : 0 ≤ vars ∧ vars + ((d : Nat) : Int) ≤ 1000) (hfu : 0 ≤ funcs ∧ funcs ≤ ((p.length : Nat) : Int)) (hpr : GPr p) (hd : 1 ≤ d ∧ d ≤ 8) (hn : n0 + (20 + 4 * stp (d - 1)) ≤ 1000000000000) (hl : 1 ≤ l0 ∧ l0 ≤ 1000) (IH : GX (d - 1)) :
    Calls Tryz.prog 109 #[.pointer (some ⟨gg, 0, none⟩), .int .i64 vars, .int .i64 funcs, .int .i64 ((d : Nat) : Int)] w (fun e w' => ∃ (v : Value) (ex : Ex) (n1 : Nat) (l1 : Int), e = .returned (.agg #[.int .i64 ex.kind, .int .i64 ex.num, .int .i64 ex.pick, .int .i64 ex.count, v]) ∧ Chg [gs, gg] w w' ∧ Src w'.heap gs sv cs n1 ∧ (n0 ≤ n1 ∧ n1 ≤ n0 + (20 + 4 * stp (d - 1))) ∧ BX w'.heap gg [.pointer (some ⟨gs, 0, none⟩), pp, .int .i64 l1, .bool pl] ∧ Fr (owS 5 (oEx 94 d) 94) w.heap.size w'.heap.size w'.heap v ex.kids ∧ exR ex ∧ GOk p funcs vars pl d (l0 + 1) l1 ex) := by
  refine calls_mk [.pointer (some ⟨gg, 0, none⟩), .int .i64 vars, .int .i64 funcs, .int .i64 ((d : Nat) : Int)] 89 Tryz.func109 rfl rfl sM ?_
  have hE0 : Chg [gs, gg] w w := Chg.refl [gs, gg] w
  have hgl := hs.lt
  have hgl2 := hB0.lt
  have hst := stp_20 (d - 1)
  have hnd := nds_pos (d - 1)
  have hnl := nds_le (d := d - 1) oM
  have hpl := hpr.len
  refine wp_seq (wp_plain _ [3] rfl ?_)
  have hq2 := hB0.lt
  refine r_allocA (z := .agg #[.int .i64 0, .int .i64 0, .int .i64 0, .int .i64 0, .slice none 0 0]) zr94 zN fun w1 hX1 hz1 hB1 => ?_
  have hzs1 : w.heap.size ≤ w1.heap.size := hX1.size
  have hE1 : Chg [gs, gg] w w1 := hE0.ext hX1
  have hsx1 := hs.ext hX1
  have hB0x1 := hB0.ext hX1
  replace hB1 : BX w1.heap w.heap.size [(.int .i64 0), (.int .i64 0), (.int .i64 0), (.int .i64 0), (.slice none 0 0)] := hB1
  refine lw_nil (wp_seq (wp_seq (wp_plain _ [0, 0] rfl (lw_tv 1 rfl ?_))))
  by_cases hc3 : funcs = ((0 : Nat) : Int)
  ·
    refine q_eql true rfl rfl (decide_eq_true hc3) zN (lw_nil (c_cond_t rfl (wp_seq (wp_plain _ [0, 0, 4, 4] rfl (lw_tv 2 rfl (lw_callE 108 [] [] [(.pointer (some ⟨gg, 0, none⟩)), (.int .i64 vars)] rfl rfl cf108 zN (c_spec_l02Gen_leaf _ gg gs sv cs n0 pp dp l0 pl p (vars) oM hsx1 hB0x1 (hp.chg (good_rP (good_rPr dp)) hE1) _hvars oM oM) ?_))))))
    rintro e4 w4 ⟨x4, n4, rfl, hC4, hs4, hb4, hB4, hr4, hkd4, hG4⟩
    refine ⟨_, rfl, ?_⟩
    have hzs4 : w1.heap.size ≤ w4.heap.size := hC4.size
    have hE4 : Chg [gs, gg] w w4 := hE1.trans hC4
    have hF5 := hB1.chg hC4 (fun hm => by have := mem2 hm; omega)
    refine e_setA (vs := [(.int .i64 x4.kind), (.int .i64 x4.num), (.int .i64 x4.pick), (.int .i64 x4.count), (.slice none 0 0)]) agg94 rfl rfl z109_0 hF5 rfl rfl zN fun w6 hC6 hz6 hB6 => ?_
    replace hB6 : BX w6.heap w.heap.size [(.int .i64 x4.kind), (.int .i64 x4.num), (.int .i64 x4.pick), (.int .i64 x4.count), (.slice none 0 0)] := hB6
    have hzs6 : w4.heap.size ≤ w6.heap.size := hC6.size
    have hE6 : Chg [gs, gg] w w6 := hE4.fresh hC6 (fun c hc => by have := List.mem_singleton.1 hc; omega)
    have hF7 := hs4.chg hC6 (fun c hc => by have := List.mem_singleton.1 hc; omega)
    have hF8 := hB4.chg hC6 (fun hm => by have := List.mem_singleton.1 hm; omega)
    exact lw_nil (wp_ret (t_ret (post_retA (cs := [(.int .i64 x4.kind), (.int .i64 x4.num), (.int .i64 x4.pick), (.int .i64 x4.count), (.slice none 0 0)]) rfl agg94 rfl hB6 rfl ⟨(.slice none 0 0), x4, n4, l0, rfl, hE6, hF7, ⟨by omega, by omega⟩, hF8, (by rw [hkd4]; exact frNilS _ _ _), hr4, (by exact LOk.okc (by assumption) d)⟩)))
  ·
    refine q_eql false rfl rfl (decide_eq_false hc3) zN (lw_nil (c_cond_f rfl (wp_skip (wp_seq (wp_plain _ [0, 0, 0, 2, 0, 4, 0, 3, 4] rfl (lw_tv 1 rfl (q_nil rfl zN (q_fldP (p := (.pointer (some ⟨gg, 0, none⟩))) (b := gg) (o := 0) 0 fd92_0 rfl rfl zN (q_load (p := (padd (.pointer (some ⟨gg, 0, none⟩)) 0)) (.inr rfl) (.pointer (some ⟨gs, 0, none⟩)) one86 rfl (hB0x1.ldp (i := 0) sM) zN (lw_tv 1 rfl ?_))))))))))
    refine lw_callE 72 [] [] [(.pointer (some ⟨gs, 0, none⟩)), (.int .i64 funcs)] rfl rfl cf72 zN (c_spec_l00Src_pick _ gs _ _ _ (funcs) hsx1 oM _hfuncs sD) ?_
    rintro e9 w9 ⟨x9_0, n9, rfl, hC9, hs9, hb9, hp9_0⟩
    refine ⟨_, rfl, ?_⟩
    have hzs9 : w1.heap.size ≤ w9.heap.size := hC9.size
    have hE9 : Chg [gs, gg] w w9 := hE1.trans (hC9.sub sub_gs)
    have hF10 := hB0x1.chg hC9 (fun hm => by have := List.mem_singleton.1 hm; omega)
    have hF11 := hB1.chg hC9 (fun hm => by have := List.mem_singleton.1 hm; omega)
    have hbd12 : ∀ (wq : World), (Instr.build 94 #[(0, (.int .i64 ((10 : Nat) : Int))), (1, (.int .i64 x9_0))]).run Tryz.prog wq = .ok (.agg #[(.int .i64 ((10 : Nat) : Int)), (.int .i64 x9_0), (.int .i64 0), (.int .i64 0), (.slice none 0 0)]) wq := by intro wq; kernel_rfl
    refine q_build (ps := #[(0, (.int .i64 ((10 : Nat) : Int))), (1, (.int .i64 x9_0))]) (.agg #[(.int .i64 ((10 : Nat) : Int)), (.int .i64 x9_0), (.int .i64 0), (.int .i64 0), (.slice none 0 0)]) (by simp only [List.map_toArray, List.map_cons, List.map_nil]; rfl) (fun wq => hbd12  wq) zN ?_
    have hq14 := hF10.lt
    have hq15 := hF11.lt
    refine r_allocA (z := .agg #[.int .i64 0, .int .i64 0, .int .i64 0, .int .i64 0, .slice none 0 0]) zr94 zN fun w13 hX13 hz13 hB13 => ?_
    have hzs13 : w9.heap.size ≤ w13.heap.size := hX13.size
    have hE13 : Chg [gs, gg] w w13 := hE9.ext hX13
    have hs9x13 := hs9.ext hX13
    have hF10x13 := hF10.ext hX13
    have hF11x13 := hF11.ext hX13
    replace hB13 : BX w13.heap w9.heap.size [(.int .i64 0), (.int .i64 0), (.int .i64 0), (.int .i64 0), (.slice none 0 0)] := hB13
    refine e_setA (vs := [(.int .i64 ((10 : Nat) : Int)), (.int .i64 x9_0), (.int .i64 0), (.int .i64 0), (.slice none 0 0)]) agg94 rfl rfl z109_0 hB13 rfl rfl zN fun w16 hC16 hz16 hB16 => ?_
    replace hB16 : BX w16.heap w9.heap.size [(.int .i64 ((10 : Nat) : Int)), (.int .i64 x9_0), (.int .i64 0), (.int .i64 0), (.slice none 0 0)] := hB16
    have hzs16 : w13.heap.size ≤ w16.heap.size := hC16.size
    have hE16 : Chg [gs, gg] w w16 := hE13.fresh hC16 (fun c hc => by have := List.mem_singleton.1 hc; omega)
    have hF17 := hs9x13.chg hC16 (fun c hc => by have := List.mem_singleton.1 hc; omega)
    have hF18 := hF10x13.chg hC16 (fun hm => by have := List.mem_singleton.1 hm; omega)
    have hF19 := hF11x13.chg hC16 (fun hm => by have := List.mem_singleton.1 hm; omega)
    refine lw_nil (wp_seq (wp_draw _ [0, 0, 0, 1, 0, 0, 1, 0, 1, 0, 0] mixed (by kernel_rfl) (lw_tv 1 rfl ?_)))
    have hxk : x9_0 < funcs := by omega
    refine q_nil rfl zN (q_fldP (p := (.pointer (some ⟨gg, 0, none⟩))) (b := gg) (o := 0) 1 fd92_1 rfl rfl zN (q_load (p := (padd (.pointer (some ⟨gg, 0, none⟩)) 1)) (.inl rfl) pp one61 rfl (hF18.ldp (i := 1) sM) zN (q_nilP (hp.isPtr) rfl zN ?_)))
    obtain ⟨cs20, hr20, hl20⟩ := RN.at (good_rPr _) hp
    obtain ⟨ve20, rfl, hx20⟩ := RPr.of hr20
    have hln20 := hx20.lenle
    unfold maxLen at hln20
    refine q_fldL (p := pp) 0 fd32_0 rfl (hl20 _ hE16.drew) zN (q_load (p := (padd pp 0)) (.inl rfl) ve20 one30 rfl ((hl20 _ hE16.drew).ld (i := 0) (by simp [exC, fnC])) zN (q_fldP (p := (.pointer (some ⟨w9.heap.size, 0, none⟩))) (b := w9.heap.size) (o := 0) 1 fd94_1 rfl rfl zN (q_load (p := (padd (.pointer (some ⟨w9.heap.size, 0, none⟩)) 1)) (.inl rfl) (.int .i64 x9_0) one2 rfl (hB16.ldp (i := 1) sM) zN ?_)))
    refine q_idx (v := ve20) ((x9_0).toNat) u30 tiS80 rfl rfl hx20.isSl oM sD zN (lw_tvn 1 rfl (wp_seq (wp_draw _ [0, 0, 0, 1, 0, 0, 0, 1, 0, 4, 0, 4] mixed (by kernel_rfl) ?_)))
    have hou := hpr.outs (x9_0).toNat oM
    have hpa := hpr.par (x9_0).toNat oM
    refine lw_tv 1 rfl (q_nil rfl zN (q_fldP (p := (.pointer (some ⟨gg, 0, none⟩))) (b := gg) (o := 0) 0 fd92_0 rfl rfl zN (q_load (p := (padd (.pointer (some ⟨gg, 0, none⟩)) 0)) (.inl rfl) (.pointer (some ⟨gs, 0, none⟩)) one86 rfl (hF18.ldp (i := 0) sM) zN (lw_tv 1 rfl (q_nilP (RN.isPtr (RN.ptr (good_rFn dp) (by decide) Fn.zero hx20 sD)) rfl zN ?_)))))
    obtain ⟨cs21, hr21, hl21⟩ := hx20.get (good_rFn dp) Fn.zero (k := ((x9_0).toNat)) sD
    obtain ⟨ve21, rfl, hx21⟩ := RF.of hr21
    have hln21 := hx21.rn.lenle
    unfold maxLen at hln21
    refine q_fldL (p := eptr ve20 ((x9_0).toNat) 3) 2 fd80_2 rfl (hl21 _ hE16.drew.drew) zN (q_load (p := (padd (eptr ve20 ((x9_0).toNat) 3) 2)) (.inl rfl) ve21 one78 rfl ((hl21 _ hE16.drew.drew).ld (i := 2) (by simp [exC, fnC])) zN (q_len (v := ve21) u78 rfl hx21.rn.isSl zN ?_))
    refine lw_callE 72 [] [] [(.pointer (some ⟨gs, 0, none⟩)), (.int .i64 ((((p.getD ((x9_0).toNat) Fn.zero).outs).length : Nat) : Int))] rfl rfl cf72 zN (c_spec_l00Src_pick _ gs _ _ _ (((((p.getD ((x9_0).toNat) Fn.zero).outs).length : Nat) : Int)) hF17 oM oM sD) ?_
    rintro e22 w22 ⟨x22_0, n22, rfl, hC22, hs22, hb22, hp22_0⟩
    refine ⟨_, rfl, ?_⟩
    replace hC22 := hC22.of_drew
    replace hC22 := hC22.of_drew
    have hzs22 : w16.heap.size ≤ w22.heap.size := hC22.size
    have hE22 : Chg [gs, gg] w w22 := hE16.trans (hC22.sub sub_gs)
    have hF23 := hF18.chg hC22 (fun hm => by have := List.mem_singleton.1 hm; omega)
    have hF24 := hF19.chg hC22 (fun hm => by have := List.mem_singleton.1 hm; omega)
    have hF25 := hB16.chg hC22 (fun hm => by have := List.mem_singleton.1 hm; omega)
    refine q_fldP (p := (.pointer (some ⟨w9.heap.size, 0, none⟩))) (b := w9.heap.size) (o := 0) 2 fd94_2 rfl rfl zN (e_setB (k := 2) (w := w22) sz2 rfl rfl ⟨rfl, rfl⟩ hF25 sM zN fun w26 hC26 hz26 hB26 => ?_)
    replace hB26 : BX w26.heap w9.heap.size [(.int .i64 ((10 : Nat) : Int)), (.int .i64 x9_0), (.int .i64 x22_0), (.int .i64 0), (.slice none 0 0)] := hB26
    have hzs26 : w22.heap.size ≤ w26.heap.size := hC26.size
    have hE26 : Chg [gs, gg] w w26 := hE22.fresh hC26 (fun c hc => by have := List.mem_singleton.1 hc; omega)
    have hF27 := hs22.chg hC26 (fun c hc => by have := List.mem_singleton.1 hc; omega)
    have hF28 := hF23.chg hC26 (fun hm => by have := List.mem_singleton.1 hm; omega)
    have hF29 := hF24.chg hC26 (fun hm => by have := List.mem_singleton.1 hm; omega)
    refine lw_nil ?_
    refine wp_seq (c_cut (S := Int × Int × Nat) (fun (⟨k, cnt, m1⟩ : Int × Int × Nat) => ([(0, (.pointer (some ⟨gg, 0, none⟩))), (1, (.int .i64 vars)), (2, (.int .i64 funcs)), (3, (.int .i64 ((d : Nat) : Int))), (8, (.pointer (some ⟨w.heap.size, 0, none⟩))), (9, (.pointer (some ⟨w9.heap.size, 0, none⟩))), (10, (eptr ve20 ((x9_0).toNat) 3))] : List (Nat × Value))) (fun (⟨k, cnt, m1⟩ : Int × Int × Nat) (W : World) => Chg [gs, gg] w W ∧ Src W.heap gs sv cs m1 ∧ BX W.heap gg [(.pointer (some ⟨gs, 0, none⟩)), pp, (.int .i64 l0), (.bool pl)] ∧ BX W.heap w.heap.size [(.int .i64 0), (.int .i64 0), (.int .i64 0), (.int .i64 0), (.slice none 0 0)] ∧ BX W.heap w9.heap.size [(.int .i64 k), (.int .i64 x9_0), (.int .i64 x22_0), (.int .i64 cnt), (.slice none 0 0)] ∧ ((k = 10 ∧ cnt = 0) ∨ (k = 11 ∧ (((p.getD (x9_0).toNat Fn.zero).outs.length : Nat) : Int) = (p.getD (x9_0).toNat Fn.zero).params ∧ 0 ≤ cnt ∧ cnt ≤ 8)) ∧ (n0 ≤ m1 ∧ m1 ≤ n0 + 8)) ?_ ?_)
    ·
      refine wp_seq (wp_draw _ [0, 0, 0, 1, 0, 0, 0, 0, 1, 0, 0, 0, 0, 0, 1, 4, 0] mixed (by kernel_rfl) (lw_tv 1 rfl (q_nilP (RN.isPtr (RN.ptr (good_rFn dp) (by decide) Fn.zero hx20 sD)) rfl zN (q_fldL (p := eptr ve20 ((x9_0).toNat) 3) 2 fd80_2 rfl (hl21 _ hE26.drew) zN (q_load (p := (padd (eptr ve20 ((x9_0).toNat) 3) 2)) (.inl rfl) ve21 one78 rfl ((hl21 _ hE26.drew).ld (i := 2) (by simp [exC, fnC])) zN (q_len (v := ve21) u78 rfl hx21.rn.isSl zN ?_))))))
      refine lw_tv 1 rfl (q_nilP (RN.isPtr (RN.ptr (good_rFn dp) (by decide) Fn.zero hx20 sD)) rfl zN (q_fldL (p := eptr ve20 ((x9_0).toNat) 3) 1 fd80_1 rfl (hl21 _ hE26.drew) zN (q_load (p := (padd (eptr ve20 ((x9_0).toNat) 3) 1)) (.inl rfl) (.int .i64 ((p.getD ((x9_0).toNat) Fn.zero).params)) one2 rfl ((hl21 _ hE26.drew).ld (i := 1) (by simp [exC, fnC])) zN ?_)))
      by_cases hc31 : ((((p.getD ((x9_0).toNat) Fn.zero).outs).length : Nat) : Int) = (p.getD ((x9_0).toNat) Fn.zero).params
      ·
        refine q_eql true rfl rfl (decide_eq_true hc31) zN (lw_tv 2 rfl (q_nil rfl (zS (e := 55) rfl rfl rfl) (q_fldP (p := (.pointer (some ⟨gg, 0, none⟩))) (b := gg) (o := 0) 0 fd92_0 rfl rfl (zS (e := 55) rfl rfl rfl) (q_load (p := (padd (.pointer (some ⟨gg, 0, none⟩)) 0)) (.inl rfl) (.pointer (some ⟨gs, 0, none⟩)) one86 rfl (hF28.ldp (i := 0) sM) (zS (e := 55) rfl rfl rfl) ?_))))
        refine lw_callE 73 [] [] [(.pointer (some ⟨gs, 0, none⟩)), (.int .i64 ((2 : Nat) : Int))] rfl rfl cf73 (zS (e := 55) rfl rfl rfl) (c_spec_l00Src_one _ gs _ _ _ (((2 : Nat) : Int)) hF27 oM oM sD) ?_
        rintro e32 w32 ⟨x32_0, n32, rfl, hC32, hs32, hb32, hp32_0⟩
        refine ⟨_, rfl, ?_⟩
        replace hC32 := hC32.of_drew
        have hzs32 : w26.heap.size ≤ w32.heap.size := hC32.size
        have hE32 : Chg [gs, gg] w w32 := hE26.trans (hC32.sub sub_gs)
        have hF33 := hF28.chg hC32 (fun hm => by have := List.mem_singleton.1 hm; omega)
        have hF34 := hF29.chg hC32 (fun hm => by have := List.mem_singleton.1 hm; omega)
        have hF35 := hB26.chg hC32 (fun hm => by have := List.mem_singleton.1 hm; omega)
        refine lw_tvn 1 rfl ?_
        cases hb36 : x32_0
        ·
          exact c_cond_f (by first | rfl | (show Value.bool _ = _; rw [hb36])) (wp_skip ⟨(((10 : Nat) : Int), 0, n32), _, rfl, ⟨rfl, rfl, rfl, rfl, rfl, rfl, rfl, trivial⟩, ⟨hE32, hs32, hF33, hF34, hF35, oM, oM⟩⟩)
        ·
          refine c_cond_t (by first | rfl | (show Value.bool _ = _; rw [hb36])) (wp_seq (wp_plain _ [0, 4] rfl (q_fldP (p := (.pointer (some ⟨w9.heap.size, 0, none⟩))) (b := w9.heap.size) (o := 0) 0 fd94_0 rfl rfl zN (e_setB (k := 0) (w := w32) sz2 rfl rfl ⟨rfl, rfl⟩ hF35 sM zN fun w37 hC37 hz37 hB37 => ?_))))
          replace hB37 : BX w37.heap w9.heap.size [(.int .i64 ((11 : Nat) : Int)), (.int .i64 x9_0), (.int .i64 x22_0), (.int .i64 0), (.slice none 0 0)] := hB37
          have hzs37 : w32.heap.size ≤ w37.heap.size := hC37.size
          have hE37 : Chg [gs, gg] w w37 := hE32.fresh hC37 (fun c hc => by have := List.mem_singleton.1 hc; omega)
          have hF38 := hs32.chg hC37 (fun c hc => by have := List.mem_singleton.1 hc; omega)
          have hF39 := hF33.chg hC37 (fun hm => by have := List.mem_singleton.1 hm; omega)
          have hF40 := hF34.chg hC37 (fun hm => by have := List.mem_singleton.1 hm; omega)
          refine lw_nil (wp_plain _ [0, 0, 0, 2, 4, 0, 4] rfl (lw_tv 1 rfl (q_nil rfl zN (q_fldP (p := (.pointer (some ⟨gg, 0, none⟩))) (b := gg) (o := 0) 0 fd92_0 rfl rfl zN (q_load (p := (padd (.pointer (some ⟨gg, 0, none⟩)) 0)) (.inr rfl) (.pointer (some ⟨gs, 0, none⟩)) one86 rfl (hF39.ldp (i := 0) sM) zN ?_)))))
          refine lw_callE 72 [] [] [(.pointer (some ⟨gs, 0, none⟩)), (.int .i64 ((4 : Nat) : Int))] rfl rfl cf72 zN (c_spec_l00Src_pick _ gs _ _ _ (((4 : Nat) : Int)) hF38 oM oM sD) ?_
          rintro e41 w41 ⟨x41_0, n41, rfl, hC41, hs41, hb41, hp41_0⟩
          refine ⟨_, rfl, ?_⟩
          have hzs41 : w37.heap.size ≤ w41.heap.size := hC41.size
          have hE41 : Chg [gs, gg] w w41 := hE37.trans (hC41.sub sub_gs)
          have hF42 := hF39.chg hC41 (fun hm => by have := List.mem_singleton.1 hm; omega)
          have hF43 := hF40.chg hC41 (fun hm => by have := List.mem_singleton.1 hm; omega)
          have hF44 := hB37.chg hC41 (fun hm => by have := List.mem_singleton.1 hm; omega)
          refine q_fldP (p := (.pointer (some ⟨w9.heap.size, 0, none⟩))) (b := w9.heap.size) (o := 0) 3 fd94_3 rfl rfl zN (e_setB (k := 3) (w := w41) sz2 rfl rfl ⟨rfl, rfl⟩ hF44 sM zN fun w45 hC45 hz45 hB45 => ?_)
          replace hB45 : BX w45.heap w9.heap.size [(.int .i64 ((11 : Nat) : Int)), (.int .i64 x9_0), (.int .i64 x22_0), (.int .i64 x41_0), (.slice none 0 0)] := hB45
          have hzs45 : w41.heap.size ≤ w45.heap.size := hC45.size
          have hE45 : Chg [gs, gg] w w45 := hE41.fresh hC45 (fun c hc => by have := List.mem_singleton.1 hc; omega)
          have hF46 := hs41.chg hC45 (fun c hc => by have := List.mem_singleton.1 hc; omega)
          have hF47 := hF42.chg hC45 (fun hm => by have := List.mem_singleton.1 hm; omega)
          have hF48 := hF43.chg hC45 (fun hm => by have := List.mem_singleton.1 hm; omega)
          exact lw_nil ⟨(((11 : Nat) : Int), x41_0, n41), _, rfl, ⟨rfl, rfl, rfl, rfl, rfl, rfl, rfl, trivial⟩, ⟨hE45, hF46, hF47, hF48, hB45, oM, oM⟩⟩
      ·
        exact q_eql false rfl rfl (decide_eq_false hc31) zN (lw_tvn 7 rfl (c_cond_f rfl (wp_skip ⟨(((10 : Nat) : Int), 0, n22), _, rfl, ⟨rfl, rfl, rfl, rfl, rfl, rfl, rfl, trivial⟩, ⟨hE26.drew, hF27, hF28, hF29, hB26, oM, oM⟩⟩)))
    ·
      clear hE0 hz1 hX1 hzs1 hE1 hC9 hzs9 hE9 hF10 hF11 hz13 hX13 hzs13 hE13 hF10x13 hF11x13 hz16 hC16 hzs16 hE16 hF17 hF18 hF19 hln20 hln21 hC22 hzs22 hE22 hF23 hF24 hF25 hz26 hC26 hzs26 hE26 hF27 hF28 hF29
      rintro ⟨k, cnt, m1⟩ ρ30 w30 ⟨hE30, hL30_0, hL30_1, hL30_2, hL30_3, hkc, hm8⟩
      have hzs30 : w.heap.size ≤ w30.heap.size := hE30.size
      have hq49 := hL30_1.lt
      have hq50 := hL30_2.lt
      have hq51 := hL30_3.lt
      refine wp_seq (wp_seq (wp_plain _ [0] rfl (lw_tvn 1 rfl (wp_block ?_))))
      refine c_loop (S := Nat × Int × Nat × Value × List Ex) (fun (⟨i, l, m, vk, xs⟩ : Nat × Int × Nat × Value × List Ex) => ([(11, (.int .i64 ((i : Nat) : Int))), (0, (.pointer (some ⟨gg, 0, none⟩))), (1, (.int .i64 vars)), (2, (.int .i64 funcs)), (3, (.int .i64 ((d : Nat) : Int))), (8, (.pointer (some ⟨w.heap.size, 0, none⟩))), (9, (.pointer (some ⟨w9.heap.size, 0, none⟩))), (10, (eptr ve20 ((x9_0).toNat) 3))] : List (Nat × Value))) (fun (⟨i, l, m, vk, xs⟩ : Nat × Int × Nat × Value × List Ex) (W : World) => Chg [gs, gg] w W ∧ Fr (owS 5 (oEx 94 d) 94) w30.heap.size W.heap.size W.heap vk xs ∧ Src W.heap gs sv cs m ∧ BX W.heap gg [(.pointer (some ⟨gs, 0, none⟩)), pp, (.int .i64 l), (.bool pl)] ∧ BX W.heap w.heap.size [(.int .i64 0), (.int .i64 0), (.int .i64 0), (.int .i64 0), (.slice none 0 0)] ∧ BX W.heap w9.heap.size [(.int .i64 k), (.int .i64 x9_0), (.int .i64 x22_0), (.int .i64 cnt), vk] ∧ ((i : Nat) : Int) ≤ (p.getD (x9_0).toNat Fn.zero).params ∧ KOk p funcs vars pl k d l0 l xs i ∧ (n0 ≤ m ∧ m ≤ n0 + 8 + tmN i (stp (d - 1))) ∧ gg < w30.heap.size ∧ w.heap.size < w30.heap.size ∧ w9.heap.size < w30.heap.size ∧ w30.heap.size ≤ W.heap.size) (fun (⟨i, l, m, vk, xs⟩ : Nat × Int × Nat × Value × List Ex) => (p.getD (x9_0).toNat Fn.zero).params.toNat - i) (0, l0, m1, (.slice none 0 0), ([] : List Ex)) ⟨rfl, rfl, rfl, rfl, rfl, rfl, rfl, rfl, trivial⟩ ⟨hE30, (frNilS _ 0 _).up (good_owS (good_oEx 94 d)), hL30_0, hL30_1, hL30_2, hL30_3, oM, (by exact KOk.nil ..), (by exact ⟨by omega, by show _ ≤ n0 + 8 + 0; omega⟩), oM, oM, oM, oM⟩ ?_
      clear hL30_3 hL30_2 hL30_1 hL30_0
      rintro ⟨i, l, m, vk, xs⟩ ρ55 w55 ⟨hE55, hL55_0, hL55_1, hL55_2, hL55_3, hL55_4, hi4, hko, hmb, hkg52, hkg53, hkg54, hkB56⟩
      have hzs55 : w.heap.size ≤ w55.heap.size := hE55.size
      have hq57 := hL55_2.lt
      have hq58 := hL55_3.lt
      have hq59 := hL55_4.lt
      refine wp_seq (wp_seq (wp_plain _ [0, 0, 0, 0, 2, 0] rfl (lw_tv 2 rfl (q_nilP (RN.isPtr (RN.ptr (good_rFn dp) (by decide) Fn.zero hx20 sD)) rfl zN (q_fldL (p := eptr ve20 ((x9_0).toNat) 3) 1 fd80_1 rfl (hl21 _ hE55) zN (q_load (p := (padd (eptr ve20 ((x9_0).toNat) 3) 1)) (.inr rfl) (.int .i64 ((p.getD ((x9_0).toNat) Fn.zero).params)) one2 rfl ((hl21 _ hE55).ld (i := 1) (by simp [exC, fnC])) zN ?_))))))
      by_cases hc60 : ((i : Nat) : Int) < (p.getD ((x9_0).toNat) Fn.zero).params
      ·
        refine q_lss true rfl rfl (decide_eq_true hc60) zN (lw_nil (c_cond_t rfl (wp_skip (wp_seq (wp_block ?_)))))
        letI : JR := jrC [gs, gg]
        refine Jx.wp_draw _ [0, 1, 0, 0, 0, 0, 0, 3, 3, 4, 0, 4] mixed (by kernel_rfl) ?_
        have htn := tmN_4 (k := stp (d - 1)) (i := i + 1) oM
        have hts : tmN (i + 1) (stp (d - 1)) = tmN i (stp (d - 1)) + stp (d - 1) := rfl
        have hti := tmI_4 (k := nds (d - 1)) (i := i) oM oM
        have hlo := hko.lo
        have hln := hko.len
        refine Jx.q_fldP (p := (.pointer (some ⟨w9.heap.size, 0, none⟩))) (b := w9.heap.size) (o := 0) 4 fd94_4 rfl rfl zN (Jx.q_loadJ (p := (padd (.pointer (some ⟨w9.heap.size, 0, none⟩)) 4)) vk one78 rfl (fun wj hj => (BX.chg (w := w55.drew) (F := [gs, gg]) hL55_4 hj (fun hm => by have := mem2 hm; omega)).ldp (i := 4) sM) zN (Jx.q_move (.pointer (some ⟨gg, 0, none⟩)) rfl zN (Jx.q_move (.int .i64 vars) rfl zN (Jx.q_move (.int .i64 funcs) rfl zN (Jx.q_move (.int .i64 ((d : Nat) : Int)) rfl zN (Jx.j1 (q_sub ((d - 1 : Nat) : Int) rfl rfl (by rw [w64 oM oM]; omega) zN (lw_nil ?_))))))))
        refine Jx.lw_call 74 [] [] [(.pointer (some ⟨gg, 0, none⟩)), (.int .i64 vars), (.int .i64 funcs), (.int .i64 ((d - 1 : Nat) : Int))] rfl rfl cf74 zN (IH _ gg gs sv cs m pp dp l pl p (vars) (funcs) oM hL55_1 hL55_2 (hp.chg (good_rP (good_rPr dp)) hE55.drew) _hvars _hfuncs oM oM (by exact hpr) oM oM oM) ?_
        rintro e61 w61 ⟨v61, x61, n61, l61, rfl, hC61, hs61, hb61, hB61, hO61, hr61, hG61⟩
        refine ⟨_, rfl, hC61, ?_⟩
        replace hO61 := hO61.low (B' := w55.heap.size) (Nat.le_refl _)
        replace hC61 := hC61.of_drew
        have hzs61 : w55.heap.size ≤ w61.heap.size := hC61.size
        have hE61 : Chg [gs, gg] w w61 := hE55.trans hC61
        have hF62 := hL55_0.chg ((good_owS (good_oEx 94 d))) hC61 (fun c hc => by have := mem2 hc; omega)
        have hF63 := hL55_3.chg hC61 (fun hm => by have := mem2 hm; omega)
        have hF64 := hL55_4.chg hC61 (fun hm => by have := mem2 hm; omega)
        refine Jx.tail rfl (r_oneS (cs := [(.int .i64 x61.kind), (.int .i64 x61.num), (.int .i64 x61.pick), (.int .i64 x61.count), v61]) (y := x61) (B := w55.heap.size) (good_oEx 94 d) u78 tiS94 rfl (by decide) rfl (FrN.mk1 oM hr61 hO61) oM zN fun v65 w65 hX65 hz65 hO65 => ?_)
        have hzs65 : w61.heap.size ≤ w65.heap.size := hX65.size
        have hE65 : Chg [gs, gg] w w65 := hE61.ext hX65
        have hF62x65 := hF62.ext ((good_owS (good_oEx 94 d))) hX65
        have hs61x65 := hs61.ext hX65
        have hB61x65 := hB61.ext hX65
        have hF63x65 := hF63.ext hX65
        have hF64x65 := hF64.ext hX65
        refine e_appS (v := vk) (a := v65) (good_oEx 94 d) u78 tiS94 rfl (by decide) rfl rfl hF62x65 oM hO65 oM oM oM (by unfold maxLen; omega) zN fun v66 w66 F66 hC66 hF66 hO66 => ?_
        have hzs66 : w65.heap.size ≤ w66.heap.size := hC66.size
        have hE66 : Chg [gs, gg] w w66 := hE65.fresh hC66 (fun c hc => by have := hF66 _ hc; omega)
        have hF67 := hs61x65.chg hC66 (fun c hc => by have := hF66 _ hc; omega)
        have hF68 := hB61x65.chg hC66 (fun hm => by have := hF66 _ hm; omega)
        have hF69 := hF63x65.chg hC66 (fun hm => by have := hF66 _ hm; omega)
        have hF70 := hF64x65.chg hC66 (fun hm => by have := hF66 _ hm; omega)
        refine q_fldP (p := (.pointer (some ⟨w9.heap.size, 0, none⟩))) (b := w9.heap.size) (o := 0) 4 fd94_4 rfl rfl zN (e_setB (k := 4) (w := w66) sz78 rfl rfl (isSl_one hO66.isSlS) hF70 sM zN fun w71 hC71 hz71 hB71 => ?_)
        replace hB71 : BX w71.heap w9.heap.size [(.int .i64 k), (.int .i64 x9_0), (.int .i64 x22_0), (.int .i64 cnt), v66] := hB71
        have hzs71 : w66.heap.size ≤ w71.heap.size := hC71.size
        have hE71 : Chg [gs, gg] w w71 := hE66.fresh hC71 (fun c hc => by have := List.mem_singleton.1 hc; omega)
        have hF72 := hF67.chg hC71 (fun c hc => by have := List.mem_singleton.1 hc; omega)
        have hF73 := hF68.chg hC71 (fun hm => by have := List.mem_singleton.1 hm; omega)
        have hF74 := hF69.chg hC71 (fun hm => by have := List.mem_singleton.1 hm; omega)
        have hF75 := hO66.chg ((good_owS (good_oEx 94 d))) hC71 (fun c hc => by have := List.mem_singleton.1 hc; omega)
        exact lw_nil (wp_plain _ [0, 0, 0] rfl (lw_tv 1 rfl (q_add ((i + 1 : Nat) : Int) rfl rfl (w64n oM oM) zN (lw_tvn 1 rfl ⟨((i + 1), l61, n61, v66, (xs ++ [x61])), _, rfl, ⟨rfl, rfl, rfl, rfl, rfl, rfl, rfl, rfl, trivial⟩, ⟨hE71, hF75.up (good_owS (good_oEx 94 d)), hF72, hF73, hF74, hB71, oM, (by exact hko.snoc oM (by rw [if_neg oM]) (by assumption)), oM, oM, oM, oM, oM⟩, by first | omega | (dsimp only; omega)⟩))))
      ·
        refine q_lss false rfl rfl (decide_eq_false hc60) zN (lw_nil (c_cond_f rfl (wp_exit (t_exit (t_exit (c_exit_here (wp_seq (wp_plain _ [2, 4] rfl (q_loadA (p := (.pointer (some ⟨w9.heap.size, 0, none⟩))) (.inr rfl) [(.int .i64 k), (.int .i64 x9_0), (.int .i64 x22_0), (.int .i64 cnt), vk] agg94 rfl (fun w9 hw9 => LD.of_box (BX.ext (w := w55) hL55_4 hw9)) rfl zN (e_setA (vs := [(.int .i64 k), (.int .i64 x9_0), (.int .i64 x22_0), (.int .i64 cnt), vk]) agg94 rfl rfl (by intro u hu; simp only [List.mem_cons, List.not_mem_nil, or_false] at hu; rcases hu with rfl | rfl | rfl | rfl | rfl <;> first | exact ⟨rfl, rfl⟩ | exact isSl_one hL55_0.isSlS) hL55_3 rfl rfl zN fun w76 hC76 hz76 hB76 => ?_))))))))))
        replace hB76 : BX w76.heap w.heap.size [(.int .i64 k), (.int .i64 x9_0), (.int .i64 x22_0), (.int .i64 cnt), vk] := hB76
        have hzs76 : w55.heap.size ≤ w76.heap.size := hC76.size
        have hE76 : Chg [gs, gg] w w76 := hE55.fresh hC76 (fun c hc => by have := List.mem_singleton.1 hc; omega)
        have hF77 := hL55_0.chg ((good_owS (good_oEx 94 d))) hC76 (fun c hc => by have := List.mem_singleton.1 hc; omega)
        have hF78 := hL55_1.chg hC76 (fun c hc => by have := List.mem_singleton.1 hc; omega)
        have hF79 := hL55_2.chg hC76 (fun hm => by have := List.mem_singleton.1 hm; omega)
        have hF80 := hL55_4.chg hC76 (fun hm => by have := List.mem_singleton.1 hm; omega)
        refine lw_nil (wp_ret ?_)
        have hln := hko.len
        have htn := tmN_4 (k := stp (d - 1)) (i := i) oM
        exact post_retA (cs := [(.int .i64 k), (.int .i64 x9_0), (.int .i64 x22_0), (.int .i64 cnt), vk]) rfl agg94 rfl hB76 rfl ⟨vk, (.mk k x9_0 x22_0 cnt xs), m, l, rfl, hE76, hF78, ⟨by omega, by omega⟩, hF79, ((hF77.up (good_owS (good_oEx 94 d))).low (B' := w.heap.size) oM), (exR_mk oM oM oM oM), (by exact hko.node1 oM oM oM (fun _ => by omega) (wfN_cl hkc oM oM oM))⟩
theorem z74_0 {p : Prop} (h : p := by intro u hu; simp only [List.mem_cons, List.not_mem_nil, or_false] at hu; rcases hu with rfl | rfl | rfl | rfl | rfl <;> first | exact ⟨rfl, rfl⟩) : p := h
theorem z74_1 {p : Prop} (h : p := by exact hko.snoc oM (by first | rw [if_pos oM] | rw [if_neg oM]) (by assumption)) : p := h
theorem z74_2 {p : Prop} (h : p := by intro hpl; first | omega | (simp_all; omega) | simp_all) : p := h
theorem c_spec_l02Gen_expr (w : World) (gg gs : Nat) (sv : Value) (cs : List UInt8) (n0 : Nat) (pp : Value) (dp : Nat) (l0 : Int) (pl : Bool) (p : List Fn) (vars : Int) (funcs : Int) (d : Nat) (hgg : gs < gg) (hs : Src w.heap gs sv cs n0) (hB0 : BX w.heap gg [.pointer (some ⟨gs, 0, none⟩), pp, .int .i64 l0, .bool pl]) (hp : RN [gs, gg] (rP (rPr dp)) w.heap pp p) (_hvars : -9223372036854775808 ≤ vars ∧ vars ≤ 9223372036854775807) (_hfuncs : -9223372036854775808 ≤ funcs ∧ funcs ≤ 9223372036854775807) (hv : 0 ≤ vars ∧ vars + ((d : Nat) : Int) ≤ 1000) (hfu : 0 ≤ funcs ∧ funcs ≤ ((p.length : Nat) : Int)) (hpr : GPr p) (hd : d ≤ 8) (hn : n0 + stp d ≤ 1000000000000) (hl : nds d - 1000000 ≤ l0 ∧ l0 ≤ 1000) (IH1 : ∀ d', d' < d → GX d') (IH2 : 1 ≤ d → GC d) :
    Calls Tryz.prog 74 #[.pointer (some ⟨gg, 0, none⟩), .int .i64 vars, .int .i64 funcs, .int .i64 ((d : Nat) : Int)] w (fun e w' => ∃ (v : Value) (ex : Ex) (n1 : Nat) (l1 : Int), e = .returned (.agg #[.int .i64 ex.kind, .int .i64 ex.num, .int .i64 ex.pick, .int .i64 ex.count, v]) ∧ Chg [gs, gg] w w' ∧ Src w'.heap gs sv cs n1 ∧ (n0 ≤ n1 ∧ n1 ≤ n0 + (stp d)) ∧ BX w'.heap gg [.pointer (some ⟨gs, 0, none⟩), pp, .int .i64 l1, .bool pl] ∧ Fr (owS 5 (oEx 94 d) 94) w.heap.size w'.heap.size w'.heap v ex.kids ∧ exR ex ∧ GOk p funcs vars pl d l0 l1 ex) := by
  refine calls_mk [.pointer (some ⟨gg, 0, none⟩), .int .i64 vars, .int .i64 funcs, .int .i64 ((d : Nat) : Int)] 117 Tryz.func74 rfl rfl sM ?_
  have hE0 : Chg [gs, gg] w w := Chg.refl [gs, gg] w
  have hgl := hs.lt
  have hgl2 := hB0.lt
  have hst := stp_20 d
  have hnd := nds_pos d
  have hnl := nds_le (d := d) oM
  refine wp_seq (wp_plain _ [3] rfl ?_)
  have hq2 := hB0.lt
  refine r_allocA (z := .agg #[.int .i64 0, .int .i64 0, .int .i64 0, .int .i64 0, .slice none 0 0]) zr94 zN fun w1 hX1 hz1 hB1 => ?_
  have hzs1 : w.heap.size ≤ w1.heap.size := hX1.size
  have hE1 : Chg [gs, gg] w w1 := hE0.ext hX1
  have hsx1 := hs.ext hX1
  have hB0x1 := hB0.ext hX1
  replace hB1 : BX w1.heap w.heap.size [(.int .i64 0), (.int .i64 0), (.int .i64 0), (.int .i64 0), (.slice none 0 0)] := hB1
  refine lw_nil (wp_seq (wp_plain _ [0, 0, 0, 2, 0, 0, 0, 4] rfl (lw_tv 1 rfl (q_nil rfl zN (q_fldP (p := (.pointer (some ⟨gg, 0, none⟩))) (b := gg) (o := 0) 2 fd92_2 rfl rfl zN (q_load (p := (padd (.pointer (some ⟨gg, 0, none⟩)) 2)) (.inr rfl) (.int .i64 l0) one2 rfl (hB0x1.ldp (i := 2) sM) zN ?_))))))
  refine q_sub (l0 - ((1 : Nat) : Int)) rfl rfl (w64 sD sD) zN (q_nil rfl zN ?_)
  refine q_fldP (p := (.pointer (some ⟨gg, 0, none⟩))) (b := gg) (o := 0) 2 fd92_2 rfl rfl zN (e_setB (k := 2) (w := w1) sz2 rfl rfl ⟨rfl, rfl⟩ hB0x1 sM zN fun w3 hC3 hz3 hB3 => ?_)
  replace hB3 : BX w3.heap gg [(.pointer (some ⟨gs, 0, none⟩)), pp, (.int .i64 (l0 - ((1 : Nat) : Int))), (.bool pl)] := hB3
  have hzs3 : w1.heap.size ≤ w3.heap.size := hC3.size
  have hE3 : Chg [gs, gg] w w3 := hE1.trans (hC3.sub sub_gg)
  have hF4 := hsx1.chg hC3 (fun c hc => by have := List.mem_singleton.1 hc; omega)
  have hF5 := hB1.chg hC3 (fun hm => by have := List.mem_singleton.1 hm; omega)
  refine lw_nil (wp_seq (wp_seq (wp_plain _ [0, 0, 0, 2, 0, 0, 0, 0, 0, 0, 0, 0, 0, 2, 4, 0] rfl (lw_tv 1 rfl (q_nil rfl zN (q_fldP (p := (.pointer (some ⟨gg, 0, none⟩))) (b := gg) (o := 0) 2 fd92_2 rfl rfl zN (q_load (p := (padd (.pointer (some ⟨gg, 0, none⟩)) 2)) (.inr rfl) (.int .i64 (l0 - ((1 : Nat) : Int))) one2 rfl (hB3.ldp (i := 2) sM) zN ?_)))))))
  by_cases hc6 : l0 - ((1 : Nat) : Int) < ((1 : Nat) : Int)
  ·
    refine q_lss true rfl rfl (decide_eq_true hc6) zN (lw_tvn 11 rfl (c_cond_t rfl (wp_seq (wp_plain _ [0, 0, 4, 4] rfl (lw_tv 2 rfl (lw_callE 108 [] [] [(.pointer (some ⟨gg, 0, none⟩)), (.int .i64 vars)] rfl rfl cf108 zN (c_spec_l02Gen_leaf _ gg gs sv cs n0 pp dp (l0 - ((1 : Nat) : Int)) pl p (vars) oM hF4 hB3 (hp.chg (good_rP (good_rPr dp)) hE3) _hvars oM oM) ?_))))))
    rintro e7 w7 ⟨x7, n7, rfl, hC7, hs7, hb7, hB7, hr7, hkd7, hG7⟩
    refine ⟨_, rfl, ?_⟩
    have hzs7 : w3.heap.size ≤ w7.heap.size := hC7.size
    have hE7 : Chg [gs, gg] w w7 := hE3.trans hC7
    have hF8 := hF5.chg hC7 (fun hm => by have := mem2 hm; omega)
    refine e_setA (vs := [(.int .i64 x7.kind), (.int .i64 x7.num), (.int .i64 x7.pick), (.int .i64 x7.count), (.slice none 0 0)]) agg94 rfl rfl z74_0 hF8 rfl rfl zN fun w9 hC9 hz9 hB9 => ?_
    replace hB9 : BX w9.heap w.heap.size [(.int .i64 x7.kind), (.int .i64 x7.num), (.int .i64 x7.pick), (.int .i64 x7.count), (.slice none 0 0)] := hB9
    have hzs9 : w7.heap.size ≤ w9.heap.size := hC9.size
    have hE9 : Chg [gs, gg] w w9 := hE7.fresh hC9 (fun c hc => by have := List.mem_singleton.1 hc; omega)
    have hF10 := hs7.chg hC9 (fun c hc => by have := List.mem_singleton.1 hc; omega)
    have hF11 := hB7.chg hC9 (fun hm => by have := List.mem_singleton.1 hm; omega)
    exact lw_nil (wp_ret (t_ret (post_retA (cs := [(.int .i64 x7.kind), (.int .i64 x7.num), (.int .i64 x7.pick), (.int .i64 x7.count), (.slice none 0 0)]) rfl agg94 rfl hB9 rfl ⟨(.slice none 0 0), x7, n7, (l0 - ((1 : Nat) : Int)), rfl, hE9, hF10, ⟨by omega, by omega⟩, hF11, (by rw [hkd7]; exact frNilS _ _ _), hr7, (by exact LOk.ok (by assumption) d)⟩)))
  ·
    refine q_lss false rfl rfl (decide_eq_false hc6) zN (lw_tv 2 rfl ?_)
    by_cases hc12 : ((d : Nat) : Int) < ((1 : Nat) : Int)
    ·
      refine q_lss true rfl rfl (decide_eq_true hc12) (zS (e := 24) rfl rfl rfl) (lw_tvn 8 rfl (c_cond_t rfl (wp_seq (wp_plain _ [0, 0, 4, 4] rfl (lw_tv 2 rfl (lw_callE 108 [] [] [(.pointer (some ⟨gg, 0, none⟩)), (.int .i64 vars)] rfl rfl cf108 zN (c_spec_l02Gen_leaf _ gg gs sv cs n0 pp dp (l0 - ((1 : Nat) : Int)) pl p (vars) oM hF4 hB3 (hp.chg (good_rP (good_rPr dp)) hE3) _hvars oM oM) ?_))))))
      rintro e13 w13 ⟨x13, n13, rfl, hC13, hs13, hb13, hB13, hr13, hkd13, hG13⟩
      refine ⟨_, rfl, ?_⟩
      have hzs13 : w3.heap.size ≤ w13.heap.size := hC13.size
      have hE13 : Chg [gs, gg] w w13 := hE3.trans hC13
      have hF14 := hF5.chg hC13 (fun hm => by have := mem2 hm; omega)
      refine e_setA (vs := [(.int .i64 x13.kind), (.int .i64 x13.num), (.int .i64 x13.pick), (.int .i64 x13.count), (.slice none 0 0)]) agg94 rfl rfl z74_0 hF14 rfl rfl zN fun w15 hC15 hz15 hB15 => ?_
      replace hB15 : BX w15.heap w.heap.size [(.int .i64 x13.kind), (.int .i64 x13.num), (.int .i64 x13.pick), (.int .i64 x13.count), (.slice none 0 0)] := hB15
      have hzs15 : w13.heap.size ≤ w15.heap.size := hC15.size
      have hE15 : Chg [gs, gg] w w15 := hE13.fresh hC15 (fun c hc => by have := List.mem_singleton.1 hc; omega)
      have hF16 := hs13.chg hC15 (fun c hc => by have := List.mem_singleton.1 hc; omega)
      have hF17 := hB13.chg hC15 (fun hm => by have := List.mem_singleton.1 hm; omega)
      exact lw_nil (wp_ret (t_ret (post_retA (cs := [(.int .i64 x13.kind), (.int .i64 x13.num), (.int .i64 x13.pick), (.int .i64 x13.count), (.slice none 0 0)]) rfl agg94 rfl hB15 rfl ⟨(.slice none 0 0), x13, n13, (l0 - ((1 : Nat) : Int)), rfl, hE15, hF16, ⟨by omega, by omega⟩, hF17, (by rw [hkd13]; exact frNilS _ _ _), hr13, (by exact LOk.ok (by assumption) d)⟩)))
    ·
      refine q_lss false rfl rfl (decide_eq_false hc12) (zS (e := 24) rfl rfl rfl) (lw_tv 3 rfl (q_nil rfl (zS (e := 28) rfl rfl rfl) (q_fldP (p := (.pointer (some ⟨gg, 0, none⟩))) (b := gg) (o := 0) 0 fd92_0 rfl rfl (zS (e := 28) rfl rfl rfl) (q_load (p := (padd (.pointer (some ⟨gg, 0, none⟩)) 0)) (.inr rfl) (.pointer (some ⟨gs, 0, none⟩)) one86 rfl (hB3.ldp (i := 0) sM) (zS (e := 28) rfl rfl rfl) ?_))))
      refine lw_callE 73 [] [] [(.pointer (some ⟨gs, 0, none⟩)), (.int .i64 ((5 : Nat) : Int))] rfl rfl cf73 (zS (e := 28) rfl rfl rfl) (c_spec_l00Src_one _ gs _ _ _ (((5 : Nat) : Int)) hF4 oM oM sD) ?_
      rintro e18 w18 ⟨x18_0, n18, rfl, hC18, hs18, hb18, hp18_0⟩
      refine ⟨_, rfl, ?_⟩
      have hzs18 : w3.heap.size ≤ w18.heap.size := hC18.size
      have hE18 : Chg [gs, gg] w w18 := hE3.trans (hC18.sub sub_gs)
      have hF19 := hB3.chg hC18 (fun hm => by have := List.mem_singleton.1 hm; omega)
      have hF20 := hF5.chg hC18 (fun hm => by have := List.mem_singleton.1 hm; omega)
      refine lw_tvn 1 rfl ?_
      cases hb21 : x18_0
      ·
        refine c_cond_f (by first | rfl | (show Value.bool _ = _; rw [hb21])) (wp_skip (wp_seq (wp_plain _ [0, 3, 4] rfl ?_)))
        have hnds := nds_s (d := d) oM
        have hstp := stp_s (d := d) oM
        have hst1 := stp_20 (d - 1)
        have hnd1 := nds_pos (d - 1)
        have hbd22 : ∀ (wq : World), (Instr.build 94 #[]).run Tryz.prog wq = .ok (.agg #[(.int .i64 0), (.int .i64 0), (.int .i64 0), (.int .i64 0), (.slice none 0 0)]) wq := by intro wq; kernel_rfl
        refine q_build (ps := #[]) (.agg #[(.int .i64 0), (.int .i64 0), (.int .i64 0), (.int .i64 0), (.slice none 0 0)]) (by simp only [List.map_toArray, List.map_cons, List.map_nil]) (fun wq => hbd22  wq) zN ?_
        have hq24 := hF19.lt
        have hq25 := hF20.lt
        refine r_allocA (z := .agg #[.int .i64 0, .int .i64 0, .int .i64 0, .int .i64 0, .slice none 0 0]) zr94 zN fun w23 hX23 hz23 hB23 => ?_
        have hzs23 : w18.heap.size ≤ w23.heap.size := hX23.size
        have hE23 : Chg [gs, gg] w w23 := hE18.ext hX23
        have hs18x23 := hs18.ext hX23
        have hF19x23 := hF19.ext hX23
        have hF20x23 := hF20.ext hX23
        replace hB23 : BX w23.heap w18.heap.size [(.int .i64 0), (.int .i64 0), (.int .i64 0), (.int .i64 0), (.slice none 0 0)] := hB23
        refine e_setA (vs := [(.int .i64 0), (.int .i64 0), (.int .i64 0), (.int .i64 0), (.slice none 0 0)]) agg94 rfl rfl z74_0 hB23 rfl rfl zN fun w26 hC26 hz26 hB26 => ?_
        replace hB26 : BX w26.heap w18.heap.size [(.int .i64 0), (.int .i64 0), (.int .i64 0), (.int .i64 0), (.slice none 0 0)] := hB26
        have hzs26 : w23.heap.size ≤ w26.heap.size := hC26.size
        have hE26 : Chg [gs, gg] w w26 := hE23.fresh hC26 (fun c hc => by have := List.mem_singleton.1 hc; omega)
        have hF27 := hs18x23.chg hC26 (fun c hc => by have := List.mem_singleton.1 hc; omega)
        have hF28 := hF19x23.chg hC26 (fun hm => by have := List.mem_singleton.1 hm; omega)
        have hF29 := hF20x23.chg hC26 (fun hm => by have := List.mem_singleton.1 hm; omega)
        refine lw_nil (wp_seq (c_cut (S := Int × Nat) (fun (⟨k, m1⟩ : Int × Nat) => ([(0, (.pointer (some ⟨gg, 0, none⟩))), (1, (.int .i64 vars)), (2, (.int .i64 funcs)), (3, (.int .i64 ((d : Nat) : Int))), (8, (.pointer (some ⟨w.heap.size, 0, none⟩))), (9, (.pointer (some ⟨w18.heap.size, 0, none⟩)))] : List (Nat × Value))) (fun (⟨k, m1⟩ : Int × Nat) (W : World) => Chg [gs, gg] w W ∧ Src W.heap gs sv cs m1 ∧ BX W.heap gg [(.pointer (some ⟨gs, 0, none⟩)), pp, (.int .i64 (l0 - ((1 : Nat) : Int))), (.bool pl)] ∧ BX W.heap w.heap.size [(.int .i64 0), (.int .i64 0), (.int .i64 0), (.int .i64 0), (.slice none 0 0)] ∧ BX W.heap w18.heap.size [(.int .i64 k), (.int .i64 0), (.int .i64 0), (.int .i64 0), (.slice none 0 0)] ∧ (k = 3 ∨ k = 4 ∨ k = 5 ∨ k = 6 ∨ k = 7 ∨ k = 8 ∨ k = 9) ∧ (n0 ≤ m1 ∧ m1 ≤ n0 + 4)) ?_ ?_))
        ·
          refine wp_seq (wp_plain _ [0, 0, 0, 2, 4] rfl (lw_tv 1 rfl (q_nil rfl zN (q_fldP (p := (.pointer (some ⟨gg, 0, none⟩))) (b := gg) (o := 0) 0 fd92_0 rfl rfl zN (q_load (p := (padd (.pointer (some ⟨gg, 0, none⟩)) 0)) (.inr rfl) (.pointer (some ⟨gs, 0, none⟩)) one86 rfl (hF28.ldp (i := 0) sM) zN ?_)))))
          refine lw_callE 72 [] [] [(.pointer (some ⟨gs, 0, none⟩)), (.int .i64 ((12 : Nat) : Int))] rfl rfl cf72 zN (c_spec_l00Src_pick _ gs _ _ _ (((12 : Nat) : Int)) hF27 oM oM sD) ?_
          rintro e31 w31 ⟨x31_0, n31, rfl, hC31, hs31, hb31, hp31_0⟩
          refine ⟨_, rfl, ?_⟩
          have hzs31 : w26.heap.size ≤ w31.heap.size := hC31.size
          have hE31 : Chg [gs, gg] w w31 := hE26.trans (hC31.sub sub_gs)
          have hF32 := hF28.chg hC31 (fun hm => by have := List.mem_singleton.1 hm; omega)
          have hF33 := hF29.chg hC31 (fun hm => by have := List.mem_singleton.1 hm; omega)
          have hF34 := hB26.chg hC31 (fun hm => by have := List.mem_singleton.1 hm; omega)
          refine lw_nil (wp_block (wp_seq (wp_plain _ [0, 0] rfl ?_)))
          by_cases hc35 : x31_0 = ((0 : Nat) : Int)
          ·
            refine q_eql true rfl rfl (decide_eq_true hc35) zN (lw_tvn 1 rfl (c_cond_t rfl (wp_plain _ [0, 4] rfl (q_fldP (p := (.pointer (some ⟨w18.heap.size, 0, none⟩))) (b := w18.heap.size) (o := 0) 0 fd94_0 rfl rfl zN (e_setB (k := 0) (w := w31) sz2 rfl rfl ⟨rfl, rfl⟩ hF34 sM zN fun w36 hC36 hz36 hB36 => ?_)))))
            replace hB36 : BX w36.heap w18.heap.size [(.int .i64 ((7 : Nat) : Int)), (.int .i64 0), (.int .i64 0), (.int .i64 0), (.slice none 0 0)] := hB36
            have hzs36 : w31.heap.size ≤ w36.heap.size := hC36.size
            have hE36 : Chg [gs, gg] w w36 := hE31.fresh hC36 (fun c hc => by have := List.mem_singleton.1 hc; omega)
            have hF37 := hs31.chg hC36 (fun c hc => by have := List.mem_singleton.1 hc; omega)
            have hF38 := hF32.chg hC36 (fun hm => by have := List.mem_singleton.1 hm; omega)
            have hF39 := hF33.chg hC36 (fun hm => by have := List.mem_singleton.1 hm; omega)
            exact lw_nil ⟨(((7 : Nat) : Int), n31), _, rfl, ⟨rfl, rfl, rfl, rfl, rfl, rfl, trivial⟩, ⟨hE36, hF37, hF38, hF39, hB36, oM, oM⟩⟩
          ·
            refine q_eql false rfl rfl (decide_eq_false hc35) zN (lw_tvn 1 rfl (c_cond_f rfl (wp_seq (wp_plain _ [0, 0] rfl ?_))))
            by_cases hc40 : x31_0 = ((1 : Nat) : Int)
            ·
              refine q_eql true rfl rfl (decide_eq_true hc40) zN (lw_tvn 1 rfl (c_cond_t rfl (wp_plain _ [0, 4] rfl (q_fldP (p := (.pointer (some ⟨w18.heap.size, 0, none⟩))) (b := w18.heap.size) (o := 0) 0 fd94_0 rfl rfl zN (e_setB (k := 0) (w := w31) sz2 rfl rfl ⟨rfl, rfl⟩ hF34 sM zN fun w41 hC41 hz41 hB41 => ?_)))))
              replace hB41 : BX w41.heap w18.heap.size [(.int .i64 ((9 : Nat) : Int)), (.int .i64 0), (.int .i64 0), (.int .i64 0), (.slice none 0 0)] := hB41
              have hzs41 : w31.heap.size ≤ w41.heap.size := hC41.size
              have hE41 : Chg [gs, gg] w w41 := hE31.fresh hC41 (fun c hc => by have := List.mem_singleton.1 hc; omega)
              have hF42 := hs31.chg hC41 (fun c hc => by have := List.mem_singleton.1 hc; omega)
              have hF43 := hF32.chg hC41 (fun hm => by have := List.mem_singleton.1 hm; omega)
              have hF44 := hF33.chg hC41 (fun hm => by have := List.mem_singleton.1 hm; omega)
              exact lw_nil ⟨(((9 : Nat) : Int), n31), _, rfl, ⟨rfl, rfl, rfl, rfl, rfl, rfl, trivial⟩, ⟨hE41, hF42, hF43, hF44, hB41, oM, oM⟩⟩
            ·
              refine q_eql false rfl rfl (decide_eq_false hc40) zN (lw_tvn 1 rfl (c_cond_f rfl (wp_seq (wp_plain _ [0, 0] rfl ?_))))
              by_cases hc45 : x31_0 = ((2 : Nat) : Int)
              ·
                refine q_eql true rfl rfl (decide_eq_true hc45) zN (lw_tvn 1 rfl (c_cond_t rfl (wp_plain _ [0, 4] rfl (q_fldP (p := (.pointer (some ⟨w18.heap.size, 0, none⟩))) (b := w18.heap.size) (o := 0) 0 fd94_0 rfl rfl zN (e_setB (k := 0) (w := w31) sz2 rfl rfl ⟨rfl, rfl⟩ hF34 sM zN fun w46 hC46 hz46 hB46 => ?_)))))
                replace hB46 : BX w46.heap w18.heap.size [(.int .i64 ((8 : Nat) : Int)), (.int .i64 0), (.int .i64 0), (.int .i64 0), (.slice none 0 0)] := hB46
                have hzs46 : w31.heap.size ≤ w46.heap.size := hC46.size
                have hE46 : Chg [gs, gg] w w46 := hE31.fresh hC46 (fun c hc => by have := List.mem_singleton.1 hc; omega)
                have hF47 := hs31.chg hC46 (fun c hc => by have := List.mem_singleton.1 hc; omega)
                have hF48 := hF32.chg hC46 (fun hm => by have := List.mem_singleton.1 hm; omega)
                have hF49 := hF33.chg hC46 (fun hm => by have := List.mem_singleton.1 hm; omega)
                exact lw_nil ⟨(((8 : Nat) : Int), n31), _, rfl, ⟨rfl, rfl, rfl, rfl, rfl, rfl, trivial⟩, ⟨hE46, hF47, hF48, hF49, hB46, oM, oM⟩⟩
              ·
                refine q_eql false rfl rfl (decide_eq_false hc45) zN (lw_tvn 1 rfl (c_cond_f rfl (wp_seq (wp_plain _ [0, 0] rfl ?_))))
                by_cases hc50 : x31_0 = ((3 : Nat) : Int)
                ·
                  refine q_eql true rfl rfl (decide_eq_true hc50) zN (lw_tvn 1 rfl (c_cond_t rfl (wp_plain _ [0, 4] rfl (q_fldP (p := (.pointer (some ⟨w18.heap.size, 0, none⟩))) (b := w18.heap.size) (o := 0) 0 fd94_0 rfl rfl zN (e_setB (k := 0) (w := w31) sz2 rfl rfl ⟨rfl, rfl⟩ hF34 sM zN fun w51 hC51 hz51 hB51 => ?_)))))
                  replace hB51 : BX w51.heap w18.heap.size [(.int .i64 ((6 : Nat) : Int)), (.int .i64 0), (.int .i64 0), (.int .i64 0), (.slice none 0 0)] := hB51
                  have hzs51 : w31.heap.size ≤ w51.heap.size := hC51.size
                  have hE51 : Chg [gs, gg] w w51 := hE31.fresh hC51 (fun c hc => by have := List.mem_singleton.1 hc; omega)
                  have hF52 := hs31.chg hC51 (fun c hc => by have := List.mem_singleton.1 hc; omega)
                  have hF53 := hF32.chg hC51 (fun hm => by have := List.mem_singleton.1 hm; omega)
                  have hF54 := hF33.chg hC51 (fun hm => by have := List.mem_singleton.1 hm; omega)
                  exact lw_nil ⟨(((6 : Nat) : Int), n31), _, rfl, ⟨rfl, rfl, rfl, rfl, rfl, rfl, trivial⟩, ⟨hE51, hF52, hF53, hF54, hB51, oM, oM⟩⟩
                ·
                  refine q_eql false rfl rfl (decide_eq_false hc50) zN (lw_tvn 1 rfl (c_cond_f rfl (wp_seq (wp_seq (wp_plain _ [0, 0] rfl ?_)))))
                  by_cases hc55 : x31_0 = ((4 : Nat) : Int)
                  ·
                    refine q_eql true rfl rfl (decide_eq_true hc55) zN (lw_tvn 1 rfl (c_cond_t rfl (wp_skip (c_cond_t rfl (wp_plain _ [0, 4] rfl (q_fldP (p := (.pointer (some ⟨w18.heap.size, 0, none⟩))) (b := w18.heap.size) (o := 0) 0 fd94_0 rfl rfl zN (e_setB (k := 0) (w := w31) sz2 rfl rfl ⟨rfl, rfl⟩ hF34 sM zN fun w56 hC56 hz56 hB56 => ?_)))))))
                    replace hB56 : BX w56.heap w18.heap.size [(.int .i64 ((3 : Nat) : Int)), (.int .i64 0), (.int .i64 0), (.int .i64 0), (.slice none 0 0)] := hB56
                    have hzs56 : w31.heap.size ≤ w56.heap.size := hC56.size
                    have hE56 : Chg [gs, gg] w w56 := hE31.fresh hC56 (fun c hc => by have := List.mem_singleton.1 hc; omega)
                    have hF57 := hs31.chg hC56 (fun c hc => by have := List.mem_singleton.1 hc; omega)
                    have hF58 := hF32.chg hC56 (fun hm => by have := List.mem_singleton.1 hm; omega)
                    have hF59 := hF33.chg hC56 (fun hm => by have := List.mem_singleton.1 hm; omega)
                    exact lw_nil ⟨(((3 : Nat) : Int), n31), _, rfl, ⟨rfl, rfl, rfl, rfl, rfl, rfl, trivial⟩, ⟨hE56, hF57, hF58, hF59, hB56, oM, oM⟩⟩
                  ·
                    refine q_eql false rfl rfl (decide_eq_false hc55) zN (lw_tvn 1 rfl (c_cond_f rfl (wp_plain _ [0, 0] rfl ?_)))
                    by_cases hc60 : x31_0 = ((5 : Nat) : Int)
                    ·
                      refine q_eql true rfl rfl (decide_eq_true hc60) zN (lw_tvn 1 rfl (c_cond_t rfl (wp_plain _ [0, 4] rfl (q_fldP (p := (.pointer (some ⟨w18.heap.size, 0, none⟩))) (b := w18.heap.size) (o := 0) 0 fd94_0 rfl rfl zN (e_setB (k := 0) (w := w31) sz2 rfl rfl ⟨rfl, rfl⟩ hF34 sM zN fun w61 hC61 hz61 hB61 => ?_)))))
                      replace hB61 : BX w61.heap w18.heap.size [(.int .i64 ((3 : Nat) : Int)), (.int .i64 0), (.int .i64 0), (.int .i64 0), (.slice none 0 0)] := hB61
                      have hzs61 : w31.heap.size ≤ w61.heap.size := hC61.size
                      have hE61 : Chg [gs, gg] w w61 := hE31.fresh hC61 (fun c hc => by have := List.mem_singleton.1 hc; omega)
                      have hF62 := hs31.chg hC61 (fun c hc => by have := List.mem_singleton.1 hc; omega)
                      have hF63 := hF32.chg hC61 (fun hm => by have := List.mem_singleton.1 hm; omega)
                      have hF64 := hF33.chg hC61 (fun hm => by have := List.mem_singleton.1 hm; omega)
                      exact lw_nil ⟨(((3 : Nat) : Int), n31), _, rfl, ⟨rfl, rfl, rfl, rfl, rfl, rfl, trivial⟩, ⟨hE61, hF62, hF63, hF64, hB61, oM, oM⟩⟩
                    ·
                      refine q_eql false rfl rfl (decide_eq_false hc60) zN (lw_tvn 1 rfl (c_cond_f rfl (wp_seq (wp_plain _ [0, 0] rfl ?_))))
                      by_cases hc65 : x31_0 = ((6 : Nat) : Int)
                      ·
                        refine q_eql true rfl rfl (decide_eq_true hc65) zN (lw_tvn 1 rfl (c_cond_t rfl (wp_plain _ [0, 4] rfl (q_fldP (p := (.pointer (some ⟨w18.heap.size, 0, none⟩))) (b := w18.heap.size) (o := 0) 0 fd94_0 rfl rfl zN (e_setB (k := 0) (w := w31) sz2 rfl rfl ⟨rfl, rfl⟩ hF34 sM zN fun w66 hC66 hz66 hB66 => ?_)))))
                        replace hB66 : BX w66.heap w18.heap.size [(.int .i64 ((4 : Nat) : Int)), (.int .i64 0), (.int .i64 0), (.int .i64 0), (.slice none 0 0)] := hB66
                        have hzs66 : w31.heap.size ≤ w66.heap.size := hC66.size
                        have hE66 : Chg [gs, gg] w w66 := hE31.fresh hC66 (fun c hc => by have := List.mem_singleton.1 hc; omega)
                        have hF67 := hs31.chg hC66 (fun c hc => by have := List.mem_singleton.1 hc; omega)
                        have hF68 := hF32.chg hC66 (fun hm => by have := List.mem_singleton.1 hm; omega)
                        have hF69 := hF33.chg hC66 (fun hm => by have := List.mem_singleton.1 hm; omega)
                        exact lw_nil ⟨(((4 : Nat) : Int), n31), _, rfl, ⟨rfl, rfl, rfl, rfl, rfl, rfl, trivial⟩, ⟨hE66, hF67, hF68, hF69, hB66, oM, oM⟩⟩
                      ·
                        refine q_eql false rfl rfl (decide_eq_false hc65) zN (lw_tvn 1 rfl (c_cond_f rfl (wp_seq (wp_seq (wp_plain _ [0, 0] rfl ?_)))))
                        by_cases hc70 : x31_0 = ((7 : Nat) : Int)
                        ·
                          refine q_eql true rfl rfl (decide_eq_true hc70) zN (lw_tvn 1 rfl (c_cond_t rfl (wp_skip (c_cond_t rfl (wp_plain _ [0, 4] rfl (q_fldP (p := (.pointer (some ⟨w18.heap.size, 0, none⟩))) (b := w18.heap.size) (o := 0) 0 fd94_0 rfl rfl zN (e_setB (k := 0) (w := w31) sz2 rfl rfl ⟨rfl, rfl⟩ hF34 sM zN fun w71 hC71 hz71 hB71 => ?_)))))))
                          replace hB71 : BX w71.heap w18.heap.size [(.int .i64 ((5 : Nat) : Int)), (.int .i64 0), (.int .i64 0), (.int .i64 0), (.slice none 0 0)] := hB71
                          have hzs71 : w31.heap.size ≤ w71.heap.size := hC71.size
                          have hE71 : Chg [gs, gg] w w71 := hE31.fresh hC71 (fun c hc => by have := List.mem_singleton.1 hc; omega)
                          have hF72 := hs31.chg hC71 (fun c hc => by have := List.mem_singleton.1 hc; omega)
                          have hF73 := hF32.chg hC71 (fun hm => by have := List.mem_singleton.1 hm; omega)
                          have hF74 := hF33.chg hC71 (fun hm => by have := List.mem_singleton.1 hm; omega)
                          exact lw_nil ⟨(((5 : Nat) : Int), n31), _, rfl, ⟨rfl, rfl, rfl, rfl, rfl, rfl, trivial⟩, ⟨hE71, hF72, hF73, hF74, hB71, oM, oM⟩⟩
                        ·
                          refine q_eql false rfl rfl (decide_eq_false hc70) zN (lw_tvn 1 rfl (c_cond_f rfl (wp_seq (wp_plain _ [0, 0] rfl ?_))))
                          by_cases hc75 : x31_0 = ((8 : Nat) : Int)
                          ·
                            refine q_eql true rfl rfl (decide_eq_true hc75) zN (lw_tvn 1 rfl (c_cond_t rfl (wp_skip (c_cond_t rfl (wp_plain _ [0, 4] rfl (q_fldP (p := (.pointer (some ⟨w18.heap.size, 0, none⟩))) (b := w18.heap.size) (o := 0) 0 fd94_0 rfl rfl zN (e_setB (k := 0) (w := w31) sz2 rfl rfl ⟨rfl, rfl⟩ hF34 sM zN fun w76 hC76 hz76 hB76 => ?_)))))))
                            replace hB76 : BX w76.heap w18.heap.size [(.int .i64 ((5 : Nat) : Int)), (.int .i64 0), (.int .i64 0), (.int .i64 0), (.slice none 0 0)] := hB76
                            have hzs76 : w31.heap.size ≤ w76.heap.size := hC76.size
                            have hE76 : Chg [gs, gg] w w76 := hE31.fresh hC76 (fun c hc => by have := List.mem_singleton.1 hc; omega)
                            have hF77 := hs31.chg hC76 (fun c hc => by have := List.mem_singleton.1 hc; omega)
                            have hF78 := hF32.chg hC76 (fun hm => by have := List.mem_singleton.1 hm; omega)
                            have hF79 := hF33.chg hC76 (fun hm => by have := List.mem_singleton.1 hm; omega)
                            exact lw_nil ⟨(((5 : Nat) : Int), n31), _, rfl, ⟨rfl, rfl, rfl, rfl, rfl, rfl, trivial⟩, ⟨hE76, hF77, hF78, hF79, hB76, oM, oM⟩⟩
                          ·
                            refine q_eql false rfl rfl (decide_eq_false hc75) zN (lw_tvn 1 rfl (c_cond_f rfl (wp_plain _ [0, 0] rfl ?_)))
                            by_cases hc80 : x31_0 = ((9 : Nat) : Int)
                            ·
                              refine q_eql true rfl rfl (decide_eq_true hc80) zN (lw_tvn 1 rfl (c_cond_t rfl (wp_plain _ [0, 4] rfl (q_fldP (p := (.pointer (some ⟨w18.heap.size, 0, none⟩))) (b := w18.heap.size) (o := 0) 0 fd94_0 rfl rfl zN (e_setB (k := 0) (w := w31) sz2 rfl rfl ⟨rfl, rfl⟩ hF34 sM zN fun w81 hC81 hz81 hB81 => ?_)))))
                              replace hB81 : BX w81.heap w18.heap.size [(.int .i64 ((5 : Nat) : Int)), (.int .i64 0), (.int .i64 0), (.int .i64 0), (.slice none 0 0)] := hB81
                              have hzs81 : w31.heap.size ≤ w81.heap.size := hC81.size
                              have hE81 : Chg [gs, gg] w w81 := hE31.fresh hC81 (fun c hc => by have := List.mem_singleton.1 hc; omega)
                              have hF82 := hs31.chg hC81 (fun c hc => by have := List.mem_singleton.1 hc; omega)
                              have hF83 := hF32.chg hC81 (fun hm => by have := List.mem_singleton.1 hm; omega)
                              have hF84 := hF33.chg hC81 (fun hm => by have := List.mem_singleton.1 hm; omega)
                              exact lw_nil ⟨(((5 : Nat) : Int), n31), _, rfl, ⟨rfl, rfl, rfl, rfl, rfl, rfl, trivial⟩, ⟨hE81, hF82, hF83, hF84, hB81, oM, oM⟩⟩
                            ·
                              refine q_eql false rfl rfl (decide_eq_false hc80) zN (lw_tvn 1 rfl (c_cond_f rfl (wp_seq (wp_plain _ [0, 0, 0, 0, 4, 4] rfl (lw_tv 4 rfl (lw_callE 109 [] [] [(.pointer (some ⟨gg, 0, none⟩)), (.int .i64 vars), (.int .i64 funcs), (.int .i64 ((d : Nat) : Int))] rfl rfl cf109 zN (IH2 oM _ gg gs sv cs n31 pp dp (l0 - ((1 : Nat) : Int)) pl p (vars) (funcs) oM hs31 hF32 (hp.chg (good_rP (good_rPr dp)) hE31) _hvars _hfuncs oM oM (by exact hpr) oM oM oM) ?_))))))
                              rintro e85 w85 ⟨v85, x85, n85, l85, rfl, hC85, hs85, hb85, hB85, hO85, hr85, hG85⟩
                              refine ⟨_, rfl, ?_⟩
                              have hzs85 : w31.heap.size ≤ w85.heap.size := hC85.size
                              have hE85 : Chg [gs, gg] w w85 := hE31.trans hC85
                              have hF86 := hF33.chg hC85 (fun hm => by have := mem2 hm; omega)
                              have hF87 := hF34.chg hC85 (fun hm => by have := mem2 hm; omega)
                              refine e_setA (vs := [(.int .i64 x85.kind), (.int .i64 x85.num), (.int .i64 x85.pick), (.int .i64 x85.count), v85]) agg94 rfl rfl (by intro u hu; simp only [List.mem_cons, List.not_mem_nil, or_false] at hu; rcases hu with rfl | rfl | rfl | rfl | rfl <;> first | exact ⟨rfl, rfl⟩ | exact isSl_one hO85.isSlS) hF86 rfl rfl zN fun w88 hC88 hz88 hB88 => ?_
                              replace hB88 : BX w88.heap w.heap.size [(.int .i64 x85.kind), (.int .i64 x85.num), (.int .i64 x85.pick), (.int .i64 x85.count), v85] := hB88
                              have hzs88 : w85.heap.size ≤ w88.heap.size := hC88.size
                              have hE88 : Chg [gs, gg] w w88 := hE85.fresh hC88 (fun c hc => by have := List.mem_singleton.1 hc; omega)
                              have hF89 := hs85.chg hC88 (fun c hc => by have := List.mem_singleton.1 hc; omega)
                              have hF90 := hB85.chg hC88 (fun hm => by have := List.mem_singleton.1 hm; omega)
                              have hF91 := hF87.chg hC88 (fun hm => by have := List.mem_singleton.1 hm; omega)
                              have hF92 := hO85.chg ((good_owS (good_oEx 94 d))) hC88 (fun c hc => by have := List.mem_singleton.1 hc; omega)
                              exact lw_nil (wp_ret (b_ret (t_ret (post_retA (cs := [(.int .i64 x85.kind), (.int .i64 x85.num), (.int .i64 x85.pick), (.int .i64 x85.count), v85]) rfl agg94 rfl hB88 rfl ⟨v85, x85, n85, l85, rfl, hE88, hF89, ⟨by omega, by omega⟩, hF90, ((hF92.up (good_owS (good_oEx 94 d))).low (B' := w.heap.size) oM), hr85, (by exact GOk.up1 (by assumption))⟩))))
        ·
          clear hE0 hz1 hX1 hzs1 hE1 hz3 hC3 hzs3 hE3 hF4 hF5 hC18 hzs18 hE18 hF19 hF20 hz23 hX23 hzs23 hE23 hF19x23 hF20x23 hz26 hC26 hzs26 hE26 hF27 hF28 hF29
          rintro ⟨k, m1⟩ ρ30 w30 ⟨hE30, hL30_0, hL30_1, hL30_2, hL30_3, hkk, hm4⟩
          have hzs30 : w.heap.size ≤ w30.heap.size := hE30.size
          have hq93 := hL30_1.lt
          have hq94 := hL30_2.lt
          have hq95 := hL30_3.lt
          refine wp_seq (c_cut (S := Int) (fun (k2 : Int) => ([(0, (.pointer (some ⟨gg, 0, none⟩))), (1, (.int .i64 vars)), (2, (.int .i64 funcs)), (3, (.int .i64 ((d : Nat) : Int))), (8, (.pointer (some ⟨w.heap.size, 0, none⟩))), (9, (.pointer (some ⟨w18.heap.size, 0, none⟩)))] : List (Nat × Value))) (fun (k2 : Int) (W : World) => Chg [gs, gg] w W ∧ Src W.heap gs sv cs m1 ∧ BX W.heap gg [(.pointer (some ⟨gs, 0, none⟩)), pp, (.int .i64 (l0 - ((1 : Nat) : Int))), (.bool pl)] ∧ BX W.heap w.heap.size [(.int .i64 0), (.int .i64 0), (.int .i64 0), (.int .i64 0), (.slice none 0 0)] ∧ BX W.heap w18.heap.size [(.int .i64 k2), (.int .i64 0), (.int .i64 0), (.int .i64 0), (.slice none 0 0)] ∧ (k2 = 3 ∨ k2 = 4 ∨ k2 = 5 ∨ k2 = 6 ∨ k2 = 7 ∨ k2 = 8 ∨ k2 = 9) ∧ (pl = true → k2 ≠ 6 ∧ k2 ≠ 8)) ?_ ?_)
          ·
            refine wp_seq (wp_plain _ [0, 0, 0, 2, 0, 0, 2, 0, 0, 0, 2, 0, 0, 0] rfl (lw_tv 1 rfl (q_nil rfl zN (q_fldP (p := (.pointer (some ⟨gg, 0, none⟩))) (b := gg) (o := 0) 3 fd92_3 rfl rfl zN (q_load (p := (padd (.pointer (some ⟨gg, 0, none⟩)) 3)) (.inr rfl) (.bool (true && pl)) one4 rfl (hL30_1.ldp (i := 3) sM) zN (lw_tv 1 rfl ?_))))))
            cases hb97 : (true && pl)
            ·
              exact lw_tvn 9 rfl (c_cond_f rfl (wp_skip ⟨k, _, rfl, ⟨rfl, rfl, rfl, rfl, rfl, rfl, trivial⟩, ⟨hE30, hL30_0, hL30_1, hL30_2, hL30_3, oM, z74_2⟩⟩))
            ·
              refine q_fldP (p := (.pointer (some ⟨w18.heap.size, 0, none⟩))) (b := w18.heap.size) (o := 0) 0 fd94_0 rfl rfl (zS (e := 77) rfl rfl rfl) (q_load (p := (padd (.pointer (some ⟨w18.heap.size, 0, none⟩)) 0)) (.inr rfl) (.int .i64 k) one2 rfl (hL30_3.ldp (i := 0) sM) (zS (e := 77) rfl rfl rfl) ?_)
              by_cases hc98 : k = ((8 : Nat) : Int)
              ·
                refine q_eql true rfl rfl (decide_eq_true hc98) (zS (e := 77) rfl rfl rfl) (lw_tvn 6 rfl (c_cond_t rfl (wp_plain _ [0, 4] rfl (q_fldP (p := (.pointer (some ⟨w18.heap.size, 0, none⟩))) (b := w18.heap.size) (o := 0) 0 fd94_0 rfl rfl zN (e_setB (k := 0) (w := w30) sz2 rfl rfl ⟨rfl, rfl⟩ hL30_3 sM zN fun w99 hC99 hz99 hB99 => ?_)))))
                replace hB99 : BX w99.heap w18.heap.size [(.int .i64 ((5 : Nat) : Int)), (.int .i64 0), (.int .i64 0), (.int .i64 0), (.slice none 0 0)] := hB99
                have hzs99 : w30.heap.size ≤ w99.heap.size := hC99.size
                have hE99 : Chg [gs, gg] w w99 := hE30.fresh hC99 (fun c hc => by have := List.mem_singleton.1 hc; omega)
                have hF100 := hL30_0.chg hC99 (fun c hc => by have := List.mem_singleton.1 hc; omega)
                have hF101 := hL30_1.chg hC99 (fun hm => by have := List.mem_singleton.1 hm; omega)
                have hF102 := hL30_2.chg hC99 (fun hm => by have := List.mem_singleton.1 hm; omega)
                exact lw_nil ⟨((5 : Nat) : Int), _, rfl, ⟨rfl, rfl, rfl, rfl, rfl, rfl, trivial⟩, ⟨hE99, hF100, hF101, hF102, hB99, oM, z74_2⟩⟩
              ·
                refine q_eql false rfl rfl (decide_eq_false hc98) (zS (e := 77) rfl rfl rfl) (lw_tv 1 rfl (q_fldP (p := (.pointer (some ⟨w18.heap.size, 0, none⟩))) (b := w18.heap.size) (o := 0) 0 fd94_0 rfl rfl (zS (e := 81) rfl rfl rfl) (q_load (p := (padd (.pointer (some ⟨w18.heap.size, 0, none⟩)) 0)) (.inr rfl) (.int .i64 k) one2 rfl (hL30_3.ldp (i := 0) sM) (zS (e := 81) rfl rfl rfl) ?_)))
                by_cases hc103 : k = ((6 : Nat) : Int)
                ·
                  refine q_eql true rfl rfl (decide_eq_true hc103) (zS (e := 81) rfl rfl rfl) (lw_tvn 2 rfl (c_cond_t rfl (wp_plain _ [0, 4] rfl (q_fldP (p := (.pointer (some ⟨w18.heap.size, 0, none⟩))) (b := w18.heap.size) (o := 0) 0 fd94_0 rfl rfl zN (e_setB (k := 0) (w := w30) sz2 rfl rfl ⟨rfl, rfl⟩ hL30_3 sM zN fun w104 hC104 hz104 hB104 => ?_)))))
                  replace hB104 : BX w104.heap w18.heap.size [(.int .i64 ((5 : Nat) : Int)), (.int .i64 0), (.int .i64 0), (.int .i64 0), (.slice none 0 0)] := hB104
                  have hzs104 : w30.heap.size ≤ w104.heap.size := hC104.size
                  have hE104 : Chg [gs, gg] w w104 := hE30.fresh hC104 (fun c hc => by have := List.mem_singleton.1 hc; omega)
                  have hF105 := hL30_0.chg hC104 (fun c hc => by have := List.mem_singleton.1 hc; omega)
                  have hF106 := hL30_1.chg hC104 (fun hm => by have := List.mem_singleton.1 hm; omega)
                  have hF107 := hL30_2.chg hC104 (fun hm => by have := List.mem_singleton.1 hm; omega)
                  exact lw_nil ⟨((5 : Nat) : Int), _, rfl, ⟨rfl, rfl, rfl, rfl, rfl, rfl, trivial⟩, ⟨hE104, hF105, hF106, hF107, hB104, oM, z74_2⟩⟩
                ·
                  exact q_eql false rfl rfl (decide_eq_false hc103) (zS (e := 81) rfl rfl rfl) (lw_tvn 2 rfl (c_cond_f rfl (wp_skip ⟨k, _, rfl, ⟨rfl, rfl, rfl, rfl, rfl, rfl, trivial⟩, ⟨hE30, hL30_0, hL30_1, hL30_2, hL30_3, oM, z74_2⟩⟩)))
          ·
            clear hL30_3 hL30_2 hL30_1 hL30_0 hE30 hzs30
            rintro k2 ρ96 w96 ⟨hE96, hL96_0, hL96_1, hL96_2, hL96_3, hk2, hk6⟩
            have hzs96 : w.heap.size ≤ w96.heap.size := hE96.size
            have hq108 := hL96_1.lt
            have hq109 := hL96_2.lt
            have hq110 := hL96_3.lt
            refine wp_seq (wp_seq (wp_plain _ [0] rfl (lw_tvn 1 rfl (wp_block ?_))))
            have hknb := kn_p hk2
            refine c_loop (S := Nat × Int × Nat × Value × List Ex) (fun (⟨i, l, m, vk, xs⟩ : Nat × Int × Nat × Value × List Ex) => ([(10, (.int .i64 ((i : Nat) : Int))), (0, (.pointer (some ⟨gg, 0, none⟩))), (1, (.int .i64 vars)), (2, (.int .i64 funcs)), (3, (.int .i64 ((d : Nat) : Int))), (8, (.pointer (some ⟨w.heap.size, 0, none⟩))), (9, (.pointer (some ⟨w18.heap.size, 0, none⟩)))] : List (Nat × Value))) (fun (⟨i, l, m, vk, xs⟩ : Nat × Int × Nat × Value × List Ex) (W : World) => Chg [gs, gg] w W ∧ Fr (owS 5 (oEx 94 d) 94) w96.heap.size W.heap.size W.heap vk xs ∧ Src W.heap gs sv cs m ∧ BX W.heap gg [(.pointer (some ⟨gs, 0, none⟩)), pp, (.int .i64 l), (.bool pl)] ∧ BX W.heap w.heap.size [(.int .i64 0), (.int .i64 0), (.int .i64 0), (.int .i64 0), (.slice none 0 0)] ∧ BX W.heap w18.heap.size [(.int .i64 k2), (.int .i64 0), (.int .i64 0), (.int .i64 0), vk] ∧ ((i : Nat) : Int) ≤ kn k2 ∧ KOk p funcs vars pl k2 d (l0 - 1) l xs i ∧ (n0 ≤ m ∧ m ≤ n0 + 8 + tmN i (stp (d - 1))) ∧ gg < w96.heap.size ∧ w.heap.size < w96.heap.size ∧ w18.heap.size < w96.heap.size ∧ w96.heap.size ≤ W.heap.size) (fun (⟨i, l, m, vk, xs⟩ : Nat × Int × Nat × Value × List Ex) => (kn k2).toNat - i) (0, (l0 - ((1 : Nat) : Int)), m1, (.slice none 0 0), ([] : List Ex)) ⟨rfl, rfl, rfl, rfl, rfl, rfl, rfl, trivial⟩ ⟨hE96, (frNilS _ 0 _).up (good_owS (good_oEx 94 d)), hL96_0, hL96_1, hL96_2, hL96_3, oM, (by exact KOk.nil ..), (by exact ⟨by omega, by show _ ≤ n0 + 8 + 0; omega⟩), oM, oM, oM, oM⟩ ?_
            clear hL96_3 hL96_2 hL96_1 hL96_0
            rintro ⟨i, l, m, vk, xs⟩ ρ114 w114 ⟨hE114, hL114_0, hL114_1, hL114_2, hL114_3, hL114_4, hi4, hko, hmb, hkg111, hkg112, hkg113, hkB115⟩
            have hzs114 : w.heap.size ≤ w114.heap.size := hE114.size
            have hq116 := hL114_2.lt
            have hq117 := hL114_3.lt
            have hq118 := hL114_4.lt
            refine wp_seq (wp_seq (wp_plain _ [0, 0, 2, 0, 0] rfl (lw_tv 1 rfl (q_fldP (p := (.pointer (some ⟨w18.heap.size, 0, none⟩))) (b := w18.heap.size) (o := 0) 0 fd94_0 rfl rfl zN (q_load (p := (padd (.pointer (some ⟨w18.heap.size, 0, none⟩)) 0)) (.inr rfl) (.int .i64 k2) one2 rfl (hL114_4.ldp (i := 0) sM) zN (lw_callq 110 [] [] [(.int .i64 k2)] rfl rfl cf110 zN (.int .i64 (kn k2)) (fun wq => c_kn wq _ oM) ?_))))))
            by_cases hc120 : ((i : Nat) : Int) < kn k2
            ·
              refine q_lss true rfl rfl (decide_eq_true hc120) zN (lw_nil (c_cond_t rfl (wp_skip (wp_seq (wp_block (wp_seq (wp_plain _ [0, 0] rfl (lw_tvn 2 rfl (wp_seq (wp_seq (wp_plain _ [0, 2, 0, 0, 0, 0, 0] rfl (q_fldP (p := (.pointer (some ⟨w18.heap.size, 0, none⟩))) (b := w18.heap.size) (o := 0) 0 fd94_0 rfl rfl zN (q_load (p := (padd (.pointer (some ⟨w18.heap.size, 0, none⟩)) 0)) (.inr rfl) (.int .i64 k2) one2 rfl (hL114_4.ldp (i := 0) sM) zN ?_)))))))))))))
              by_cases hc121 : k2 = ((9 : Nat) : Int)
              ·
                refine q_eql true rfl rfl (decide_eq_true hc121) zN (lw_tv 2 rfl ?_)
                by_cases hc122 : ((i : Nat) : Int) = ((1 : Nat) : Int)
                ·
                  refine q_eql true rfl rfl (decide_eq_true hc122) (zS (e := 99) rfl rfl rfl) (lw_tvn 1 rfl (c_cond_t rfl (wp_plain _ [0, 0, 0] rfl (lw_tv 1 rfl ?_))))
                  refine q_add (vars + ((1 : Nat) : Int)) rfl rfl (w64 sD sD) zN (lw_tvn 1 rfl ?_)
                  letI : JR := jrC [gs, gg]
                  refine Jx.wp_draw _ [0, 1, 0, 0, 0, 0, 0, 3, 3, 4, 0, 4] mixed (by kernel_rfl) ?_
                  have htn := tmN_4 (k := stp (d - 1)) (i := i + 1) oM
                  have hts : tmN (i + 1) (stp (d - 1)) = tmN i (stp (d - 1)) + stp (d - 1) := rfl
                  have hti := tmI_4 (k := nds (d - 1)) (i := i) oM oM
                  have hlo := hko.lo
                  have hln := hko.len
                  refine Jx.q_fldP (p := (.pointer (some ⟨w18.heap.size, 0, none⟩))) (b := w18.heap.size) (o := 0) 4 fd94_4 rfl rfl zN (Jx.q_loadJ (p := (padd (.pointer (some ⟨w18.heap.size, 0, none⟩)) 4)) vk one78 rfl (fun wj hj => (BX.chg (w := w114.drew) (F := [gs, gg]) hL114_4 hj (fun hm => by have := mem2 hm; omega)).ldp (i := 4) sM) zN (Jx.q_move (.pointer (some ⟨gg, 0, none⟩)) rfl zN (Jx.q_move (.int .i64 (vars + ((1 : Nat) : Int))) rfl zN (Jx.q_move (.int .i64 funcs) rfl zN (Jx.q_move (.int .i64 ((d : Nat) : Int)) rfl zN (Jx.j1 (q_sub ((d - 1 : Nat) : Int) rfl rfl (by rw [w64 oM oM]; omega) zN (lw_nil ?_))))))))
                  refine Jx.lw_call 74 [] [] [(.pointer (some ⟨gg, 0, none⟩)), (.int .i64 (vars + ((1 : Nat) : Int))), (.int .i64 funcs), (.int .i64 ((d - 1 : Nat) : Int))] rfl rfl cf74 zN (IH1 (d - 1) oM _ gg gs sv cs m pp dp l pl p (vars + ((1 : Nat) : Int)) (funcs) oM hL114_1 hL114_2 (hp.chg (good_rP (good_rPr dp)) hE114.drew) oM _hfuncs oM oM (by exact hpr) oM oM oM) ?_
                  rintro e123 w123 ⟨v123, x123, n123, l123, rfl, hC123, hs123, hb123, hB123, hO123, hr123, hG123⟩
                  refine ⟨_, rfl, hC123, ?_⟩
                  replace hO123 := hO123.low (B' := w114.heap.size) (Nat.le_refl _)
                  replace hC123 := hC123.of_drew
                  have hzs123 : w114.heap.size ≤ w123.heap.size := hC123.size
                  have hE123 : Chg [gs, gg] w w123 := hE114.trans hC123
                  have hF124 := hL114_0.chg ((good_owS (good_oEx 94 d))) hC123 (fun c hc => by have := mem2 hc; omega)
                  have hF125 := hL114_3.chg hC123 (fun hm => by have := mem2 hm; omega)
                  have hF126 := hL114_4.chg hC123 (fun hm => by have := mem2 hm; omega)
                  refine Jx.tail rfl (r_oneS (cs := [(.int .i64 x123.kind), (.int .i64 x123.num), (.int .i64 x123.pick), (.int .i64 x123.count), v123]) (y := x123) (B := w114.heap.size) (good_oEx 94 d) u78 tiS94 rfl (by decide) rfl (FrN.mk1 oM hr123 hO123) oM zN fun v127 w127 hX127 hz127 hO127 => ?_)
                  have hzs127 : w123.heap.size ≤ w127.heap.size := hX127.size
                  have hE127 : Chg [gs, gg] w w127 := hE123.ext hX127
                  have hF124x127 := hF124.ext ((good_owS (good_oEx 94 d))) hX127
                  have hs123x127 := hs123.ext hX127
                  have hB123x127 := hB123.ext hX127
                  have hF125x127 := hF125.ext hX127
                  have hF126x127 := hF126.ext hX127
                  refine e_appS (v := vk) (a := v127) (good_oEx 94 d) u78 tiS94 rfl (by decide) rfl rfl hF124x127 oM hO127 oM oM oM (by unfold maxLen; omega) zN fun v128 w128 F128 hC128 hF128 hO128 => ?_
                  have hzs128 : w127.heap.size ≤ w128.heap.size := hC128.size
                  have hE128 : Chg [gs, gg] w w128 := hE127.fresh hC128 (fun c hc => by have := hF128 _ hc; omega)
                  have hF129 := hs123x127.chg hC128 (fun c hc => by have := hF128 _ hc; omega)
                  have hF130 := hB123x127.chg hC128 (fun hm => by have := hF128 _ hm; omega)
                  have hF131 := hF125x127.chg hC128 (fun hm => by have := hF128 _ hm; omega)
                  have hF132 := hF126x127.chg hC128 (fun hm => by have := hF128 _ hm; omega)
                  refine q_fldP (p := (.pointer (some ⟨w18.heap.size, 0, none⟩))) (b := w18.heap.size) (o := 0) 4 fd94_4 rfl rfl zN (e_setB (k := 4) (w := w128) sz78 rfl rfl (isSl_one hO128.isSlS) hF132 sM zN fun w133 hC133 hz133 hB133 => ?_)
                  replace hB133 : BX w133.heap w18.heap.size [(.int .i64 k2), (.int .i64 0), (.int .i64 0), (.int .i64 0), v128] := hB133
                  have hzs133 : w128.heap.size ≤ w133.heap.size := hC133.size
                  have hE133 : Chg [gs, gg] w w133 := hE128.fresh hC133 (fun c hc => by have := List.mem_singleton.1 hc; omega)
                  have hF134 := hF129.chg hC133 (fun c hc => by have := List.mem_singleton.1 hc; omega)
                  have hF135 := hF130.chg hC133 (fun hm => by have := List.mem_singleton.1 hm; omega)
                  have hF136 := hF131.chg hC133 (fun hm => by have := List.mem_singleton.1 hm; omega)
                  have hF137 := hO128.chg ((good_owS (good_oEx 94 d))) hC133 (fun c hc => by have := List.mem_singleton.1 hc; omega)
                  exact lw_nil (wp_plain _ [0, 0, 0] rfl (lw_tv 1 rfl (q_add ((i + 1 : Nat) : Int) rfl rfl (w64n oM oM) zN (lw_tvn 1 rfl ⟨((i + 1), l123, n123, v128, (xs ++ [x123])), _, rfl, ⟨rfl, rfl, rfl, rfl, rfl, rfl, rfl, trivial⟩, ⟨hE133, hF137.up (good_owS (good_oEx 94 d)), hF134, hF135, hF136, hB133, oM, z74_1, oM, oM, oM, oM, oM⟩, by first | omega | (dsimp only; omega)⟩))))
                ·
                  refine q_eql false rfl rfl (decide_eq_false hc122) (zS (e := 99) rfl rfl rfl) (lw_tvn 1 rfl (c_cond_f rfl (wp_skip ?_)))
                  letI : JR := jrC [gs, gg]
                  refine Jx.wp_draw _ [0, 1, 0, 0, 0, 0, 0, 3, 3, 4, 0, 4] mixed (by kernel_rfl) ?_
                  have htn := tmN_4 (k := stp (d - 1)) (i := i + 1) oM
                  have hts : tmN (i + 1) (stp (d - 1)) = tmN i (stp (d - 1)) + stp (d - 1) := rfl
                  have hti := tmI_4 (k := nds (d - 1)) (i := i) oM oM
                  have hlo := hko.lo
                  have hln := hko.len
                  refine Jx.q_fldP (p := (.pointer (some ⟨w18.heap.size, 0, none⟩))) (b := w18.heap.size) (o := 0) 4 fd94_4 rfl rfl zN (Jx.q_loadJ (p := (padd (.pointer (some ⟨w18.heap.size, 0, none⟩)) 4)) vk one78 rfl (fun wj hj => (BX.chg (w := w114.drew) (F := [gs, gg]) hL114_4 hj (fun hm => by have := mem2 hm; omega)).ldp (i := 4) sM) zN (Jx.q_move (.pointer (some ⟨gg, 0, none⟩)) rfl zN (Jx.q_move (.int .i64 vars) rfl zN (Jx.q_move (.int .i64 funcs) rfl zN (Jx.q_move (.int .i64 ((d : Nat) : Int)) rfl zN (Jx.j1 (q_sub ((d - 1 : Nat) : Int) rfl rfl (by rw [w64 oM oM]; omega) zN (lw_nil ?_))))))))
                  refine Jx.lw_call 74 [] [] [(.pointer (some ⟨gg, 0, none⟩)), (.int .i64 vars), (.int .i64 funcs), (.int .i64 ((d - 1 : Nat) : Int))] rfl rfl cf74 zN (IH1 (d - 1) oM _ gg gs sv cs m pp dp l pl p (vars) (funcs) oM hL114_1 hL114_2 (hp.chg (good_rP (good_rPr dp)) hE114.drew) _hvars _hfuncs oM oM (by exact hpr) oM oM oM) ?_
                  rintro e138 w138 ⟨v138, x138, n138, l138, rfl, hC138, hs138, hb138, hB138, hO138, hr138, hG138⟩
                  refine ⟨_, rfl, hC138, ?_⟩
                  replace hO138 := hO138.low (B' := w114.heap.size) (Nat.le_refl _)
                  replace hC138 := hC138.of_drew
                  have hzs138 : w114.heap.size ≤ w138.heap.size := hC138.size
                  have hE138 : Chg [gs, gg] w w138 := hE114.trans hC138
                  have hF139 := hL114_0.chg ((good_owS (good_oEx 94 d))) hC138 (fun c hc => by have := mem2 hc; omega)
                  have hF140 := hL114_3.chg hC138 (fun hm => by have := mem2 hm; omega)
                  have hF141 := hL114_4.chg hC138 (fun hm => by have := mem2 hm; omega)
                  refine Jx.tail rfl (r_oneS (cs := [(.int .i64 x138.kind), (.int .i64 x138.num), (.int .i64 x138.pick), (.int .i64 x138.count), v138]) (y := x138) (B := w114.heap.size) (good_oEx 94 d) u78 tiS94 rfl (by decide) rfl (FrN.mk1 oM hr138 hO138) oM zN fun v142 w142 hX142 hz142 hO142 => ?_)
                  have hzs142 : w138.heap.size ≤ w142.heap.size := hX142.size
                  have hE142 : Chg [gs, gg] w w142 := hE138.ext hX142
                  have hF139x142 := hF139.ext ((good_owS (good_oEx 94 d))) hX142
                  have hs138x142 := hs138.ext hX142
                  have hB138x142 := hB138.ext hX142
                  have hF140x142 := hF140.ext hX142
                  have hF141x142 := hF141.ext hX142
                  refine e_appS (v := vk) (a := v142) (good_oEx 94 d) u78 tiS94 rfl (by decide) rfl rfl hF139x142 oM hO142 oM oM oM (by unfold maxLen; omega) zN fun v143 w143 F143 hC143 hF143 hO143 => ?_
                  have hzs143 : w142.heap.size ≤ w143.heap.size := hC143.size
                  have hE143 : Chg [gs, gg] w w143 := hE142.fresh hC143 (fun c hc => by have := hF143 _ hc; omega)
                  have hF144 := hs138x142.chg hC143 (fun c hc => by have := hF143 _ hc; omega)
                  have hF145 := hB138x142.chg hC143 (fun hm => by have := hF143 _ hm; omega)
                  have hF146 := hF140x142.chg hC143 (fun hm => by have := hF143 _ hm; omega)
                  have hF147 := hF141x142.chg hC143 (fun hm => by have := hF143 _ hm; omega)
                  refine q_fldP (p := (.pointer (some ⟨w18.heap.size, 0, none⟩))) (b := w18.heap.size) (o := 0) 4 fd94_4 rfl rfl zN (e_setB (k := 4) (w := w143) sz78 rfl rfl (isSl_one hO143.isSlS) hF147 sM zN fun w148 hC148 hz148 hB148 => ?_)
                  replace hB148 : BX w148.heap w18.heap.size [(.int .i64 k2), (.int .i64 0), (.int .i64 0), (.int .i64 0), v143] := hB148
                  have hzs148 : w143.heap.size ≤ w148.heap.size := hC148.size
                  have hE148 : Chg [gs, gg] w w148 := hE143.fresh hC148 (fun c hc => by have := List.mem_singleton.1 hc; omega)
                  have hF149 := hF144.chg hC148 (fun c hc => by have := List.mem_singleton.1 hc; omega)
                  have hF150 := hF145.chg hC148 (fun hm => by have := List.mem_singleton.1 hm; omega)
                  have hF151 := hF146.chg hC148 (fun hm => by have := List.mem_singleton.1 hm; omega)
                  have hF152 := hO143.chg ((good_owS (good_oEx 94 d))) hC148 (fun c hc => by have := List.mem_singleton.1 hc; omega)
                  exact lw_nil (wp_plain _ [0, 0, 0] rfl (lw_tv 1 rfl (q_add ((i + 1 : Nat) : Int) rfl rfl (w64n oM oM) zN (lw_tvn 1 rfl ⟨((i + 1), l138, n138, v143, (xs ++ [x138])), _, rfl, ⟨rfl, rfl, rfl, rfl, rfl, rfl, rfl, trivial⟩, ⟨hE148, hF152.up (good_owS (good_oEx 94 d)), hF149, hF150, hF151, hB148, oM, z74_1, oM, oM, oM, oM, oM⟩, by first | omega | (dsimp only; omega)⟩))))
              ·
                refine q_eql false rfl rfl (decide_eq_false hc121) zN (lw_tvn 4 rfl (c_cond_f rfl (wp_skip ?_)))
                letI : JR := jrC [gs, gg]
                refine Jx.wp_draw _ [0, 1, 0, 0, 0, 0, 0, 3, 3, 4, 0, 4] mixed (by kernel_rfl) ?_
                have htn := tmN_4 (k := stp (d - 1)) (i := i + 1) oM
                have hts : tmN (i + 1) (stp (d - 1)) = tmN i (stp (d - 1)) + stp (d - 1) := rfl
                have hti := tmI_4 (k := nds (d - 1)) (i := i) oM oM
                have hlo := hko.lo
                have hln := hko.len
                refine Jx.q_fldP (p := (.pointer (some ⟨w18.heap.size, 0, none⟩))) (b := w18.heap.size) (o := 0) 4 fd94_4 rfl rfl zN (Jx.q_loadJ (p := (padd (.pointer (some ⟨w18.heap.size, 0, none⟩)) 4)) vk one78 rfl (fun wj hj => (BX.chg (w := w114.drew) (F := [gs, gg]) hL114_4 hj (fun hm => by have := mem2 hm; omega)).ldp (i := 4) sM) zN (Jx.q_move (.pointer (some ⟨gg, 0, none⟩)) rfl zN (Jx.q_move (.int .i64 vars) rfl zN (Jx.q_move (.int .i64 funcs) rfl zN (Jx.q_move (.int .i64 ((d : Nat) : Int)) rfl zN (Jx.j1 (q_sub ((d - 1 : Nat) : Int) rfl rfl (by rw [w64 oM oM]; omega) zN (lw_nil ?_))))))))
                refine Jx.lw_call 74 [] [] [(.pointer (some ⟨gg, 0, none⟩)), (.int .i64 vars), (.int .i64 funcs), (.int .i64 ((d - 1 : Nat) : Int))] rfl rfl cf74 zN (IH1 (d - 1) oM _ gg gs sv cs m pp dp l pl p (vars) (funcs) oM hL114_1 hL114_2 (hp.chg (good_rP (good_rPr dp)) hE114.drew) _hvars _hfuncs oM oM (by exact hpr) oM oM oM) ?_
                rintro e153 w153 ⟨v153, x153, n153, l153, rfl, hC153, hs153, hb153, hB153, hO153, hr153, hG153⟩
                refine ⟨_, rfl, hC153, ?_⟩
                replace hO153 := hO153.low (B' := w114.heap.size) (Nat.le_refl _)
                replace hC153 := hC153.of_drew
                have hzs153 : w114.heap.size ≤ w153.heap.size := hC153.size
                have hE153 : Chg [gs, gg] w w153 := hE114.trans hC153
                have hF154 := hL114_0.chg ((good_owS (good_oEx 94 d))) hC153 (fun c hc => by have := mem2 hc; omega)
                have hF155 := hL114_3.chg hC153 (fun hm => by have := mem2 hm; omega)
                have hF156 := hL114_4.chg hC153 (fun hm => by have := mem2 hm; omega)
                refine Jx.tail rfl (r_oneS (cs := [(.int .i64 x153.kind), (.int .i64 x153.num), (.int .i64 x153.pick), (.int .i64 x153.count), v153]) (y := x153) (B := w114.heap.size) (good_oEx 94 d) u78 tiS94 rfl (by decide) rfl (FrN.mk1 oM hr153 hO153) oM zN fun v157 w157 hX157 hz157 hO157 => ?_)
                have hzs157 : w153.heap.size ≤ w157.heap.size := hX157.size
                have hE157 : Chg [gs, gg] w w157 := hE153.ext hX157
                have hF154x157 := hF154.ext ((good_owS (good_oEx 94 d))) hX157
                have hs153x157 := hs153.ext hX157
                have hB153x157 := hB153.ext hX157
                have hF155x157 := hF155.ext hX157
                have hF156x157 := hF156.ext hX157
                refine e_appS (v := vk) (a := v157) (good_oEx 94 d) u78 tiS94 rfl (by decide) rfl rfl hF154x157 oM hO157 oM oM oM (by unfold maxLen; omega) zN fun v158 w158 F158 hC158 hF158 hO158 => ?_
                have hzs158 : w157.heap.size ≤ w158.heap.size := hC158.size
                have hE158 : Chg [gs, gg] w w158 := hE157.fresh hC158 (fun c hc => by have := hF158 _ hc; omega)
                have hF159 := hs153x157.chg hC158 (fun c hc => by have := hF158 _ hc; omega)
                have hF160 := hB153x157.chg hC158 (fun hm => by have := hF158 _ hm; omega)
                have hF161 := hF155x157.chg hC158 (fun hm => by have := hF158 _ hm; omega)
                have hF162 := hF156x157.chg hC158 (fun hm => by have := hF158 _ hm; omega)
                refine q_fldP (p := (.pointer (some ⟨w18.heap.size, 0, none⟩))) (b := w18.heap.size) (o := 0) 4 fd94_4 rfl rfl zN (e_setB (k := 4) (w := w158) sz78 rfl rfl (isSl_one hO158.isSlS) hF162 sM zN fun w163 hC163 hz163 hB163 => ?_)
                replace hB163 : BX w163.heap w18.heap.size [(.int .i64 k2), (.int .i64 0), (.int .i64 0), (.int .i64 0), v158] := hB163
                have hzs163 : w158.heap.size ≤ w163.heap.size := hC163.size
                have hE163 : Chg [gs, gg] w w163 := hE158.fresh hC163 (fun c hc => by have := List.mem_singleton.1 hc; omega)
                have hF164 := hF159.chg hC163 (fun c hc => by have := List.mem_singleton.1 hc; omega)
                have hF165 := hF160.chg hC163 (fun hm => by have := List.mem_singleton.1 hm; omega)
                have hF166 := hF161.chg hC163 (fun hm => by have := List.mem_singleton.1 hm; omega)
                have hF167 := hO158.chg ((good_owS (good_oEx 94 d))) hC163 (fun c hc => by have := List.mem_singleton.1 hc; omega)
                exact lw_nil (wp_plain _ [0, 0, 0] rfl (lw_tv 1 rfl (q_add ((i + 1 : Nat) : Int) rfl rfl (w64n oM oM) zN (lw_tvn 1 rfl ⟨((i + 1), l153, n153, v158, (xs ++ [x153])), _, rfl, ⟨rfl, rfl, rfl, rfl, rfl, rfl, rfl, trivial⟩, ⟨hE163, hF167.up (good_owS (good_oEx 94 d)), hF164, hF165, hF166, hB163, oM, z74_1, oM, oM, oM, oM, oM⟩, by first | omega | (dsimp only; omega)⟩))))
            ·
              refine q_lss false rfl rfl (decide_eq_false hc120) zN (lw_nil (c_cond_f rfl (wp_exit (t_exit (t_exit (c_exit_here (wp_seq (wp_plain _ [2, 4] rfl (q_loadA (p := (.pointer (some ⟨w18.heap.size, 0, none⟩))) (.inr rfl) [(.int .i64 k2), (.int .i64 0), (.int .i64 0), (.int .i64 0), vk] agg94 rfl (fun w9 hw9 => LD.of_box (BX.ext (w := w114) hL114_4 hw9)) rfl zN (e_setA (vs := [(.int .i64 k2), (.int .i64 0), (.int .i64 0), (.int .i64 0), vk]) agg94 rfl rfl (by intro u hu; simp only [List.mem_cons, List.not_mem_nil, or_false] at hu; rcases hu with rfl | rfl | rfl | rfl | rfl <;> first | exact ⟨rfl, rfl⟩ | exact isSl_one hL114_0.isSlS) hL114_3 rfl rfl zN fun w168 hC168 hz168 hB168 => ?_))))))))))
              replace hB168 : BX w168.heap w.heap.size [(.int .i64 k2), (.int .i64 0), (.int .i64 0), (.int .i64 0), vk] := hB168
              have hzs168 : w114.heap.size ≤ w168.heap.size := hC168.size
              have hE168 : Chg [gs, gg] w w168 := hE114.fresh hC168 (fun c hc => by have := List.mem_singleton.1 hc; omega)
              have hF169 := hL114_0.chg ((good_owS (good_oEx 94 d))) hC168 (fun c hc => by have := List.mem_singleton.1 hc; omega)
              have hF170 := hL114_1.chg hC168 (fun c hc => by have := List.mem_singleton.1 hc; omega)
              have hF171 := hL114_2.chg hC168 (fun hm => by have := List.mem_singleton.1 hm; omega)
              have hF172 := hL114_4.chg hC168 (fun hm => by have := List.mem_singleton.1 hm; omega)
              refine lw_nil (wp_ret ?_)
              have hln := hko.len
              have htn := tmN_4 (k := stp (d - 1)) (i := i) oM
              exact post_retA (cs := [(.int .i64 k2), (.int .i64 0), (.int .i64 0), (.int .i64 0), vk]) rfl agg94 rfl hB168 rfl ⟨vk, (.mk k2 0 0 0 xs), m, l, rfl, hE168, hF170, ⟨by omega, by omega⟩, hF171, ((hF169.up (good_owS (good_oEx 94 d))).low (B' := w.heap.size) oM), (exR_mk oM oM oM oM), (by exact hko.node oM oM oM hk6 (wfN_op oM oM))⟩
      ·
        refine c_cond_t (by first | rfl | (show Value.bool _ = _; rw [hb21])) (wp_seq (wp_plain _ [0, 0, 4, 4] rfl (lw_tv 2 rfl (lw_callE 108 [] [] [(.pointer (some ⟨gg, 0, none⟩)), (.int .i64 vars)] rfl rfl cf108 zN (c_spec_l02Gen_leaf _ gg gs sv cs n18 pp dp (l0 - ((1 : Nat) : Int)) pl p (vars) oM hs18 hF19 (hp.chg (good_rP (good_rPr dp)) hE18) _hvars oM oM) ?_))))
        rintro e173 w173 ⟨x173, n173, rfl, hC173, hs173, hb173, hB173, hr173, hkd173, hG173⟩
        refine ⟨_, rfl, ?_⟩
        have hzs173 : w18.heap.size ≤ w173.heap.size := hC173.size
        have hE173 : Chg [gs, gg] w w173 := hE18.trans hC173
        have hF174 := hF20.chg hC173 (fun hm => by have := mem2 hm; omega)
        refine e_setA (vs := [(.int .i64 x173.kind), (.int .i64 x173.num), (.int .i64 x173.pick), (.int .i64 x173.count), (.slice none 0 0)]) agg94 rfl rfl z74_0 hF174 rfl rfl zN fun w175 hC175 hz175 hB175 => ?_
        replace hB175 : BX w175.heap w.heap.size [(.int .i64 x173.kind), (.int .i64 x173.num), (.int .i64 x173.pick), (.int .i64 x173.count), (.slice none 0 0)] := hB175
        have hzs175 : w173.heap.size ≤ w175.heap.size := hC175.size
        have hE175 : Chg [gs, gg] w w175 := hE173.fresh hC175 (fun c hc => by have := List.mem_singleton.1 hc; omega)
        have hF176 := hs173.chg hC175 (fun c hc => by have := List.mem_singleton.1 hc; omega)
        have hF177 := hB173.chg hC175 (fun hm => by have := List.mem_singleton.1 hm; omega)
        exact lw_nil (wp_ret (t_ret (post_retA (cs := [(.int .i64 x173.kind), (.int .i64 x173.num), (.int .i64 x173.pick), (.int .i64 x173.count), (.slice none 0 0)]) rfl agg94 rfl hB175 rfl ⟨(.slice none 0 0), x173, n173, (l0 - ((1 : Nat) : Int)), rfl, hE175, hF176, ⟨by omega, by omega⟩, hF177, (by rw [hkd173]; exact frNilS _ _ _), hr173, (by exact LOk.ok (by assumption) d)⟩)))
theorem GX_all : ∀ d, GX d ∧ (1 ≤ d → GC d) := by
  intro d
  induction d using Nat.strongRecOn with
  | _ d ih =>
    have hc : 1 ≤ d → GC d := fun h1 w gg gs sv cs n0 pp dp l0 pl p vars funcs hgg hs hB0 hp hv' hf' hv hfu hpr hd hn hl => c_spec_l02Gen_call w gg gs sv cs n0 pp dp l0 pl p vars funcs d hgg hs hB0 hp hv' hf' hv hfu hpr hd hn hl (ih (d - 1) (by omega)).1
    exact ⟨fun w gg gs sv cs n0 pp dp l0 pl p vars funcs hgg hs hB0 hp hv' hf' hv hfu hpr hd hn hl => c_spec_l02Gen_expr w gg gs sv cs n0 pp dp l0 pl p vars funcs d hgg hs hB0 hp hv' hf' hv hfu hpr hd hn hl (fun d' h => (ih d' h).1) hc, hc⟩
theorem GX_any (d : Nat) : GX d := (GX_all d).1end Go.Proofs.YtnofbmdpabcjaaaGreat
namespace Go.Proofs.YtnofbmdpabcjaaaGreat
open Go Go.RowKit
set_option linter.unusedVariables false
set_option linter.unusedSimpArgs false
set_option maxHeartbeats 4000000
set_option maxRecDepth 100000
attribute [local irreducible] LW
theorem c_spec_l00Src_text (w : World) (g : Nat) (sv : Value) (cs : List UInt8) (n0 : Nat) (vl : Value) (us : List Value) (hs : Src w.heap g sv cs n0) (hn0 : n0 + 2 ≤ 1000000000000) (hl : ∀ w', Chg [g] w w' → Rd (rdL rV) w'.heap vl us) (hus : ∀ u ∈ us, ∃ s, u = Value.string s) (hul : 1 ≤ us.length ∧ us.length ≤ 1000)  :
    Calls Tryz.prog 105 #[.pointer (some ⟨g, 0, none⟩), vl] w (fun e w' => ∃ (x0 : ByteArray) (n1 : Nat), e = .returned (.string x0) ∧ Chg [g] w w' ∧ Src w'.heap g sv cs n1 ∧ (n0 ≤ n1 ∧ n1 ≤ n0 + 2) ∧ (Value.string x0 ∈ us)) := by
  refine calls_mk [.pointer (some ⟨g, 0, none⟩), vl] 12 Tryz.func105 rfl rfl sM ?_
  have hE0 : Chg [g] w w := Chg.refl [g] w
  have hl_vl := (hl _ hE0).lenle
  have hgl := hs.lt
  refine wp_seq (wp_plain _ [0] rfl (lw_tvn 1 rfl (wp_seq (wp_plain _ [0, 0, 0, 0, 4, 0, 2, 0] rfl (lw_tv 3 rfl (q_len (v := vl) u134 rfl (hl _ hE0).isSl zN (lw_callE 72 [] [] [(.pointer (some ⟨g, 0, none⟩)), (.int .i64 ((us.length : Nat) : Int))] rfl rfl cf72 zN (c_spec_l00Src_pick _ g _ _ _ (((us.length : Nat) : Int)) hs oM oM oM) ?_)))))))
  rintro e1 w1 ⟨x1_0, n1, rfl, hC1, hs1, hb1, hp1_0⟩
  refine ⟨_, rfl, ?_⟩
  have hzs1 : w.heap.size ≤ w1.heap.size := hC1.size
  have hE1 : Chg [g] w w1 := hE0.trans hC1
  refine q_idx (v := vl) ((x1_0).toNat) u134 ti9 rfl rfl (hl _ hE1).isSl oM sD zN ?_
  obtain ⟨sx2, hsx2⟩ := hus (us.getD ((x1_0).toNat) undef) (gd_mem sD)
  refine q_load (p := eptr vl ((x1_0).toNat) 1) (.inr rfl) (.string sx2) one9 rfl (by rw [← hsx2]; exact (Rd.getV (hl _ hE1) sD).1) zN ?_
  have hsm : Value.string sx2 ∈ us := hsx2 ▸ gd_mem sD
  exact lw_tvn 1 rfl (wp_ret (post_ret [4] rfl (.string sx2) rfl ⟨sx2, n1, rfl, hE1, hs1, ⟨by omega, by omega⟩, (by exact hsm)⟩))
theorem c_spec_Decimal (w : World) (n : Int) (_hn : -9223372036854775808 ≤ n ∧ n ≤ 9223372036854775807) (hk : 0 ≤ n ∧ n < 10) :
    Calls Tryz.prog 106 #[.int .i64 n] w (fun e w' => ∃ s, e = .returned (.string s) ∧ Ext w w' ∧ s = dig n.toNat) := by
  refine calls_mk [.int .i64 n] 20 Tryz.func106 rfl rfl sM ?_
  have hE0 : Ext w w := Ext.refl w
  refine wp_seq (wp_plain _ [0] rfl (lw_tvn 1 rfl (wp_seq (wp_seq (wp_plain _ [0, 0] rfl (lw_tv 1 rfl ?_))))))
  by_cases hc1 : n < ((10 : Nat) : Int)
  ·
    refine q_lss true rfl rfl (decide_eq_true hc1) zN (lw_nil (c_cond_t rfl (wp_seq (wp_plain _ [0, 0, 0, 3, 2, 0] rfl (lw_tv 1 rfl ?_)))))
    refine q_add (((48 : Nat) : Int) + n) rfl rfl (w64 sD sD) zN (q_conv (IntKind.u8.wrap (((48 : Nat) : Int) + n)) u2 u5 rfl rfl zN ?_)
    refine r_one (u := (.int .u8 (IntKind.u8.wrap (((48 : Nat) : Int) + n)))) (B := w.heap.size) good_rV u50 ti5 rfl rfl (frV (w.heap.size) (w.heap.size) _ ⟨rfl, rfl⟩) (Nat.le_refl _) zN fun v2 w2 hX2 hz2 hO2 => ?_
    have hzs2 : w.heap.size ≤ w2.heap.size := hX2.size
    have hE2 : Ext w w2 := hE0.trans hX2
    exact q_byteE u50 u5 u9 rfl hO2 zN (lw_tvn 1 rfl (wp_ret (t_ret (post_ret [2] rfl (.string (⟨#[UInt8.ofNat (IntKind.u8.wrap (((48 : Nat) : Int) + n)).toNat]⟩ : ByteArray)) rfl ⟨(⟨#[UInt8.ofNat (IntKind.u8.wrap (((48 : Nat) : Int) + n)).toNat]⟩ : ByteArray), rfl, hE2, (by exact dig_eq hk.1 hk.2)⟩))))
  ·
    exact absurd hk.2 hc1
theorem c_spec_l02Draw (w : World) (g : Nat) (sv : Value) (cs : List UInt8) (n0 : Nat) (funcs : Int) (nodes : Int) (plain : Bool) (hs : Src w.heap g sv cs n0) (hn0 : n0 + (150000 * funcs.toNat) ≤ 1000000000000) (_hfuncs : -9223372036854775808 ≤ funcs ∧ funcs ≤ 9223372036854775807) (_hnodes : -9223372036854775808 ≤ nodes ∧ nodes ≤ 9223372036854775807) (hfn : 0 ≤ funcs ∧ funcs ≤ 9) (hnd : 1 ≤ nodes ∧ nodes ≤ 30) :
    Calls Tryz.prog 71 #[.pointer (some ⟨g, 0, none⟩), .int .i64 funcs, .int .i64 nodes, .bool plain] w (fun e w' => ∃ (v : Value) (p : List Fn) (n1 : Nat), e = .returned (.agg #[v]) ∧ Chg [g] w w' ∧ Src w'.heap g sv cs n1 ∧ (n0 ≤ n1 ∧ n1 ≤ n0 + (150000 * funcs.toNat)) ∧ Fr (owS 3 (oFn 94 6) 80) w.heap.size w'.heap.size w'.heap v p ∧ DPr p plain ∧ Dn p ∧ ((p.length : Nat) : Int) = funcs) := by
  refine calls_mk [.pointer (some ⟨g, 0, none⟩), .int .i64 funcs, .int .i64 nodes, .bool plain] 65 Tryz.func71 rfl rfl sM ?_
  have hE0 : Chg [g] w w := Chg.refl [g] w
  have hgl := hs.lt
  have hs5 := stp5
  have hn5 := nds5
  refine wp_seq (wp_plain _ [3] rfl (r_allocA (z := .agg #[.slice none 0 0]) zr32 zN fun w1 hX1 hz1 hB1 => ?_))
  have hzs1 : w.heap.size ≤ w1.heap.size := hX1.size
  have hE1 : Chg [g] w w1 := hE0.ext hX1
  have hsx1 := hs.ext hX1
  replace hB1 : BX w1.heap w.heap.size [(.slice none 0 0)] := hB1
  refine lw_nil (wp_seq (wp_plain _ [0, 3, 4] rfl ?_))
  have hbd2 : ∀ (wq : World), (Instr.build 32 #[]).run Tryz.prog wq = .ok (.agg #[(.slice none 0 0)]) wq := by intro wq; kernel_rfl
  refine q_build (ps := #[]) (.agg #[(.slice none 0 0)]) (by simp only [List.map_toArray, List.map_cons, List.map_nil]) (fun wq => hbd2  wq) zN ?_
  have hq4 := hB1.lt
  refine r_allocA (z := .agg #[.slice none 0 0]) zr32 zN fun w3 hX3 hz3 hB3 => ?_
  have hzs3 : w1.heap.size ≤ w3.heap.size := hX3.size
  have hE3 : Chg [g] w w3 := hE1.ext hX3
  have hsx3 := hsx1.ext hX3
  have hB1x3 := hB1.ext hX3
  replace hB3 : BX w3.heap w1.heap.size [(.slice none 0 0)] := hB3
  refine e_setA (vs := [(.slice none 0 0)]) agg32 rfl rfl (by intro u hu; simp only [List.mem_cons, List.not_mem_nil, or_false] at hu; rcases hu with rfl <;> first | exact ⟨rfl, rfl⟩) hB3 rfl rfl zN fun w5 hC5 hz5 hB5 => ?_
  replace hB5 : BX w5.heap w1.heap.size [(.slice none 0 0)] := hB5
  have hzs5 : w3.heap.size ≤ w5.heap.size := hC5.size
  have hE5 : Chg [g] w w5 := hE3.fresh hC5 (fun c hc => by have := List.mem_singleton.1 hc; omega)
  have hF6 := hsx3.chg hC5 (fun c hc => by have := List.mem_singleton.1 hc; omega)
  have hF7 := hB1x3.chg hC5 (fun hm => by have := List.mem_singleton.1 hm; omega)
  refine lw_nil (wp_seq (wp_seq (wp_plain _ [0] rfl (lw_tvn 1 rfl (wp_block ?_)))))
  refine c_loop (S := Nat × Value × List Fn × Nat) (fun (⟨k, vp, ps, m⟩ : Nat × Value × List Fn × Nat) => ([(10, (.int .i64 ((k : Nat) : Int))), (0, (.pointer (some ⟨g, 0, none⟩))), (1, (.int .i64 funcs)), (2, (.int .i64 nodes)), (3, (.bool plain)), (8, (.pointer (some ⟨w.heap.size, 0, none⟩))), (9, (.pointer (some ⟨w1.heap.size, 0, none⟩)))] : List (Nat × Value))) (fun (⟨k, vp, ps, m⟩ : Nat × Value × List Fn × Nat) (W : World) => Chg [g] w W ∧ Fr (owS 3 (oFn 94 6) 80) w5.heap.size W.heap.size W.heap vp ps ∧ Src W.heap g sv cs m ∧ BX W.heap w.heap.size [(.slice none 0 0)] ∧ BX W.heap w1.heap.size [vp] ∧ ((k : Nat) : Int) ≤ funcs ∧ DPr ps plain ∧ Dn ps ∧ ps.length = k ∧ (n0 ≤ m ∧ m ≤ n0 + 150000 * k) ∧ (g < w5.heap.size ∧ w.heap.size ≤ w5.heap.size) ∧ w.heap.size < w5.heap.size ∧ w1.heap.size < w5.heap.size ∧ w5.heap.size ≤ W.heap.size) (fun (⟨k, vp, ps, m⟩ : Nat × Value × List Fn × Nat) => funcs.toNat - k) (0, (.slice none 0 0), ([] : List Fn), n0) ⟨rfl, rfl, rfl, rfl, rfl, rfl, rfl, trivial⟩ ⟨hE5, (frNilS _ 0 _).up (good_owS (good_oFn 94 6)), hF6, hF7, hB5, oM, (by exact DPr.nil _), (by exact Dn.nil), (by rfl), oM, oM, oM, oM, oM⟩ ?_
  clear hE0 hz1 hX1 hzs1 hE1 hz3 hX3 hzs3 hE3 hz5 hC5 hF6 hF7
  rintro ⟨k, vp, ps, m⟩ ρ10 w10 ⟨hE10, hL10_0, hL10_1, hL10_2, hL10_3, hkf, hdp, hdn, hpk, hmk, hgb, hkg8, hkg9, hkB11⟩
  have hzs10 : w.heap.size ≤ w10.heap.size := hE10.size
  have hq12 := hL10_2.lt
  have hq13 := hL10_3.lt
  refine wp_seq (wp_seq (wp_plain _ [0, 0, 0] rfl (lw_tv 2 rfl ?_)))
  by_cases hc14 : ((k : Nat) : Int) < funcs
  ·
    refine q_lss true rfl rfl (decide_eq_true hc14) zN (lw_nil (c_cond_t rfl (wp_skip (wp_seq (wp_block (wp_seq (wp_plain _ [0, 3, 4, 0, 3, 0, 0, 4, 0, 0, 3, 4] rfl (lw_tv 1 rfl (r_four (ys := [(.string (⟨#[102]⟩)), (.string (⟨#[103]⟩)), (.string (⟨#[115, 116, 101, 112]⟩)), (.string (⟨#[104, 50]⟩))]) good_rV u134 ti9 rfl rfl rfl rfl rfl rfl (elsV4 ⟨rfl, rfl⟩ ⟨rfl, rfl⟩ ⟨rfl, rfl⟩ ⟨rfl, rfl⟩) zN fun v15 w15 hX15 hz15 hO15 => ?_)))))))))
    have hzs15 : w10.heap.size ≤ w15.heap.size := hX15.size
    have hE15 : Chg [g] w w15 := hE10.ext hX15
    have hL10_0x15 := hL10_0.ext ((good_owS (good_oFn 94 6))) hX15
    have hL10_1x15 := hL10_1.ext hX15
    have hL10_2x15 := hL10_2.ext hX15
    have hL10_3x15 := hL10_3.ext hX15
    refine lw_callE 105 [] [] [(.pointer (some ⟨g, 0, none⟩)), v15] rfl rfl cf105 zN (c_spec_l00Src_text _ g _ _ _ v15 _ hL10_1x15 oM (fun w9 h9 => (hO15.chg oV h9 (fun c hc => by have := List.mem_singleton.1 hc; omega)).rdV1) (by intro u hu; simp only [List.mem_cons, List.not_mem_nil, or_false] at hu; rcases hu with rfl | rfl | rfl | rfl <;> exact ⟨_, rfl⟩) sM) ?_
    rintro e16 w16 ⟨x16_0, n16, rfl, hC16, hs16, hb16, hp16_0⟩
    refine ⟨_, rfl, ?_⟩
    have hzs16 : w15.heap.size ≤ w16.heap.size := hC16.size
    have hE16 : Chg [g] w w16 := hE15.trans hC16
    have hF17 := hL10_0x15.chg ((good_owS (good_oFn 94 6))) hC16 (fun c hc => by have := List.mem_singleton.1 hc; omega)
    have hF18 := hL10_2x15.chg hC16 (fun hm => by have := List.mem_singleton.1 hm; omega)
    have hF19 := hL10_3x15.chg hC16 (fun hm => by have := List.mem_singleton.1 hm; omega)
    have hF20 := hO15.chg (oV) hC16 (fun c hc => by have := List.mem_singleton.1 hc; omega)
    have hfo := mem_four hp16_0
    refine lw_tv 1 rfl (lw_call 106 [] [] [(.int .i64 ((k : Nat) : Int))] rfl rfl cf106 zN (c_spec_Decimal _ (((k : Nat) : Int)) oM oM) ?_)
    rintro e21 w21 ⟨st21, rfl, hX21, rfl⟩
    refine ⟨_, rfl, hX21, ?_⟩
    have hzs21 : w16.heap.size ≤ w21.heap.size := hX21.size
    have hE21 : Chg [g] w w21 := hE16.ext hX21
    have hF17x21 := hF17.ext ((good_owS (good_oFn 94 6))) hX21
    have hs16x21 := hs16.ext hX21
    have hF18x21 := hF18.ext hX21
    have hF19x21 := hF19.ext hX21
    have hF20x21 := hF20.ext (oV) hX21
    refine q_adds (a := x16_0) (b := dig k) rfl rfl (by have := four_size _ hfo; have := dig_size k; omega) zN (lw_tv 1 rfl (lw_callE 72 [] [] [(.pointer (some ⟨g, 0, none⟩)), (.int .i64 ((3 : Nat) : Int))] rfl rfl cf72 zN (c_spec_l00Src_pick _ g _ _ _ (((3 : Nat) : Int)) hs16x21 oM oM sD) ?_))
    rintro e22 w22 ⟨x22_0, n22, rfl, hC22, hs22, hb22, hp22_0⟩
    refine ⟨_, rfl, ?_⟩
    have hzs22 : w21.heap.size ≤ w22.heap.size := hC22.size
    have hE22 : Chg [g] w w22 := hE21.trans hC22
    have hF23 := hF17x21.chg ((good_owS (good_oFn 94 6))) hC22 (fun c hc => by have := List.mem_singleton.1 hc; omega)
    have hF24 := hF18x21.chg hC22 (fun hm => by have := List.mem_singleton.1 hm; omega)
    have hF25 := hF19x21.chg hC22 (fun hm => by have := List.mem_singleton.1 hm; omega)
    have hF26 := hF20x21.chg (oV) hC22 (fun c hc => by have := List.mem_singleton.1 hc; omega)
    refine q_add (((1 : Nat) : Int) + x22_0) rfl rfl (w64 sD sD) zN ?_
    have hbd27 : ∀ (wq : World), (Instr.build 80 #[(0, (.string (x16_0 ++ dig k))), (1, (.int .i64 (((1 : Nat) : Int) + x22_0)))]).run Tryz.prog wq = .ok (.agg #[(.string (x16_0 ++ dig k)), (.int .i64 (((1 : Nat) : Int) + x22_0)), (.slice none 0 0)]) wq := by intro wq; kernel_rfl
    refine q_build (ps := #[(0, (.string (x16_0 ++ dig k))), (1, (.int .i64 (((1 : Nat) : Int) + x22_0)))]) (.agg #[(.string (x16_0 ++ dig k)), (.int .i64 (((1 : Nat) : Int) + x22_0)), (.slice none 0 0)]) (by simp only [List.map_toArray, List.map_cons, List.map_nil]; rfl) (fun wq => hbd27  wq) zN ?_
    have hq29 := hF24.lt
    have hq30 := hF25.lt
    refine r_allocA (z := .agg #[.string ByteArray.empty, .int .i64 0, .slice none 0 0]) zr80 zN fun w28 hX28 hz28 hB28 => ?_
    have hzs28 : w22.heap.size ≤ w28.heap.size := hX28.size
    have hE28 : Chg [g] w w28 := hE22.ext hX28
    have hF23x28 := hF23.ext ((good_owS (good_oFn 94 6))) hX28
    have hs22x28 := hs22.ext hX28
    have hF24x28 := hF24.ext hX28
    have hF25x28 := hF25.ext hX28
    have hF26x28 := hF26.ext (oV) hX28
    replace hB28 : BX w28.heap w22.heap.size [(.string ByteArray.empty), (.int .i64 0), (.slice none 0 0)] := hB28
    refine e_setA (vs := [(.string (x16_0 ++ dig k)), (.int .i64 (((1 : Nat) : Int) + x22_0)), (.slice none 0 0)]) agg80 rfl rfl (by intro u hu; simp only [List.mem_cons, List.not_mem_nil, or_false] at hu; rcases hu with rfl | rfl | rfl <;> first | exact ⟨rfl, rfl⟩) hB28 rfl rfl zN fun w31 hC31 hz31 hB31 => ?_
    replace hB31 : BX w31.heap w22.heap.size [(.string (x16_0 ++ dig k)), (.int .i64 (((1 : Nat) : Int) + x22_0)), (.slice none 0 0)] := hB31
    have hzs31 : w28.heap.size ≤ w31.heap.size := hC31.size
    have hE31 : Chg [g] w w31 := hE28.fresh hC31 (fun c hc => by have := List.mem_singleton.1 hc; omega)
    have hF32 := hF23x28.chg ((good_owS (good_oFn 94 6))) hC31 (fun c hc => by have := List.mem_singleton.1 hc; omega)
    have hF33 := hs22x28.chg hC31 (fun c hc => by have := List.mem_singleton.1 hc; omega)
    have hF34 := hF24x28.chg hC31 (fun hm => by have := List.mem_singleton.1 hm; omega)
    have hF35 := hF25x28.chg hC31 (fun hm => by have := List.mem_singleton.1 hm; omega)
    have hF36 := hF26x28.chg (oV) hC31 (fun c hc => by have := List.mem_singleton.1 hc; omega)
    refine lw_nil (wp_seq (wp_plain _ [0, 4, 0, 0] rfl (lw_tv 1 rfl (lw_callE 72 [] [] [(.pointer (some ⟨g, 0, none⟩)), (.int .i64 ((3 : Nat) : Int))] rfl rfl cf72 zN (c_spec_l00Src_pick _ g _ _ _ (((3 : Nat) : Int)) hF33 oM oM sD) ?_))))
    rintro e37 w37 ⟨x37_0, n37, rfl, hC37, hs37, hb37, hp37_0⟩
    refine ⟨_, rfl, ?_⟩
    have hzs37 : w31.heap.size ≤ w37.heap.size := hC37.size
    have hE37 : Chg [g] w w37 := hE31.trans hC37
    have hF38 := hF32.chg ((good_owS (good_oFn 94 6))) hC37 (fun c hc => by have := List.mem_singleton.1 hc; omega)
    have hF39 := hF34.chg hC37 (fun hm => by have := List.mem_singleton.1 hm; omega)
    have hF40 := hF35.chg hC37 (fun hm => by have := List.mem_singleton.1 hm; omega)
    have hF41 := hF36.chg (oV) hC37 (fun c hc => by have := List.mem_singleton.1 hc; omega)
    have hF42 := hB31.chg hC37 (fun hm => by have := List.mem_singleton.1 hm; omega)
    refine q_add (((1 : Nat) : Int) + x37_0) rfl rfl (w64 sD sD) zN (lw_tvn 1 rfl ?_)
    refine wp_seq (c_cut (S := Int × Nat) (fun (⟨o, m1⟩ : Int × Nat) => ([(12, (.int .i64 o)), (0, (.pointer (some ⟨g, 0, none⟩))), (1, (.int .i64 funcs)), (2, (.int .i64 nodes)), (3, (.bool plain)), (8, (.pointer (some ⟨w.heap.size, 0, none⟩))), (9, (.pointer (some ⟨w1.heap.size, 0, none⟩))), (10, (.int .i64 ((k : Nat) : Int))), (11, (.pointer (some ⟨w22.heap.size, 0, none⟩)))] : List (Nat × Value))) (fun (⟨o, m1⟩ : Int × Nat) (W : World) => Chg [g] w W ∧ Fr (owS 3 (oFn 94 6) 80) w5.heap.size w10.heap.size W.heap vp ps ∧ Src W.heap g sv cs m1 ∧ BX W.heap w.heap.size [(.slice none 0 0)] ∧ BX W.heap w1.heap.size [vp] ∧ BX W.heap w22.heap.size [(.string (x16_0 ++ dig k)), (.int .i64 (((1 : Nat) : Int) + x22_0)), (.slice none 0 0)] ∧ (1 ≤ o ∧ o ≤ 3) ∧ (n0 ≤ m1 ∧ m1 ≤ n0 + 150000 * k + 8) ∧ w10.heap.size ≤ w37.heap.size ∧ (g < w5.heap.size ∧ w.heap.size ≤ w5.heap.size) ∧ w10.heap.size ≤ w22.heap.size ∧ w5.heap.size ≤ W.heap.size) ?_ ?_)
    ·
      refine wp_seq (wp_plain _ [0, 4] rfl (lw_tv 1 rfl (lw_callE 73 [] [] [(.pointer (some ⟨g, 0, none⟩)), (.int .i64 ((2 : Nat) : Int))] rfl rfl cf73 zN (c_spec_l00Src_one _ g _ _ _ (((2 : Nat) : Int)) hs37 oM oM sD) ?_)))
      rintro e45 w45 ⟨x45_0, n45, rfl, hC45, hs45, hb45, hp45_0⟩
      refine ⟨_, rfl, ?_⟩
      have hzs45 : w37.heap.size ≤ w45.heap.size := hC45.size
      have hE45 : Chg [g] w w45 := hE37.trans hC45
      have hF46 := hF38.chg ((good_owS (good_oFn 94 6))) hC45 (fun c hc => by have := List.mem_singleton.1 hc; omega)
      have hF47 := hF39.chg hC45 (fun hm => by have := List.mem_singleton.1 hm; omega)
      have hF48 := hF40.chg hC45 (fun hm => by have := List.mem_singleton.1 hm; omega)
      have hF49 := hF41.chg (oV) hC45 (fun c hc => by have := List.mem_singleton.1 hc; omega)
      have hF50 := hF42.chg hC45 (fun hm => by have := List.mem_singleton.1 hm; omega)
      refine lw_nil ?_
      cases hb51 : x45_0
      ·
        exact c_cond_f (by first | rfl | (show Value.bool _ = _; rw [hb51])) (wp_skip ⟨((((1 : Nat) : Int) + x37_0), n45), _, rfl, ⟨rfl, rfl, rfl, rfl, rfl, rfl, rfl, rfl, rfl, trivial⟩, ⟨hE45, hF46, hs45, hF47, hF48, hF50, oM, oM, oM, oM, oM, oM⟩⟩)
      ·
        exact c_cond_t (by first | rfl | (show Value.bool _ = _; rw [hb51])) (wp_plain _ [0, 2, 0] rfl (q_fldP (p := (.pointer (some ⟨w22.heap.size, 0, none⟩))) (b := w22.heap.size) (o := 0) 1 fd80_1 rfl rfl zN (q_load (p := (padd (.pointer (some ⟨w22.heap.size, 0, none⟩)) 1)) (.inr rfl) (.int .i64 (((1 : Nat) : Int) + x22_0)) one2 rfl (hF50.ldp (i := 1) sM) zN (lw_tvn 1 rfl ⟨((((1 : Nat) : Int) + x22_0), n45), _, rfl, ⟨rfl, rfl, rfl, rfl, rfl, rfl, rfl, rfl, rfl, trivial⟩, ⟨hE45, hF46, hs45, hF47, hF48, hF50, oM, oM, oM, oM, oM, oM⟩⟩))))
    ·
      clear hL10_3 hL10_2 hL10_1 hL10_0 hO15 hz15 hX15 hzs15 hE15 hL10_0x15 hL10_1x15 hL10_2x15 hL10_3x15 hC16 hzs16 hE16 hF17 hF18 hF19 hF20 hX21 hzs21 hE21 hF17x21 hF18x21 hF19x21 hF20x21 hC22 hzs22 hE22 hF23 hF24 hF25 hF26 hz28 hX28 hzs28 hE28 hF23x28 hF24x28 hF25x28 hF26x28 hz31 hC31 hzs31 hE31 hF32 hF33 hF34 hF35 hF36 hC37 hzs37 hE37 hF38 hF39 hF40 hF41 hF42
      rintro ⟨o, m1⟩ ρ43 w43 ⟨hE43, hL43_0, hL43_1, hL43_2, hL43_3, hL43_4, ho3, hm1, huw, hgb, huf, hkB44⟩
      have hzs43 : w.heap.size ≤ w43.heap.size := hE43.size
      have hq52 := hL43_2.lt
      have hq53 := hL43_3.lt
      have hq54 := hL43_4.lt
      refine wp_seq (wp_seq (wp_plain _ [0] rfl (lw_tvn 1 rfl (wp_block ?_))))
      refine c_loop (S := Nat × Value × List Ex × Nat) (fun (⟨i, vo, xs, m2⟩ : Nat × Value × List Ex × Nat) => ([(13, (.int .i64 ((i : Nat) : Int))), (0, (.pointer (some ⟨g, 0, none⟩))), (1, (.int .i64 funcs)), (2, (.int .i64 nodes)), (3, (.bool plain)), (8, (.pointer (some ⟨w.heap.size, 0, none⟩))), (9, (.pointer (some ⟨w1.heap.size, 0, none⟩))), (10, (.int .i64 ((k : Nat) : Int))), (11, (.pointer (some ⟨w22.heap.size, 0, none⟩))), (12, (.int .i64 o))] : List (Nat × Value))) (fun (⟨i, vo, xs, m2⟩ : Nat × Value × List Ex × Nat) (W : World) => Chg [g] w W ∧ Fr (owS 5 (oEx 94 6) 94) w43.heap.size W.heap.size W.heap vo xs ∧ Fr (owS 3 (oFn 94 6) 80) w5.heap.size w10.heap.size W.heap vp ps ∧ Src W.heap g sv cs m2 ∧ BX W.heap w.heap.size [(.slice none 0 0)] ∧ BX W.heap w1.heap.size [vp] ∧ BX W.heap w22.heap.size [(.string (x16_0 ++ dig k)), (.int .i64 (((1 : Nat) : Int) + x22_0)), vo] ∧ ((i : Nat) : Int) ≤ o ∧ FOk ps (((1 : Nat) : Int) + x22_0) plain xs i ∧ (n0 ≤ m2 ∧ m2 ≤ n0 + 150000 * k + 8 + 47770 * i) ∧ w10.heap.size ≤ w43.heap.size ∧ (g < w5.heap.size ∧ w.heap.size ≤ w5.heap.size) ∧ w10.heap.size ≤ w22.heap.size ∧ w.heap.size < w43.heap.size ∧ w1.heap.size < w43.heap.size ∧ w22.heap.size < w43.heap.size ∧ w43.heap.size ≤ W.heap.size ∧ w5.heap.size ≤ W.heap.size) (fun (⟨i, vo, xs, m2⟩ : Nat × Value × List Ex × Nat) => o.toNat - i) (0, (.slice none 0 0), ([] : List Ex), m1) ⟨rfl, rfl, rfl, rfl, rfl, rfl, rfl, rfl, rfl, rfl, trivial⟩ ⟨hE43, (frNilS _ 0 _).up (good_owS (good_oEx 94 6)), hL43_0, hL43_1, hL43_2, hL43_3, hL43_4, oM, (by exact FOk.nil _ _ _), oM, oM, oM, oM, oM, oM, oM, oM, oM⟩ ?_
      clear hL43_4 hL43_3 hL43_2 hL43_1 hL43_0
      rintro ⟨i, vo, xs, m2⟩ ρ58 w58 ⟨hE58, hL58_0, hL58_1, hL58_2, hL58_3, hL58_4, hL58_5, hio, hff, hm2, huw, hgb, huf, hkg55, hkg56, hkg57, hkB59, hkB60⟩
      have hzs58 : w.heap.size ≤ w58.heap.size := hE58.size
      have hq61 := hL58_3.lt
      have hq62 := hL58_4.lt
      have hq63 := hL58_5.lt
      refine wp_seq (wp_seq (wp_plain _ [0, 0, 0] rfl (lw_tv 2 rfl ?_)))
      by_cases hc64 : ((i : Nat) : Int) < o
      ·
        refine q_lss true rfl rfl (decide_eq_true hc64) zN (lw_nil (c_cond_t rfl (wp_skip (wp_seq (wp_block (wp_seq (wp_plain _ [0, 0, 0, 0, 3, 0] rfl (lw_tv 3 rfl ?_))))))))
        have hbd65 : ∀ (wq : World), (Instr.build 92 #[(0, (.pointer (some ⟨g, 0, none⟩))), (1, (.pointer (some ⟨w1.heap.size, 0, none⟩))), (2, (.int .i64 nodes)), (3, (.bool plain))]).run Tryz.prog wq = .ok (.agg #[(.pointer (some ⟨g, 0, none⟩)), (.pointer (some ⟨w1.heap.size, 0, none⟩)), (.int .i64 nodes), (.bool plain)]) wq := by intro wq; kernel_rfl
        refine q_build (ps := #[(0, (.pointer (some ⟨g, 0, none⟩))), (1, (.pointer (some ⟨w1.heap.size, 0, none⟩))), (2, (.int .i64 nodes)), (3, (.bool plain))]) (.agg #[(.pointer (some ⟨g, 0, none⟩)), (.pointer (some ⟨w1.heap.size, 0, none⟩)), (.int .i64 nodes), (.bool plain)]) (by simp only [List.map_toArray, List.map_cons, List.map_nil]; rfl) (fun wq => hbd65  wq) zN ?_
        have hq67 := hL58_3.lt
        have hq68 := hL58_4.lt
        have hq69 := hL58_5.lt
        refine r_boxA (cs := #[(.pointer (some ⟨g, 0, none⟩)), (.pointer (some ⟨w1.heap.size, 0, none⟩)), (.int .i64 nodes), (.bool plain)]) rfl zN fun w66 hX66 hz66 hB66 => ?_
        have hzs66 : w58.heap.size ≤ w66.heap.size := hX66.size
        have hE66 : Chg [g] w w66 := hE58.ext hX66
        have hL58_0x66 := hL58_0.ext ((good_owS (good_oEx 94 6))) hX66
        have hL58_1x66 := hL58_1.ext ((good_owS (good_oFn 94 6))) hX66
        have hL58_2x66 := hL58_2.ext hX66
        have hL58_3x66 := hL58_3.ext hX66
        have hL58_4x66 := hL58_4.ext hX66
        have hL58_5x66 := hL58_5.ext hX66
        replace hB66 : BX w66.heap w58.heap.size [(.pointer (some ⟨g, 0, none⟩)), (.pointer (some ⟨w1.heap.size, 0, none⟩)), (.int .i64 nodes), (.bool plain)] := hB66
        refine lw_tvn 1 rfl ?_
        letI : JR := jrC [g, w58.heap.size]
        refine Jx.wp_draw _ [0, 1, 0, 0, 1, 0, 3, 3, 4, 0, 4] mixed (by kernel_rfl) (Jx.q_fldP (p := (.pointer (some ⟨w22.heap.size, 0, none⟩))) (b := w22.heap.size) (o := 0) 2 fd80_2 rfl rfl zN (Jx.q_loadJ (p := (padd (.pointer (some ⟨w22.heap.size, 0, none⟩)) 2)) vo one78 rfl (fun wj hj => (BX.chg (w := w66.drew) (F := [g, w58.heap.size]) hL58_5x66 hj (fun hm => by have := mem2 hm; omega)).ldp (i := 2) sM) zN (Jx.q_move (.pointer (some ⟨w58.heap.size, 0, none⟩)) rfl zN (Jx.q_fldP (p := (.pointer (some ⟨w22.heap.size, 0, none⟩))) (b := w22.heap.size) (o := 0) 1 fd80_1 rfl rfl zN ?_))))
        refine Jx.q_loadJ (p := (padd (.pointer (some ⟨w22.heap.size, 0, none⟩)) 1)) (.int .i64 (((1 : Nat) : Int) + x22_0)) one2 rfl (fun wj hj => (BX.chg (w := w66.drew) (F := [g, w58.heap.size]) hL58_5x66 hj (fun hm => by have := mem2 hm; omega)).ldp (i := 1) sM) zN (Jx.q_move (.int .i64 ((k : Nat) : Int)) rfl zN ?_)
        refine Jx.lw_call 74 [] [] [(.pointer (some ⟨w58.heap.size, 0, none⟩)), (.int .i64 (((1 : Nat) : Int) + x22_0)), (.int .i64 ((k : Nat) : Int)), (.int .i64 ((5 : Nat) : Int))] rfl rfl cf74 zN (GX_any 5 _ w58.heap.size g sv cs m2 (.pointer (some ⟨w1.heap.size, 0, none⟩)) 6 nodes plain ps (((1 : Nat) : Int) + x22_0) (((k : Nat) : Int)) oM hL58_2x66 hB66 (RN.box hL58_4x66 (RP.mk' (RN.of_frF2 hL58_1x66 (fun b hb => by have := mem2 hb; omega))) (fun hb => by have := mem2 hb; omega)) oM oM oM oM (by exact hdp.gpr) oM oM oM) ?_
        rintro e70 w70 ⟨v70, x70, n70, l70, rfl, hC70, hs70, hb70, hB70, hO70, hr70, hG70⟩
        refine ⟨_, rfl, hC70, ?_⟩
        replace hO70 := hO70.low (B' := w66.heap.size) (Nat.le_refl _)
        replace hC70 := hC70.of_drew
        have hzs70 : w66.heap.size ≤ w70.heap.size := hC70.size
        have hE70 : Chg [g] w w70 := hE66.new2 hC70 (List.mem_singleton.2 rfl) oM
        have hF71 := hL58_0x66.chg ((good_owS (good_oEx 94 6))) hC70 (fun c hc => by have := mem2 hc; omega)
        have hF72 := hL58_1x66.chg ((good_owS (good_oFn 94 6))) hC70 (fun c hc => by have := mem2 hc; omega)
        have hF73 := hL58_3x66.chg hC70 (fun hm => by have := mem2 hm; omega)
        have hF74 := hL58_4x66.chg hC70 (fun hm => by have := mem2 hm; omega)
        have hF75 := hL58_5x66.chg hC70 (fun hm => by have := mem2 hm; omega)
        refine Jx.tail rfl (r_oneS (cs := [(.int .i64 x70.kind), (.int .i64 x70.num), (.int .i64 x70.pick), (.int .i64 x70.count), v70]) (y := x70) (B := w66.heap.size) (good_oEx 94 6) u78 tiS94 rfl (by decide) rfl (FrN.mk1 (d := 6) oM hr70 hO70) oM zN fun v76 w76 hX76 hz76 hO76 => ?_)
        have hzs76 : w70.heap.size ≤ w76.heap.size := hX76.size
        have hE76 : Chg [g] w w76 := hE70.ext hX76
        have hF71x76 := hF71.ext ((good_owS (good_oEx 94 6))) hX76
        have hF72x76 := hF72.ext ((good_owS (good_oFn 94 6))) hX76
        have hs70x76 := hs70.ext hX76
        have hF73x76 := hF73.ext hX76
        have hF74x76 := hF74.ext hX76
        have hF75x76 := hF75.ext hX76
        have hB70x76 := hB70.ext hX76
        refine e_appS (v := vo) (a := v76) (good_oEx 94 6) u78 tiS94 rfl (by decide) rfl rfl hF71x76 oM hO76 oM oM (by have := hff.len; omega) (by have := hff.len; unfold maxLen; omega) zN fun v77 w77 F77 hC77 hF77 hO77 => ?_
        have hzs77 : w76.heap.size ≤ w77.heap.size := hC77.size
        have hE77 : Chg [g] w w77 := hE76.fresh hC77 (fun c hc => by have := hF77 _ hc; omega)
        have hF78 := hF72x76.chg ((good_owS (good_oFn 94 6))) hC77 (fun c hc => by have := hF77 _ hc; omega)
        have hF79 := hs70x76.chg hC77 (fun c hc => by have := hF77 _ hc; omega)
        have hF80 := hF73x76.chg hC77 (fun hm => by have := hF77 _ hm; omega)
        have hF81 := hF74x76.chg hC77 (fun hm => by have := hF77 _ hm; omega)
        have hF82 := hF75x76.chg hC77 (fun hm => by have := hF77 _ hm; omega)
        have hF83 := hB70x76.chg hC77 (fun hm => by have := hF77 _ hm; omega)
        refine q_fldP (p := (.pointer (some ⟨w22.heap.size, 0, none⟩))) (b := w22.heap.size) (o := 0) 2 fd80_2 rfl rfl zN (e_setB (k := 2) (w := w77) sz78 rfl rfl (isSl_one hO77.isSlS) hF82 sM zN fun w84 hC84 hz84 hB84 => ?_)
        replace hB84 : BX w84.heap w22.heap.size [(.string (x16_0 ++ dig k)), (.int .i64 (((1 : Nat) : Int) + x22_0)), v77] := hB84
        have hzs84 : w77.heap.size ≤ w84.heap.size := hC84.size
        have hE84 : Chg [g] w w84 := hE77.fresh hC84 (fun c hc => by have := List.mem_singleton.1 hc; omega)
        have hF85 := hF78.chg ((good_owS (good_oFn 94 6))) hC84 (fun c hc => by have := List.mem_singleton.1 hc; omega)
        have hF86 := hF79.chg hC84 (fun c hc => by have := List.mem_singleton.1 hc; omega)
        have hF87 := hF80.chg hC84 (fun hm => by have := List.mem_singleton.1 hm; omega)
        have hF88 := hF81.chg hC84 (fun hm => by have := List.mem_singleton.1 hm; omega)
        have hF89 := hF83.chg hC84 (fun hm => by have := List.mem_singleton.1 hm; omega)
        have hF90 := hO77.chg ((good_owS (good_oEx 94 6))) hC84 (fun c hc => by have := List.mem_singleton.1 hc; omega)
        exact lw_nil (wp_plain _ [0, 0, 0] rfl (lw_tv 1 rfl (q_add ((i + 1 : Nat) : Int) rfl rfl (w64n oM oM) zN (lw_tvn 1 rfl ⟨((i + 1), v77, (xs ++ [x70]), n70), _, rfl, ⟨rfl, rfl, rfl, rfl, rfl, rfl, rfl, rfl, rfl, rfl, trivial⟩, ⟨hE84, hF90.up (good_owS (good_oEx 94 6)), hF85, hF86, hF87, hF88, hB84, oM, (by exact hff.snoc (funcs := ((k : Nat) : Int)) (d := 5) (l0 := nodes) oM oM oM (by assumption)), oM, oM, oM, oM, oM, oM, oM, oM, oM⟩, by first | omega | (dsimp only; omega)⟩))))
      ·
        refine q_lss false rfl rfl (decide_eq_false hc64) zN (lw_nil (c_cond_f rfl (wp_exit (t_exit (t_exit (c_exit_here (wp_plain _ [0, 2, 2, 3, 4, 0, 4] rfl (q_fldP (p := (.pointer (some ⟨w1.heap.size, 0, none⟩))) (b := w1.heap.size) (o := 0) 0 fd32_0 rfl rfl zN (q_load (p := (padd (.pointer (some ⟨w1.heap.size, 0, none⟩)) 0)) (.inr rfl) vp one30 rfl (hL58_4.ldp (i := 0) sM) zN (q_loadA (p := (.pointer (some ⟨w22.heap.size, 0, none⟩))) (.inr rfl) [(.string (x16_0 ++ dig k)), (.int .i64 (((1 : Nat) : Int) + x22_0)), vo] agg80 rfl (fun w9 hw9 => LD.of_box (BX.ext (w := w58) hL58_5 hw9)) rfl zN ?_))))))))))
        refine r_oneS (cs := [(.string (x16_0 ++ dig k)), (.int .i64 (((1 : Nat) : Int) + x22_0)), vo]) (y := (Fn.mk (x16_0 ++ dig k) (((1 : Nat) : Int) + x22_0) xs)) (B := w43.heap.size) (good_oFn 94 6) u30 tiS80 rfl (by decide) rfl (FrN.mkF (x := ⟨(x16_0 ++ dig k), (((1 : Nat) : Int) + x22_0), xs⟩) (i64_mk (a := (((1 : Nat) : Int) + x22_0)) oM) hL58_0) oM zN fun v91 w91 hX91 hz91 hO91 => ?_
        have hzs91 : w58.heap.size ≤ w91.heap.size := hX91.size
        have hE91 : Chg [g] w w91 := hE58.ext hX91
        have hL58_1x91 := hL58_1.ext ((good_owS (good_oFn 94 6))) hX91
        have hL58_2x91 := hL58_2.ext hX91
        have hL58_3x91 := hL58_3.ext hX91
        have hL58_4x91 := hL58_4.ext hX91
        have hL58_5x91 := hL58_5.ext hX91
        refine e_appS (v := vp) (a := v91) (good_oFn 94 6) u30 tiS80 rfl (by decide) rfl rfl hL58_1x91 oM hO91 oM oM oM (by unfold maxLen; omega) zN fun v92 w92 F92 hC92 hF92 hO92 => ?_
        have hzs92 : w91.heap.size ≤ w92.heap.size := hC92.size
        have hE92 : Chg [g] w w92 := hE91.fresh hC92 (fun c hc => by have := hF92 _ hc; omega)
        have hF93 := hL58_2x91.chg hC92 (fun c hc => by have := hF92 _ hc; omega)
        have hF94 := hL58_3x91.chg hC92 (fun hm => by have := hF92 _ hm; omega)
        have hF95 := hL58_4x91.chg hC92 (fun hm => by have := hF92 _ hm; omega)
        have hF96 := hL58_5x91.chg hC92 (fun hm => by have := hF92 _ hm; omega)
        refine q_fldP (p := (.pointer (some ⟨w1.heap.size, 0, none⟩))) (b := w1.heap.size) (o := 0) 0 fd32_0 rfl rfl zN (e_setB (k := 0) (w := w92) sz30 rfl rfl (isSl_one hO92.isSlS) hF95 sM zN fun w97 hC97 hz97 hB97 => ?_)
        replace hB97 : BX w97.heap w1.heap.size [v92] := hB97
        have hzs97 : w92.heap.size ≤ w97.heap.size := hC97.size
        have hE97 : Chg [g] w w97 := hE92.fresh hC97 (fun c hc => by have := List.mem_singleton.1 hc; omega)
        have hF98 := hF93.chg hC97 (fun c hc => by have := List.mem_singleton.1 hc; omega)
        have hF99 := hF94.chg hC97 (fun hm => by have := List.mem_singleton.1 hm; omega)
        have hF100 := hF96.chg hC97 (fun hm => by have := List.mem_singleton.1 hm; omega)
        have hF101 := hO92.chg ((good_owS (good_oFn 94 6))) hC97 (fun c hc => by have := List.mem_singleton.1 hc; omega)
        refine lw_nil (wp_plain _ [0, 0, 0] rfl (lw_tv 1 rfl (q_add ((k + 1 : Nat) : Int) rfl rfl (w64n oM oM) zN (lw_tvn 1 rfl ?_))))
        exact ⟨((k + 1), v92, (ps ++ [(Fn.mk (x16_0 ++ dig k) (((1 : Nat) : Int) + x22_0) xs)]), m2), _, rfl, ⟨rfl, rfl, rfl, rfl, rfl, rfl, rfl, trivial⟩, ⟨hE97, hF101.up (good_owS (good_oFn 94 6)), hF98, hF99, hB97, oM, (by exact (FOk.fn (i := i) (f := ⟨(x16_0 ++ dig k), (((1 : Nat) : Int) + x22_0), xs⟩) hdp hdn oM ⟨by show 1 ≤ (((1 : Nat) : Int) + x22_0); omega, by show (((1 : Nat) : Int) + x22_0) ≤ 3; omega⟩ ⟨by omega, by omega⟩ hff hfo (by show _ = _ ++ dig ps.length; rw [hpk])).1), (by exact (FOk.fn (i := i) (f := ⟨(x16_0 ++ dig k), (((1 : Nat) : Int) + x22_0), xs⟩) hdp hdn oM ⟨by show 1 ≤ (((1 : Nat) : Int) + x22_0); omega, by show (((1 : Nat) : Int) + x22_0) ≤ 3; omega⟩ ⟨by omega, by omega⟩ hff hfo (by show _ = _ ++ dig ps.length; rw [hpk])).2), (by rw [List.length_append, hpk]; rfl), oM, oM, oM, oM, oM⟩, by first | omega | (dsimp only; omega)⟩
  ·
    refine q_lss false rfl rfl (decide_eq_false hc14) zN (lw_nil (c_cond_f rfl (wp_exit (t_exit (t_exit (c_exit_here (wp_seq (wp_plain _ [2, 4] rfl (q_loadA (p := (.pointer (some ⟨w1.heap.size, 0, none⟩))) (.inr rfl) [vp] agg32 rfl (fun w9 hw9 => LD.of_box (BX.ext (w := w10) hL10_3 hw9)) rfl zN (e_setA (vs := [vp]) agg32 rfl rfl (by intro u hu; simp only [List.mem_cons, List.not_mem_nil, or_false] at hu; rcases hu with rfl <;> first | exact ⟨rfl, rfl⟩ | exact isSl_one hL10_0.isSlS) hL10_2 rfl rfl zN fun w102 hC102 hz102 hB102 => ?_))))))))))
    replace hB102 : BX w102.heap w.heap.size [vp] := hB102
    have hzs102 : w10.heap.size ≤ w102.heap.size := hC102.size
    have hE102 : Chg [g] w w102 := hE10.fresh hC102 (fun c hc => by have := List.mem_singleton.1 hc; omega)
    have hF103 := hL10_0.chg ((good_owS (good_oFn 94 6))) hC102 (fun c hc => by have := List.mem_singleton.1 hc; omega)
    have hF104 := hL10_1.chg hC102 (fun c hc => by have := List.mem_singleton.1 hc; omega)
    have hF105 := hL10_3.chg hC102 (fun hm => by have := List.mem_singleton.1 hm; omega)
    exact lw_nil (wp_ret (post_retA (cs := [vp]) rfl agg32 rfl hB102 rfl ⟨vp, ps, m, rfl, hE102, hF104, ⟨by omega, by omega⟩, ((hF103.up (good_owS (good_oFn 94 6))).low (B' := w.heap.size) oM), (by exact ⟨hdp, hdn, by omega⟩)⟩))
end Go.Proofs.YtnofbmdpabcjaaaGreat
namespace Go.Proofs.YtnofbmdpabcjaaaGreat
open Go Go.RowKit
set_option linter.unusedVariables false
set_option linter.unusedSimpArgs false
set_option maxHeartbeats 4000000
set_option maxRecDepth 100000
attribute [local irreducible] LW
theorem c_spec_A2Field (w : World) (vc : Value) (cs : List UInt8) (hcs : Rd (rdL rU) w.heap vc cs)  :
    Calls Tryz.prog 33 #[vc] w (fun e w' => ∃ (v va vb vd : Value) (p : List Fn) (f : Int) (a b d : List Int), e = .returned (.tuple #[.agg #[v], .int .i64 f, va, vb, vd]) ∧ Ext w w' ∧ Fr (owS 3 (oFn 94 6) 80) w.heap.size w'.heap.size w'.heap v p ∧ Fr (owL rI 2) w.heap.size w'.heap.size w'.heap va a ∧ Fr (owL rI 2) w.heap.size w'.heap.size w'.heap vb b ∧ Fr (owL rI 2) w.heap.size w'.heap.size w'.heap vd d ∧ FldD p f a b d) := by
  refine calls_mk [vc] 73 Tryz.func33 rfl rfl sM ?_
  have hE0 : Ext w w := Ext.refl w
  have hl_vc := hcs.lenle
  have hs5 := stp3
  have hn5 := nds3
  refine wp_seq (wp_plain _ [3, 0, 0, 0, 0] rfl (r_allocA (z := .agg #[.slice none 0 0]) zr32 zN fun w1 hX1 hz1 hB1 => ?_))
  have hzs1 : w.heap.size ≤ w1.heap.size := hX1.size
  have hE1 : Ext w w1 := hE0.trans hX1
  replace hB1 : BX w1.heap w.heap.size [(.slice none 0 0)] := hB1
  refine lw_tvn 4 rfl (wp_seq (wp_plain _ [0, 3, 0] rfl (lw_tv 1 rfl (lw_call 70 [] [] [vc] rfl rfl cf70 zN (c_spec_l00From _ _ _ (hcs.ext good_u hE1)) ?_))))
  rintro e2 w2 ⟨gB2, rfl, hX2, hs2, hg2⟩
  refine ⟨_, rfl, hX2, ?_⟩
  have hzs2 : w1.heap.size ≤ w2.heap.size := hX2.size
  have hE2 : Ext w w2 := hE1.trans hX2
  have hB1x2 := hB1.ext hX2
  refine lw_tvn 1 rfl (wp_seq (wp_plain _ [0, 0, 4, 0, 4, 4, 3, 4] rfl ?_))
  have hgl := hs2.lt
  refine lw_tv 2 rfl (lw_callE 72 [] [] [(.pointer (some ⟨gB2, 0, none⟩)), (.int .i64 ((2 : Nat) : Int))] rfl rfl cf72 zN (c_spec_l00Src_pick _ gB2 _ _ _ (((2 : Nat) : Int)) hs2 oM oM sD) ?_)
  rintro e3 w3 ⟨x3_0, n3, rfl, hC3, hs3, hb3, hp3_0⟩
  refine ⟨_, rfl, ?_⟩
  have hzs3 : w2.heap.size ≤ w3.heap.size := hC3.size
  have hE3 : Ext w w3 := hC3.below hE2 (fun c hc => by have := List.mem_singleton.1 hc; omega) hE2.size
  have hF4 := hB1x2.chg hC3 (fun hm => by have := List.mem_singleton.1 hm; omega)
  refine lw_tv 1 rfl (lw_callE 73 [] [] [(.pointer (some ⟨gB2, 0, none⟩)), (.int .i64 ((2 : Nat) : Int))] rfl rfl cf73 zN (c_spec_l00Src_one _ gB2 _ _ _ (((2 : Nat) : Int)) hs3 oM oM sD) ?_)
  rintro e5 w5 ⟨x5_0, n5, rfl, hC5, hs5, hb5, hp5_0⟩
  refine ⟨_, rfl, ?_⟩
  have hzs5 : w3.heap.size ≤ w5.heap.size := hC5.size
  have hE5 : Ext w w5 := hC5.below hE3 (fun c hc => by have := List.mem_singleton.1 hc; omega) hE3.size
  have hF6 := hF4.chg hC5 (fun hm => by have := List.mem_singleton.1 hm; omega)
  refine lw_callE 71 [] [] [(.pointer (some ⟨gB2, 0, none⟩)), (.int .i64 x3_0), (.int .i64 ((7 : Nat) : Int)), (.bool x5_0)] rfl rfl cf71 zN (c_spec_l02Draw _ gB2 vc cs n5 (x3_0) (((7 : Nat) : Int)) x5_0 hs5 oM oM oM oM oM) ?_
  rintro e7 w7 ⟨v7, p7, n7, rfl, hC7, hs7, hb7, hO7, hG7⟩
  refine ⟨_, rfl, ?_⟩
  have hzs7 : w5.heap.size ≤ w7.heap.size := hC7.size
  have hE7 : Ext w w7 := hC7.below hE5 (fun c hc => by have := List.mem_singleton.1 hc; omega) hE5.size
  have hF8 := hF6.chg hC7 (fun hm => by have := List.mem_singleton.1 hm; omega)
  have hdp := hG7.1.npl
  have hdn := hG7.2.1
  have hpk := hG7.2.2
  have hq10 := hF8.lt
  refine r_allocA (z := .agg #[.slice none 0 0]) zr32 zN fun w9 hX9 hz9 hB9 => ?_
  have hzs9 : w7.heap.size ≤ w9.heap.size := hX9.size
  have hE9 : Ext w w9 := hE7.trans hX9
  have hF8x9 := hF8.ext hX9
  have hs7x9 := hs7.ext hX9
  have hO7x9 := hO7.ext ((good_owS (good_oFn 94 6))) hX9
  replace hB9 : BX w9.heap w7.heap.size [(.slice none 0 0)] := hB9
  refine e_setA (vs := [v7]) agg32 rfl rfl (by intro u hu; simp only [List.mem_cons, List.not_mem_nil, or_false] at hu; rcases hu with rfl <;> first | exact ⟨rfl, rfl⟩ | exact isSl_one hO7x9.isSlS) hB9 rfl rfl zN fun w11 hC11 hz11 hB11 => ?_
  replace hB11 : BX w11.heap w7.heap.size [v7] := hB11
  have hzs11 : w9.heap.size ≤ w11.heap.size := hC11.size
  have hE11 : Ext w w11 := hC11.below hE9 (fun c hc => by have := List.mem_singleton.1 hc; omega) hE9.size
  have hF12 := hF8x9.chg hC11 (fun hm => by have := List.mem_singleton.1 hm; omega)
  have hF13 := hs7x9.chg hC11 (fun c hc => by have := List.mem_singleton.1 hc; omega)
  have hF14 := hO7x9.chg ((good_owS (good_oFn 94 6))) hC11 (fun c hc => by have := List.mem_singleton.1 hc; omega)
  refine lw_nil (wp_seq (wp_plain _ [0, 4, 0, 0] rfl (lw_tv 1 rfl (lw_callE 72 [] [] [(.pointer (some ⟨gB2, 0, none⟩)), (.int .i64 ((3 : Nat) : Int))] rfl rfl cf72 zN (c_spec_l00Src_pick _ gB2 _ _ _ (((3 : Nat) : Int)) hF13 oM oM sD) ?_))))
  rintro e15 w15 ⟨x15_0, n15, rfl, hC15, hs15, hb15, hp15_0⟩
  refine ⟨_, rfl, ?_⟩
  have hzs15 : w11.heap.size ≤ w15.heap.size := hC15.size
  have hE15 : Ext w w15 := hC15.below hE11 (fun c hc => by have := List.mem_singleton.1 hc; omega) hE11.size
  have hF16 := hF12.chg hC15 (fun hm => by have := List.mem_singleton.1 hm; omega)
  have hF17 := hF14.chg ((good_owS (good_oFn 94 6))) hC15 (fun c hc => by have := List.mem_singleton.1 hc; omega)
  have hF18 := hB11.chg hC15 (fun hm => by have := List.mem_singleton.1 hm; omega)
  refine q_add (((1 : Nat) : Int) + x15_0) rfl rfl (w64 sD sD) zN (lw_tvn 1 rfl (wp_seq (wp_plain _ [0, 0, 3, 4] rfl ?_)))
  refine lw_tv 1 rfl ?_
  have hbd19 : ∀ (wq : World), (Instr.build 80 #[(0, (.string (⟨#[102, 105, 101, 108, 100]⟩))), (1, (.int .i64 (((1 : Nat) : Int) + x15_0)))]).run Tryz.prog wq = .ok (.agg #[(.string (⟨#[102, 105, 101, 108, 100]⟩)), (.int .i64 (((1 : Nat) : Int) + x15_0)), (.slice none 0 0)]) wq := by intro wq; kernel_rfl
  refine q_build (ps := #[(0, (.string (⟨#[102, 105, 101, 108, 100]⟩))), (1, (.int .i64 (((1 : Nat) : Int) + x15_0)))]) (.agg #[(.string (⟨#[102, 105, 101, 108, 100]⟩)), (.int .i64 (((1 : Nat) : Int) + x15_0)), (.slice none 0 0)]) (by simp only [List.map_toArray, List.map_cons, List.map_nil]; rfl) (fun wq => hbd19  wq) zN ?_
  have hq21 := hF16.lt
  have hq22 := hF18.lt
  refine r_allocA (z := .agg #[.string ByteArray.empty, .int .i64 0, .slice none 0 0]) zr80 zN fun w20 hX20 hz20 hB20 => ?_
  have hzs20 : w15.heap.size ≤ w20.heap.size := hX20.size
  have hE20 : Ext w w20 := hE15.trans hX20
  have hF16x20 := hF16.ext hX20
  have hs15x20 := hs15.ext hX20
  have hF17x20 := hF17.ext ((good_owS (good_oFn 94 6))) hX20
  have hF18x20 := hF18.ext hX20
  replace hB20 : BX w20.heap w15.heap.size [(.string ByteArray.empty), (.int .i64 0), (.slice none 0 0)] := hB20
  refine e_setA (vs := [(.string (⟨#[102, 105, 101, 108, 100]⟩)), (.int .i64 (((1 : Nat) : Int) + x15_0)), (.slice none 0 0)]) agg80 rfl rfl (by intro u hu; simp only [List.mem_cons, List.not_mem_nil, or_false] at hu; rcases hu with rfl | rfl | rfl <;> first | exact ⟨rfl, rfl⟩) hB20 rfl rfl zN fun w23 hC23 hz23 hB23 => ?_
  replace hB23 : BX w23.heap w15.heap.size [(.string (⟨#[102, 105, 101, 108, 100]⟩)), (.int .i64 (((1 : Nat) : Int) + x15_0)), (.slice none 0 0)] := hB23
  have hzs23 : w20.heap.size ≤ w23.heap.size := hC23.size
  have hE23 : Ext w w23 := hC23.below hE20 (fun c hc => by have := List.mem_singleton.1 hc; omega) hE20.size
  have hF24 := hF16x20.chg hC23 (fun hm => by have := List.mem_singleton.1 hm; omega)
  have hF25 := hs15x20.chg hC23 (fun c hc => by have := List.mem_singleton.1 hc; omega)
  have hF26 := hF17x20.chg ((good_owS (good_oFn 94 6))) hC23 (fun c hc => by have := List.mem_singleton.1 hc; omega)
  have hF27 := hF18x20.chg hC23 (fun hm => by have := List.mem_singleton.1 hm; omega)
  refine lw_nil (wp_seq (wp_plain _ [0, 2, 0, 0] rfl (q_fldP (p := (.pointer (some ⟨w7.heap.size, 0, none⟩))) (b := w7.heap.size) (o := 0) 0 fd32_0 rfl rfl zN (q_load (p := (padd (.pointer (some ⟨w7.heap.size, 0, none⟩)) 0)) (.inr rfl) v7 one30 rfl (hF27.ldp (i := 0) sM) zN (q_len (v := v7) u30 rfl hF26.isSlS zN (lw_tvn 1 rfl (wp_seq (wp_seq (wp_plain _ [0] rfl (lw_tvn 1 rfl (wp_block ?_)))))))))))
  refine c_loop (S := Nat × Value × List Ex × Nat) (fun (⟨i, vo, xs, m⟩ : Nat × Value × List Ex × Nat) => ([(12, (.int .i64 ((i : Nat) : Int))), (2, (.pointer (some ⟨w.heap.size, 0, none⟩))), (7, (.pointer (some ⟨gB2, 0, none⟩))), (8, (.pointer (some ⟨w7.heap.size, 0, none⟩))), (9, (.int .i64 (((1 : Nat) : Int) + x15_0))), (10, (.pointer (some ⟨w15.heap.size, 0, none⟩))), (11, (.int .i64 ((p7.length : Nat) : Int)))] : List (Nat × Value))) (fun (⟨i, vo, xs, m⟩ : Nat × Value × List Ex × Nat) (W : World) => Ext w W ∧ Fr (owS 5 (oEx 94 6) 94) w23.heap.size W.heap.size W.heap vo xs ∧ Fr (owS 3 (oFn 94 6) 80) w5.heap.size w7.heap.size W.heap v7 p7 ∧ Src W.heap gB2 vc cs m ∧ BX W.heap w.heap.size [(.slice none 0 0)] ∧ BX W.heap w7.heap.size [v7] ∧ BX W.heap w15.heap.size [(.string (⟨#[102, 105, 101, 108, 100]⟩)), (.int .i64 (((1 : Nat) : Int) + x15_0)), vo] ∧ ((i : Nat) : Int) ≤ (((1 : Nat) : Int) + x15_0) ∧ FOk p7 (((1 : Nat) : Int) + x15_0) false xs i ∧ m ≤ 160000 + 3000 * i ∧ w7.heap.size ≤ w23.heap.size ∧ (gB2 < w5.heap.size ∧ w.heap.size ≤ w5.heap.size ∧ w.heap.size < gB2) ∧ w7.heap.size ≤ w15.heap.size ∧ w.heap.size < w23.heap.size ∧ w7.heap.size < w23.heap.size ∧ w15.heap.size < w23.heap.size ∧ w23.heap.size ≤ W.heap.size ∧ w5.heap.size ≤ W.heap.size) (fun (⟨i, vo, xs, m⟩ : Nat × Value × List Ex × Nat) => ((((1 : Nat) : Int) + x15_0)).toNat - i) (0, (.slice none 0 0), ([] : List Ex), n15) ⟨rfl, rfl, rfl, rfl, rfl, rfl, rfl, trivial⟩ ⟨hE23, (frNilS _ 0 _).up (good_owS (good_oEx 94 6)), hF26, hF25, hF24, hF27, hB23, oM, (by exact FOk.nil _ _ _), oM, oM, oM, oM, oM, oM, oM, oM, oM⟩ ?_
  clear hE0 hz1 hX1 hzs1 hE1 hX2 hzs2 hE2 hC3 hzs3 hE3 hF4 hC5 hF6 hG7 hO7 hC7 hF8 hz9 hX9 hzs9 hE9 hF8x9 hO7x9 hz11 hC11 hzs11 hE11 hF12 hF13 hF14 hC15 hzs15 hE15 hF16 hF17 hF18 hz20 hX20 hzs20 hE20 hF16x20 hF17x20 hF18x20 hz23 hC23 hF24 hF25 hF26 hF27
  rintro ⟨i, vo, xs, m⟩ ρ31 w31 ⟨hE31, hL31_0, hL31_1, hL31_2, hL31_3, hL31_4, hL31_5, hio, hff, hm2, huw, hgb, huf, hkg28, hkg29, hkg30, hkB32, hkB33⟩
  have hzs31 : w.heap.size ≤ w31.heap.size := hE31.size
  have hq34 := hL31_3.lt
  have hq35 := hL31_4.lt
  have hq36 := hL31_5.lt
  refine wp_seq (wp_seq (wp_plain _ [0, 0, 0] rfl (lw_tv 2 rfl ?_)))
  by_cases hc37 : ((i : Nat) : Int) < ((1 : Nat) : Int) + x15_0
  ·
    refine q_lss true rfl rfl (decide_eq_true hc37) zN (lw_nil (c_cond_t rfl (wp_skip (wp_seq (wp_block (wp_seq (wp_plain _ [0, 0, 4, 0, 0, 3, 0] rfl (lw_tv 2 rfl (lw_callE 73 [] [] [(.pointer (some ⟨gB2, 0, none⟩)), (.int .i64 ((4 : Nat) : Int))] rfl rfl cf73 zN (c_spec_l00Src_one _ gB2 _ _ _ (((4 : Nat) : Int)) hL31_2 oM oM sD) ?_)))))))))
    rintro e38 w38 ⟨x38_0, n38, rfl, hC38, hs38, hb38, hp38_0⟩
    refine ⟨_, rfl, ?_⟩
    have hzs38 : w31.heap.size ≤ w38.heap.size := hC38.size
    have hE38 : Ext w w38 := hC38.below hE31 (fun c hc => by have := List.mem_singleton.1 hc; omega) hE31.size
    have hF39 := hL31_0.chg ((good_owS (good_oEx 94 6))) hC38 (fun c hc => by have := List.mem_singleton.1 hc; omega)
    have hF40 := hL31_1.chg ((good_owS (good_oFn 94 6))) hC38 (fun c hc => by have := List.mem_singleton.1 hc; omega)
    have hF41 := hL31_3.chg hC38 (fun hm => by have := List.mem_singleton.1 hm; omega)
    have hF42 := hL31_4.chg hC38 (fun hm => by have := List.mem_singleton.1 hm; omega)
    have hF43 := hL31_5.chg hC38 (fun hm => by have := List.mem_singleton.1 hm; omega)
    refine q_not (!x38_0) rfl rfl zN ?_
    have hbd44 : ∀ (wq : World), (Instr.build 92 #[(0, (.pointer (some ⟨gB2, 0, none⟩))), (1, (.pointer (some ⟨w7.heap.size, 0, none⟩))), (2, (.int .i64 ((6 : Nat) : Int))), (3, (.bool (!x38_0)))]).run Tryz.prog wq = .ok (.agg #[(.pointer (some ⟨gB2, 0, none⟩)), (.pointer (some ⟨w7.heap.size, 0, none⟩)), (.int .i64 ((6 : Nat) : Int)), (.bool (!x38_0))]) wq := by intro wq; kernel_rfl
    refine q_build (ps := #[(0, (.pointer (some ⟨gB2, 0, none⟩))), (1, (.pointer (some ⟨w7.heap.size, 0, none⟩))), (2, (.int .i64 ((6 : Nat) : Int))), (3, (.bool (!x38_0)))]) (.agg #[(.pointer (some ⟨gB2, 0, none⟩)), (.pointer (some ⟨w7.heap.size, 0, none⟩)), (.int .i64 ((6 : Nat) : Int)), (.bool (!x38_0))]) (by simp only [List.map_toArray, List.map_cons, List.map_nil]; rfl) (fun wq => hbd44  wq) zN ?_
    have hq46 := hF41.lt
    have hq47 := hF42.lt
    have hq48 := hF43.lt
    refine r_boxA (cs := #[(.pointer (some ⟨gB2, 0, none⟩)), (.pointer (some ⟨w7.heap.size, 0, none⟩)), (.int .i64 ((6 : Nat) : Int)), (.bool (!x38_0))]) rfl zN fun w45 hX45 hz45 hB45 => ?_
    have hzs45 : w38.heap.size ≤ w45.heap.size := hX45.size
    have hE45 : Ext w w45 := hE38.trans hX45
    have hF39x45 := hF39.ext ((good_owS (good_oEx 94 6))) hX45
    have hF40x45 := hF40.ext ((good_owS (good_oFn 94 6))) hX45
    have hs38x45 := hs38.ext hX45
    have hF41x45 := hF41.ext hX45
    have hF42x45 := hF42.ext hX45
    have hF43x45 := hF43.ext hX45
    replace hB45 : BX w45.heap w38.heap.size [(.pointer (some ⟨gB2, 0, none⟩)), (.pointer (some ⟨w7.heap.size, 0, none⟩)), (.int .i64 ((6 : Nat) : Int)), (.bool (!x38_0))] := hB45
    refine lw_tvn 1 rfl ?_
    letI : JR := jrC [gB2, w38.heap.size]
    refine Jx.wp_draw _ [0, 1, 0, 0, 0, 3, 3, 4, 0, 4] mixed (by kernel_rfl) (Jx.q_fldP (p := (.pointer (some ⟨w15.heap.size, 0, none⟩))) (b := w15.heap.size) (o := 0) 2 fd80_2 rfl rfl zN (Jx.q_loadJ (p := (padd (.pointer (some ⟨w15.heap.size, 0, none⟩)) 2)) vo one78 rfl (fun wj hj => (BX.chg (w := w45.drew) (F := [gB2, w38.heap.size]) hF43x45 hj (fun hm => by have := mem2 hm; omega)).ldp (i := 2) sM) zN (Jx.q_move (.pointer (some ⟨w38.heap.size, 0, none⟩)) rfl zN (Jx.q_move (.int .i64 (((1 : Nat) : Int) + x15_0)) rfl zN (Jx.q_move (.int .i64 ((p7.length : Nat) : Int)) rfl zN ?_)))))
    refine Jx.lw_call 74 [] [] [(.pointer (some ⟨w38.heap.size, 0, none⟩)), (.int .i64 (((1 : Nat) : Int) + x15_0)), (.int .i64 ((p7.length : Nat) : Int)), (.int .i64 ((3 : Nat) : Int))] rfl rfl cf74 zN (GX_any 3 _ w38.heap.size gB2 vc cs n38 (.pointer (some ⟨w7.heap.size, 0, none⟩)) 6 ((6 : Nat) : Int) (!x38_0) p7 (((1 : Nat) : Int) + x15_0) (((p7.length : Nat) : Int)) oM hs38x45 hB45 (RN.box hF42x45 (RP.mk' (RN.of_frF2 hF40x45 (fun b hb => by have := mem2 hb; omega))) (fun hb => by have := mem2 hb; omega)) oM oM oM oM (by exact hdp.gpr) oM oM oM) ?_
    rintro e49 w49 ⟨v49, x49, n49, l49, rfl, hC49, hs49, hb49, hB49, hO49, hr49, hG49⟩
    refine ⟨_, rfl, hC49, ?_⟩
    replace hO49 := hO49.low (B' := w45.heap.size) (Nat.le_refl _)
    replace hC49 := hC49.of_drew
    have hzs49 : w45.heap.size ≤ w49.heap.size := hC49.size
    have hE49 : Ext w w49 := hC49.below hE45 (fun c hc => by have := mem2 hc; omega) hE45.size
    have hF50 := hF39x45.chg ((good_owS (good_oEx 94 6))) hC49 (fun c hc => by have := mem2 hc; omega)
    have hF51 := hF40x45.chg ((good_owS (good_oFn 94 6))) hC49 (fun c hc => by have := mem2 hc; omega)
    have hF52 := hF41x45.chg hC49 (fun hm => by have := mem2 hm; omega)
    have hF53 := hF42x45.chg hC49 (fun hm => by have := mem2 hm; omega)
    have hF54 := hF43x45.chg hC49 (fun hm => by have := mem2 hm; omega)
    refine Jx.tail rfl (r_oneS (cs := [(.int .i64 x49.kind), (.int .i64 x49.num), (.int .i64 x49.pick), (.int .i64 x49.count), v49]) (y := x49) (B := w45.heap.size) (good_oEx 94 6) u78 tiS94 rfl (by decide) rfl (FrN.le (FrN.mk1 (d := 4) oM hr49 hO49) oM) oM zN fun v55 w55 hX55 hz55 hO55 => ?_)
    have hzs55 : w49.heap.size ≤ w55.heap.size := hX55.size
    have hE55 : Ext w w55 := hE49.trans hX55
    have hF50x55 := hF50.ext ((good_owS (good_oEx 94 6))) hX55
    have hF51x55 := hF51.ext ((good_owS (good_oFn 94 6))) hX55
    have hs49x55 := hs49.ext hX55
    have hF52x55 := hF52.ext hX55
    have hF53x55 := hF53.ext hX55
    have hF54x55 := hF54.ext hX55
    have hB49x55 := hB49.ext hX55
    refine e_appS (v := vo) (a := v55) (good_oEx 94 6) u78 tiS94 rfl (by decide) rfl rfl hF50x55 oM hO55 oM oM (by have := hff.len; omega) (by have := hff.len; unfold maxLen; omega) zN fun v56 w56 F56 hC56 hF56 hO56 => ?_
    have hzs56 : w55.heap.size ≤ w56.heap.size := hC56.size
    have hE56 : Ext w w56 := hC56.below hE55 (fun c hc => by have := hF56 _ hc; omega) hE55.size
    have hF57 := hF51x55.chg ((good_owS (good_oFn 94 6))) hC56 (fun c hc => by have := hF56 _ hc; omega)
    have hF58 := hs49x55.chg hC56 (fun c hc => by have := hF56 _ hc; omega)
    have hF59 := hF52x55.chg hC56 (fun hm => by have := hF56 _ hm; omega)
    have hF60 := hF53x55.chg hC56 (fun hm => by have := hF56 _ hm; omega)
    have hF61 := hF54x55.chg hC56 (fun hm => by have := hF56 _ hm; omega)
    have hF62 := hB49x55.chg hC56 (fun hm => by have := hF56 _ hm; omega)
    refine q_fldP (p := (.pointer (some ⟨w15.heap.size, 0, none⟩))) (b := w15.heap.size) (o := 0) 2 fd80_2 rfl rfl zN (e_setB (k := 2) (w := w56) sz78 rfl rfl (isSl_one hO56.isSlS) hF61 sM zN fun w63 hC63 hz63 hB63 => ?_)
    replace hB63 : BX w63.heap w15.heap.size [(.string (⟨#[102, 105, 101, 108, 100]⟩)), (.int .i64 (((1 : Nat) : Int) + x15_0)), v56] := hB63
    have hzs63 : w56.heap.size ≤ w63.heap.size := hC63.size
    have hE63 : Ext w w63 := hC63.below hE56 (fun c hc => by have := List.mem_singleton.1 hc; omega) hE56.size
    have hF64 := hF57.chg ((good_owS (good_oFn 94 6))) hC63 (fun c hc => by have := List.mem_singleton.1 hc; omega)
    have hF65 := hF58.chg hC63 (fun c hc => by have := List.mem_singleton.1 hc; omega)
    have hF66 := hF59.chg hC63 (fun hm => by have := List.mem_singleton.1 hm; omega)
    have hF67 := hF60.chg hC63 (fun hm => by have := List.mem_singleton.1 hm; omega)
    have hF68 := hF62.chg hC63 (fun hm => by have := List.mem_singleton.1 hm; omega)
    have hF69 := hO56.chg ((good_owS (good_oEx 94 6))) hC63 (fun c hc => by have := List.mem_singleton.1 hc; omega)
    exact lw_nil (wp_plain _ [0, 0, 0] rfl (lw_tv 1 rfl (q_add ((i + 1 : Nat) : Int) rfl rfl (w64n oM oM) zN (lw_tvn 1 rfl ⟨((i + 1), v56, (xs ++ [x49]), n49), _, rfl, ⟨rfl, rfl, rfl, rfl, rfl, rfl, rfl, trivial⟩, ⟨hE63, hF69.up (good_owS (good_oEx 94 6)), hF64, hF65, hF66, hF67, hB63, oM, (by exact (hff.snoc (funcs := ((p7.length : Nat) : Int)) (d := 3) (l0 := 6) oM oM oM (GOk.npl (by assumption)))), oM, oM, oM, oM, oM, oM, oM, oM, oM⟩, by first | omega | (dsimp only; omega)⟩))))
  ·
    refine q_lss false rfl rfl (decide_eq_false hc37) zN (lw_nil (c_cond_f rfl (wp_exit (t_exit (t_exit (c_exit_here (wp_seq (wp_plain _ [0, 2, 2, 3, 4, 0, 4] rfl (q_fldP (p := (.pointer (some ⟨w7.heap.size, 0, none⟩))) (b := w7.heap.size) (o := 0) 0 fd32_0 rfl rfl zN (q_load (p := (padd (.pointer (some ⟨w7.heap.size, 0, none⟩)) 0)) (.inr rfl) v7 one30 rfl (hL31_4.ldp (i := 0) sM) zN (q_loadA (p := (.pointer (some ⟨w15.heap.size, 0, none⟩))) (.inr rfl) [(.string (⟨#[102, 105, 101, 108, 100]⟩)), (.int .i64 (((1 : Nat) : Int) + x15_0)), vo] agg80 rfl (fun w9 hw9 => LD.of_box (BX.ext (w := w31) hL31_5 hw9)) rfl zN ?_)))))))))))
    refine r_oneS (cs := [(.string (⟨#[102, 105, 101, 108, 100]⟩)), (.int .i64 (((1 : Nat) : Int) + x15_0)), vo]) (y := (Fn.mk (⟨#[102, 105, 101, 108, 100]⟩) (((1 : Nat) : Int) + x15_0) xs)) (B := w23.heap.size) (good_oFn 94 6) u30 tiS80 rfl (by decide) rfl (FrN.mkF (x := ⟨(⟨#[102, 105, 101, 108, 100]⟩), (((1 : Nat) : Int) + x15_0), xs⟩) (i64_mk (a := (((1 : Nat) : Int) + x15_0)) oM) hL31_0) oM zN fun v70 w70 hX70 hz70 hO70 => ?_
    have hzs70 : w31.heap.size ≤ w70.heap.size := hX70.size
    have hE70 : Ext w w70 := hE31.trans hX70
    have hL31_1x70 := hL31_1.ext ((good_owS (good_oFn 94 6))) hX70
    have hL31_2x70 := hL31_2.ext hX70
    have hL31_3x70 := hL31_3.ext hX70
    have hL31_4x70 := hL31_4.ext hX70
    have hL31_5x70 := hL31_5.ext hX70
    refine e_appQ (v := v7) (a := v70) (good_oFn 94 6) u30 tiS80 rfl (by decide) rfl rfl hL31_1x70 hO70 oM oM (by unfold maxLen; omega) zN fun v71 w71 F71 hC71 hF71 hO71 => ?_
    have hzs71 : w70.heap.size ≤ w71.heap.size := hC71.size
    have hE71 : Ext w w71 := hC71.below hE70 (fun c hc => by have := hF71 _ hc; omega) hE70.size
    have hF72 := hL31_2x70.chg hC71 (fun c hc => by have := hF71 _ hc; omega)
    have hF73 := hL31_3x70.chg hC71 (fun hm => by have := hF71 _ hm; omega)
    have hF74 := hL31_4x70.chg hC71 (fun hm => by have := hF71 _ hm; omega)
    have hF75 := hL31_5x70.chg hC71 (fun hm => by have := hF71 _ hm; omega)
    refine q_fldP (p := (.pointer (some ⟨w7.heap.size, 0, none⟩))) (b := w7.heap.size) (o := 0) 0 fd32_0 rfl rfl zN (e_setB (k := 0) (w := w71) sz30 rfl rfl (isSl_one (FrP.isSlS hO71)) hF74 sM zN fun w76 hC76 hz76 hB76 => ?_)
    replace hB76 : BX w76.heap w7.heap.size [v71] := hB76
    have hzs76 : w71.heap.size ≤ w76.heap.size := hC76.size
    have hE76 : Ext w w76 := hC76.below hE71 (fun c hc => by have := List.mem_singleton.1 hc; omega) hE71.size
    have hF77 := hF72.chg hC76 (fun c hc => by have := List.mem_singleton.1 hc; omega)
    have hF78 := hF73.chg hC76 (fun hm => by have := List.mem_singleton.1 hm; omega)
    have hF79 := hF75.chg hC76 (fun hm => by have := List.mem_singleton.1 hm; omega)
    have hF80 := hO71.chg (good_owS (good_oFn 94 6)) hC76 (fun c hc => by have := List.mem_singleton.1 hc; omega)
    have hF81 := hF80.fr (good_owS (good_oFn 94 6)) (B := w5.heap.size) (fun b hb => by omega)
    refine lw_nil (wp_seq (wp_plain _ [0, 0, 4, 0] rfl (lw_tv 2 rfl (lw_callE 75 [] [] [(.pointer (some ⟨gB2, 0, none⟩)), (.int .i64 (((1 : Nat) : Int) + x15_0))] rfl rfl cf75 zN (c_spec_l01Draw _ gB2 _ _ _ (((1 : Nat) : Int) + x15_0) hF77 oM oM oM) ?_))))
    rintro e82 w82 ⟨v82_0, x82_0, n82, rfl, hC82, hs82, hb82, hO82_0, hp82_0⟩
    refine ⟨_, rfl, ?_⟩
    have hzs82 : w76.heap.size ≤ w82.heap.size := hC82.size
    have hE82 : Ext w w82 := hC82.below hE76 (fun c hc => by have := List.mem_singleton.1 hc; omega) hE76.size
    have hF83 := hF78.chg hC82 (fun hm => by have := List.mem_singleton.1 hm; omega)
    have hF84 := hB76.chg hC82 (fun hm => by have := List.mem_singleton.1 hm; omega)
    have hF85 := hF79.chg hC82 (fun hm => by have := List.mem_singleton.1 hm; omega)
    have hF86 := hF81.chg ((good_owS (good_oFn 94 6))) hC82 (fun c hc => by have := List.mem_singleton.1 hc; omega)
    have hst := hp82_0
    refine lw_tvn 1 rfl (wp_seq (wp_plain _ [0, 0, 4, 0] rfl (lw_tv 2 rfl (lw_callE 75 [] [] [(.pointer (some ⟨gB2, 0, none⟩)), (.int .i64 (((1 : Nat) : Int) + x15_0))] rfl rfl cf75 zN (c_spec_l01Draw _ gB2 _ _ _ (((1 : Nat) : Int) + x15_0) hs82 oM oM oM) ?_))))
    rintro e87 w87 ⟨v87_0, x87_0, n87, rfl, hC87, hs87, hb87, hO87_0, hp87_0⟩
    refine ⟨_, rfl, ?_⟩
    have hzs87 : w82.heap.size ≤ w87.heap.size := hC87.size
    have hE87 : Ext w w87 := hC87.below hE82 (fun c hc => by have := List.mem_singleton.1 hc; omega) hE82.size
    have hF88 := hF83.chg hC87 (fun hm => by have := List.mem_singleton.1 hm; omega)
    have hF89 := hF84.chg hC87 (fun hm => by have := List.mem_singleton.1 hm; omega)
    have hF90 := hF85.chg hC87 (fun hm => by have := List.mem_singleton.1 hm; omega)
    have hF91 := hF86.chg ((good_owS (good_oFn 94 6))) hC87 (fun c hc => by have := List.mem_singleton.1 hc; omega)
    have hF92 := hO82_0.chg (o1) hC87 (fun c hc => by have := List.mem_singleton.1 hc; omega)
    refine lw_tvn 1 rfl (wp_seq (wp_plain _ [0, 0, 4, 0] rfl (lw_tv 2 rfl (lw_callE 75 [] [] [(.pointer (some ⟨gB2, 0, none⟩)), (.int .i64 (((1 : Nat) : Int) + x15_0))] rfl rfl cf75 zN (c_spec_l01Draw _ gB2 _ _ _ (((1 : Nat) : Int) + x15_0) hs87 oM oM oM) ?_))))
    rintro e93 w93 ⟨v93_0, x93_0, n93, rfl, hC93, hs93, hb93, hO93_0, hp93_0⟩
    refine ⟨_, rfl, ?_⟩
    have hzs93 : w87.heap.size ≤ w93.heap.size := hC93.size
    have hE93 : Ext w w93 := hC93.below hE87 (fun c hc => by have := List.mem_singleton.1 hc; omega) hE87.size
    have hF94 := hF88.chg hC93 (fun hm => by have := List.mem_singleton.1 hm; omega)
    have hF95 := hF89.chg hC93 (fun hm => by have := List.mem_singleton.1 hm; omega)
    have hF96 := hF90.chg hC93 (fun hm => by have := List.mem_singleton.1 hm; omega)
    have hF97 := hF91.chg ((good_owS (good_oFn 94 6))) hC93 (fun c hc => by have := List.mem_singleton.1 hc; omega)
    have hF98 := hF92.chg (o1) hC93 (fun c hc => by have := List.mem_singleton.1 hc; omega)
    have hF99 := hO87_0.chg (o1) hC93 (fun c hc => by have := List.mem_singleton.1 hc; omega)
    refine lw_tvn 1 rfl (wp_seq (wp_plain _ [2, 0, 0, 0, 0, 4, 0, 0, 0, 0] rfl (q_loadA (p := (.pointer (some ⟨w7.heap.size, 0, none⟩))) (.inr rfl) [v71] agg32 rfl (fun w9 hw9 => LD.of_box (BX.ext (w := w93) hF95 hw9)) rfl zN (lw_tv 4 rfl (e_setA (vs := [v71]) agg32 rfl rfl (by intro u hu; simp only [List.mem_cons, List.not_mem_nil, or_false] at hu; rcases hu with rfl <;> first | exact ⟨rfl, rfl⟩ | exact isSl_one hF97.isSlS) hF94 rfl rfl zN fun w100 hC100 hz100 hB100 => ?_)))))
    replace hB100 : BX w100.heap w.heap.size [v71] := hB100
    have hzs100 : w93.heap.size ≤ w100.heap.size := hC100.size
    have hE100 : Ext w w100 := hC100.below hE93 (fun c hc => by have := List.mem_singleton.1 hc; omega) hE93.size
    have hF101 := hF95.chg hC100 (fun hm => by have := List.mem_singleton.1 hm; omega)
    have hF102 := hF96.chg hC100 (fun hm => by have := List.mem_singleton.1 hm; omega)
    have hF103 := hF97.chg ((good_owS (good_oFn 94 6))) hC100 (fun c hc => by have := List.mem_singleton.1 hc; omega)
    have hF104 := hF98.chg (o1) hC100 (fun c hc => by have := List.mem_singleton.1 hc; omega)
    have hF105 := hF99.chg (o1) hC100 (fun c hc => by have := List.mem_singleton.1 hc; omega)
    have hF106 := hO93_0.chg (o1) hC100 (fun c hc => by have := List.mem_singleton.1 hc; omega)
    refine lw_tvn 4 rfl (wp_ret ?_)
    exact post_retC (t0 := 3) (ts := [4, 5, 6]) (cs := [v71]) [(.int .i64 ((p7.length : Nat) : Int)), v82_0, v87_0, v93_0] rfl agg32 rfl hB100 rfl rfl ⟨v71, v82_0, v87_0, v93_0, (p7 ++ [(Fn.mk (⟨#[102, 105, 101, 108, 100]⟩) (((1 : Nat) : Int) + x15_0) xs)]), ((p7.length : Nat) : Int), x82_0, x87_0, x93_0, rfl, hE100, ((hF103.up (good_owS (good_oFn 94 6))).low (B' := w.heap.size) oM), ((hF104.up o1).low (B' := w.heap.size) oM), ((hF105.up o1).low (B' := w.heap.size) oM), ((hF106.up o1).low (B' := w.heap.size) oM), (by exact FldD.mk' (i := i) hdp hdn oM ⟨by show 1 ≤ (((1 : Nat) : Int) + x15_0); omega, by show (((1 : Nat) : Int) + x15_0) ≤ 3; omega⟩ hff (by show _ = (((1 : Nat) : Int) + x15_0); omega) (by show ((⟨#[102, 105, 101, 108, 100]⟩) : ByteArray) ∈ fixN; unfold fixN; simp) oM (by show _ = (((1 : Nat) : Int) + x15_0); omega) hst.2)⟩
end Go.Proofs.YtnofbmdpabcjaaaGreat
