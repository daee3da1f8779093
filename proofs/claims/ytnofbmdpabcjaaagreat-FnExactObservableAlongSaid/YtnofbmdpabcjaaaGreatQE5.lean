/- Vo, Wa, Wb, Wc, FwZ, Gb: texts of this claim, joined; what the claim does not come to is left out. -/
import Derived.Test.YtnofbmdpabcjaaaGreatQE4
import Derived.Test.YtnofbmdpabcjaaaGreatProg
import Derived.Deep.Strs
set_option linter.unusedVariables false
set_option linter.unusedSimpArgs false
namespace Go.Proofs.YtnofbmdpabcjaaaGreat
open Go Go.RowKit
set_option linter.unusedVariables false
set_option linter.unusedSimpArgs false
set_option maxHeartbeats 4000000
set_option maxRecDepth 100000
attribute [local irreducible] LW
theorem s_value : ∀ F d, SV F d := by
  intro F
  induction F using Nat.strongRecOn with
  | _ F ihF =>
    intro d
    induction d using Nat.strongRecOn with
    | _ d ihd =>
      intro w S g pp dp n s0 c0 p ve ex vv env hS hgS hB0 hp hn hs0 hc0 hex henv hqenv hvp hF hwf hse hdp
      exact c_spec_l02Run_expr w S F g pp dp n s0 c0 p d ve ex vv env hS hgS hB0 hp hn hs0 hc0 hex henv hqenv hvp hF hwf hse hdp ihF ihd
theorem s_outs (F : Nat) : SO F := c_outs F fun d => s_value F d
theorem c_spec_l03Eval (w : World) (dp : Nat) (vp : Value) (p : List Fn) (f : Int) (va : Value) (a : List (List Int)) (n : Nat) (hp : RN [] (rP (rPr dp)) w.heap vp p) (_hf : -9223372036854775808 ≤ f ∧ f ≤ 9223372036854775807) (ha : RN [] (rdL (rdL rI)) w.heap va a) (hqa : CapS va) (hvp : VPr p) (hf : 0 ≤ f ∧ f < ((p.length :Nat):Int)) (hl : ((a.length :Nat):Int) = (p.getD f.toNat Fn.zero).params) (hse : SrE n a) (hn : 1 ≤ n ∧ n ≤ 13) :
  Calls Tryz.prog 65 #[vp,.int .i64 f,va,.int .i64 ((n :Nat):Int)] w (fun e w' => ∃ v0 : Value,e = .returned (.tuple #[v0,.int .i64 (evD p n f.toNat a)]) ∧ Ext w w' ∧ Fr (owL (owL rI 2) 25) w.heap.size w'.heap.size w'.heap v0 (evR p n f.toNat a) ∧ EvP p n f.toNat a) := by
 refine calls_mk [vp,.int .i64 f,va,.int .i64 ((n :Nat):Int)] 53 Tryz.func65 rfl rfl sM ?_
 have hE0 : Ext w w := Ext.refl w
 have hl_va := ha.lenL
 unfold maxLen at hl_va
 refine wp_seq (wp_plain _ [0,0] rfl (lw_tvn 2 rfl (wp_seq (wp_plain _ [0,0,0,3,0] rfl (lw_tv 2 rfl ?_)))))
 have hbd1 : ∀ (vp : Value) (hp1_0 : ∃ b o,vp = .pointer (some ⟨b,o,none⟩)) (wq : World),(Instr.build 123 #[(0,vp),(1,(.int .i64 ((n :Nat):Int)))]).run Tryz.prog wq = .ok (.agg #[vp,(.int .i64 ((n :Nat):Int)),(.int .i64 0),(.int .i64 0)]) wq := by intro vp hp1_0 wq; obtain ⟨b0,o0,rfl⟩ := hp1_0;kernel_rfl
 refine q_build (ps := #[(0,vp),(1,(.int .i64 ((n :Nat):Int)))]) (.agg #[vp,(.int .i64 ((n :Nat):Int)),(.int .i64 0),(.int .i64 0)]) (by simp only [List.map_toArray,List.map_cons,List.map_nil]; rfl) (fun wq => hbd1 vp hp.isPtr wq) zN (r_boxA (cs := #[vp,(.int .i64 ((n :Nat):Int)),(.int .i64 0),(.int .i64 0)]) rfl zN fun w2 hX2 hz2 hB2 => ?_)
 have hzs2:=hX2.size
 have hE2:=hE0.trans hX2
 replace hB2 : BX w2.heap w.heap.size [vp,(.int .i64 ((n :Nat):Int)),(.int .i64 0),(.int .i64 0)] := hB2
 refine lw_tvn 1 rfl (wp_seq (wp_plain _ [0,0,0,0,2,0,0,0,4,0] rfl ?_))
 have hpr := hvp.par f.toNat oM
 have hou := hvp.outs f.toNat oM
 have hle : a.length = a.length := rfl
 refine lw_tv 2 rfl (q_nilP (hp.isPtr) rfl zN ?_)
 obtain ⟨cs3,hr3,hl3⟩ := RN.at (good_rPr _) hp
 obtain ⟨ve3,rfl,hx3⟩ := RPr.of hr3
 have hln3 := hx3.lenle
 unfold maxLen at hln3
 refine q_fldL (p := vp) 0 fd32_0 rfl (hl3 _ (Chg.of_ext [] hE2)) zN (q_load (p := (padd vp 0)) (.inr rfl) ve3 one30 rfl ((hl3 _ (Chg.of_ext [] hE2)).ld (i := 0) (by simp [exC,fnC])) zN (lw_tv 1 rfl (q_idx (v := ve3) ((f).toNat) u30 tiS80 rfl rfl hx3.isSl oM sD zN (lw_tv 1 rfl ?_))))
 refine lw_callE 102 [] [] [(.pointer (some ⟨w.heap.size,0,none⟩)),(eptr ve3 ((f).toNat) 3),va] rfl rfl cf102 zN (s_outs f.toNat _ [w.heap.size] w.heap.size vp dp (n) (0) (0) (p) dp (eptr ve3 ((f).toNat) 3) (p.getD ((f).toNat) Fn.zero) va (a) (fun b hb => (by have := List.mem_singleton.1 hb; omega : b < w2.heap.size)) (List.mem_singleton.2 rfl) hB2 ((hp.add (F := [w.heap.size]) (good_rP (good_rPr dp)) (fun b hb => by have := List.mem_singleton.1 hb; omega)).ext (good_rP (good_rPr dp)) hE2) oM oM oM (RN.ptr (good_rFn dp) (by decide) Fn.zero ((hx3.add (F := [w.heap.size]) (good_rdS (good_rFn dp)) (fun b hb => by have := List.mem_singleton.1 hb; omega)).ext (good_rdS (good_rFn dp)) hE2) sD) ((ha.add (F := [w.heap.size]) g2 (fun b hb => by have := List.mem_singleton.1 hb; omega)).ext g2 hE2) hqa (by exact hvp) oM (by intro k9 hk9; have h9 := hvp.wf f.toNat oM k9 hk9; rw [hle]; rw [hl]; exact h9) (by exact hse) (by intro k9 hk9; have := hvp.deep f.toNat oM k9 hk9; omega) oM) ?_
 rintro e4 w4 ⟨v4,x4,s4,c4,rfl,hC4,hB4,hr4,hse4,hsb4,hcb4,hrl4⟩
 refine ⟨_,rfl,?_⟩
 have hzs4:=hC4.size
 have hE4 : Ext w w4 := hC4.below hE2 (fun b hb => by have : b = w.heap.size := (by simpa using hb); omega) hE2.size
 have hsn4 := hse4.2.1
 have hsr4 := hse4.2.2
 have hcp4 := hse4.1
 have hrt4 := hr4.rt g2
 have hRL := hrl4
 have hCB := hcb4
 have hEP := EvP.mk' hRL hCB hsb4 hsn4 hsr4
 have hXS := hsr4
 have hXL := hsn4
 refine lw_tvn 1 rfl (wp_seq (wp_seq (wp_plain _ [0,0,0,2,0] rfl (lw_tv 1 rfl (q_nil rfl zN (q_fldP (p := (.pointer (some ⟨w.heap.size,0,none⟩))) (b := w.heap.size) (o := 0) 3 fd123_3 rfl rfl zN (q_load (p := (padd (.pointer (some ⟨w.heap.size,0,none⟩)) 3)) (.inr rfl) (.int .i64 c4) one2 rfl (hB4.ldp (i := 3) sM) zN ?_)))))))
 by_cases hc8 : c4 ≠ ((0 :Nat):Int)
 ·
  refine q_neq true rfl rfl (decide_eq_true hc8) zN (lw_nil (c_cond_t rfl (wp_seq (wp_draw _ [3,0,0,0,1,0,0] mixed (by kernel_rfl) (r_nil (owL rI 2) o1 u27 ti25 zN fun v9 w9 hX9 hz9 hO9 => ?_)))))
  replace hX9 := hX9.of_drew
  have hzs9:=hX9.size
  have hE9:=hE4.trans hX9
  have hB4x9 := hB4.ext hX9
  have hN10 := hrt4.ext g2 hX9
  exact lw_tv 1 rfl (q_nil rfl zN (q_fldP (p := (.pointer (some ⟨w.heap.size,0,none⟩))) (b := w.heap.size) (o := 0) 3 fd123_3 rfl rfl zN (q_load (p := (padd (.pointer (some ⟨w.heap.size,0,none⟩)) 3)) (.inl rfl) (.int .i64 c4) one2 rfl (hB4.ldp (i := 3) sM) zN (lw_tvn 2 rfl (wp_ret (t_ret (post_ret [8,9] rfl (.tuple #[v9,(.int .i64 c4)]) rfl ⟨v9,(by rw [evD_e (ev_err hRL oM)] <;> rfl),hE9,(by rw [evR_e (ev_err hRL oM)]; exact (hO9.up o2).low hE4.size),hEP⟩)))))))
 ·
  refine q_neq false rfl rfl (decide_eq_false hc8) zN (lw_nil (c_cond_f rfl (wp_skip (wp_seq (wp_plain _ [3,0] rfl (r_nil (owL rI 2) o1 u27 ti25 zN fun v11 w11 hX11 hz11 hO11 => ?_))))))
  have hzs11:=hX11.size
  have hE11:=hE4.trans hX11
  have hB4x11 := hB4.ext hX11
  have hN12 := hrt4.ext g2 hX11
  refine lw_tvn 1 rfl (wp_seq (wp_seq (wp_plain _ [0] rfl (lw_tvn 1 rfl (wp_block ?_)))))
  refine c_loop (S := Nat × Value) (fun (⟨k,vo⟩ : Nat × Value) => ([(12,vo),(13,(.int .i64 ((k :Nat):Int))),(11,v4)] : List (Nat × Value))) (fun (⟨k,vo⟩ : Nat × Value) (W : World) => Ext w W ∧ Fr (owL (owL rI 2) 25) w4.heap.size W.heap.size W.heap vo ((x4).take k) ∧ k ≤ (x4).length ∧ RT w4.heap.size (rdL (rdL rI)) W.heap v4 x4 ∧ w4.heap.size ≤ W.heap.size ∧ w4.heap.size ≤ w4.heap.size ∧ w4.heap.size ≤ W.heap.size) (fun (⟨k,vo⟩ : Nat × Value) => (x4).length - k) (0,v11) ⟨rfl,rfl,rfl,trivial⟩ ⟨hE11,hO11.up o2,sD,(by assumption),oM,oM,oM⟩ ?_
  clear hE0 hz2 hX2 hzs2 hE2 hln3 hC4 hO11 hz11 hX11 hzs11 hE11
  rintro ⟨k,vo⟩ ρ16 w16 ⟨hE16,hL16_0,hp16_0,hrk13,hkB14,hkt15,hkB17⟩
  have hzs16 : w.heap.size ≤ w16.heap.size := hE16.size
  refine wp_seq (wp_seq (wp_plain _ [0,0,0,0] rfl (lw_tv 2 rfl (q_len (v := v4) u27 rfl hrk13.slL zN ?_))))
  by_cases hc18 : ((k :Nat):Int) < ((x4.length :Nat):Int)
  ·
   refine q_lss true rfl rfl (decide_eq_true hc18) zN (lw_nil (c_cond_t rfl (wp_skip (wp_seq (wp_block (wp_plain _ [0,0,0,0,2,3,3,4,0] rfl ?_))))))
   have hkx := hXS k oM
   have hkl := hkx.1
   refine lw_tv 3 rfl (q_idx (v := v4) k u27 ti25 rfl rfl hrk13.slL rfl sD zN ?_)
   obtain ⟨ue19,hl19,hr19⟩ := RT.getL g1 [] (k := k) hrk13 sD
   have hln19 := hr19.lenL
   unfold maxLen at hln19
   refine q_load (p := eptr v4 k 1) (.inr rfl) ue19 one25 rfl hl19 zN (lw_call 80 [] [] [ue19] rfl rfl cf80 zN (c_spec_l00Own _ _ _ hr19.rd oM) ?_)
   rintro e20 w20 ⟨v20_0,rfl,hX20,hO20_0⟩
   refine ⟨_,rfl,hX20,?_⟩
   have hzs20:=hX20.size
   have hE20:=hE16.trans hX20
   have hL16_0x20 := hL16_0.ext (o2) hX20
   have hN21 := hrk13.ext g2 hX20
   have hN22 := hr19.ext g1 hX20
   refine r_one (u := v20_0) (B := w16.heap.size) o1 u27 ti25 rfl rfl hO20_0 (by first | exact Nat.le_refl _ | omega) zN fun v23 w23 hX23 hz23 hO23 => ?_
   have hzs23:=hX23.size
   have hE23:=hE20.trans hX23
   have hL16_0x23 := hL16_0x20.ext (o2) hX23
   have hN24 := hN21.ext g2 hX23
   have hN25 := hN22.ext g1 hX23
   refine e_appF o1 (v := vo) (a := v23) u27 ti25 rfl rfl rfl hL16_0x23 oM hO23 oM oM sD (by unfold maxLen; first | omega | assumption | (simp; done) | (simp; omega)) zN fun v26 w26 F26 hC26 hF26 hO26 => ?_
   have hE26 : Ext w w26 := hC26.below hE23 (fun c hc => Nat.le_trans hE4.size (hF26 c hc).1) hE23.size
   have hzs26:=hC26.size
   have hN27 := hN24.chg g2 hC26 (fun c hc => by have := hF26 c hc; omega)
   have hN28 := hN25.chg g1 hC26 (fun c hc => by have := hF26 c hc; omega)
   refine lw_tvn 1 rfl (wp_plain _ [0,0,0] rfl (lw_tv 1 rfl (q_add ((k + 1 :Nat):Int) rfl rfl (w64n oM sD) zN (lw_tvn 1 rfl ?_))))
   exact ⟨((k + 1),v26),_,rfl,⟨rfl,rfl,rfl,trivial⟩,⟨hE26,(by rw [take_snoc [] oM]; exact hO26.up o2),sD,(by assumption),oM,oM,oM⟩,by first | omega | (dsimp only; omega)⟩
  ·
   exact q_lss false rfl rfl (decide_eq_false hc18) zN (lw_nil (c_cond_f rfl (wp_exit (t_exit (t_exit (c_exit_here (wp_seq (wp_plain _ [0,0,0] rfl (lw_tvn 3 rfl (wp_ret (post_ret [8,9] rfl (.tuple #[vo,(.int .i64 ((0 :Nat):Int))]) rfl ⟨vo,(by rw [evD_o (ev_ok hRL oM)] <;> rfl),hE16,(by have h := (hL16_0.up o2).low hE4.size; rw [evR_o (ev_ok hRL oM)]; rwa [List.take_of_length_le oM] at h),hEP⟩)))))))))))
theorem z81_0 {p : Prop} (h : p := by unfold maxLen; first | omega | assumption | (simp only [List.length_nil, List.length_cons, List.length_append, List.length_set, List.length_replicate]; omega) | (simp [List.length_nil, List.length_cons, List.length_append, List.length_set, List.length_replicate]; done) | (simp [List.length_nil, List.length_cons, List.length_append, List.length_set, List.length_replicate]; omega)) : p := h
theorem c_spec_l02Eval (w : World) (dp : Nat) (vp : Value) (p : List Fn) (f : Int) (va : Value) (a : List Int) (hp : RN [] (rP (rPr dp)) w.heap vp p) (_hf : -9223372036854775808 ≤ f ∧ f ≤ 9223372036854775807) (ha : Rd (rdL rI) w.heap va a) (hvp : VPr p) (hf : 0 ≤ f ∧ f < ((p.length :Nat):Int)) (hl : ((a.length :Nat):Int) = (p.getD f.toNat Fn.zero).params) (hna : allN a = true) :
  Calls Tryz.prog 81 #[vp,.int .i64 f,va] w (fun e w' => ∃ v0 : Value,e = .returned (.tuple #[v0,.int .i64 ((evT p 1 f.toNat (sing a) :Nat):Int),.int .i64 (nxC p f.toNat a)]) ∧ Ext w w' ∧ Fr (owL rI 2) w.heap.size w'.heap.size w'.heap v0 (nxR p f.toNat a) ∧ NxP p f.toNat a ∧ evT p 1 f.toNat (sing a) ≤ 3000) := by
 refine calls_mk [vp,.int .i64 f,va] 73 Tryz.func81 rfl rfl sM ?_
 have hE0 : Ext w w := Ext.refl w
 have hl_va := ha.lenle
 have hpr := hvp.par f.toNat oM
 have hou := hvp.outs f.toNat oM
 refine wp_seq (wp_plain _ [0,0,0] rfl (lw_tvn 3 rfl (wp_seq (wp_plain _ [0,0,3,0] rfl (lw_tv 1 rfl ?_)))))
 have hbd1 : ∀ (vp : Value) (hp1_0 : ∃ b o,vp = .pointer (some ⟨b,o,none⟩)) (wq : World),(Instr.build 123 #[(0,vp),(1,(.int .i64 ((1 :Nat):Int)))]).run Tryz.prog wq = .ok (.agg #[vp,(.int .i64 ((1 :Nat):Int)),(.int .i64 0),(.int .i64 0)]) wq := by intro vp hp1_0 wq; obtain ⟨b0,o0,rfl⟩ := hp1_0;kernel_rfl
 refine q_build (ps := #[(0,vp),(1,(.int .i64 ((1 :Nat):Int)))]) (.agg #[vp,(.int .i64 ((1 :Nat):Int)),(.int .i64 0),(.int .i64 0)]) (by simp only [List.map_toArray,List.map_cons,List.map_nil]; rfl) (fun wq => hbd1 vp hp.isPtr wq) zN (r_boxA (cs := #[vp,(.int .i64 ((1 :Nat):Int)),(.int .i64 0),(.int .i64 0)]) rfl zN fun w2 hX2 hz2 hB2 => ?_)
 have hzs2:=hX2.size
 have hE2:=hE0.trans hX2
 replace hB2 : BX w2.heap w.heap.size [vp,(.int .i64 ((1 :Nat):Int)),(.int .i64 0),(.int .i64 0)] := hB2
 refine lw_tvn 1 rfl (wp_seq (wp_plain _ [3,0] rfl (r_nil (owL rI 2) o1 u27 ti25 zN fun v3 w3 hX3 hz3 hO3 => ?_)))
 have hzs3:=hX3.size
 have hE3:=hE2.trans hX3
 have hB2x3 := hB2.ext hX3
 refine lw_tvn 1 rfl (wp_seq (wp_seq (wp_plain _ [0] rfl (lw_tvn 1 rfl (wp_block ?_)))))
 refine c_loop (S := Nat × Value) (fun (⟨k,vo⟩ : Nat × Value) => ([(10,vo),(11,(.int .i64 ((k :Nat):Int))),(0,vp),(1,(.int .i64 f)),(2,va),(9,(.pointer (some ⟨w.heap.size,0,none⟩)))] : List (Nat × Value))) (fun (⟨k,vo⟩ : Nat × Value) (W : World) => Ext w W ∧ Fr (owL (owL rI 2) 25) w2.heap.size W.heap.size W.heap vo ((a.take k).map (fun x => [x])) ∧ BX W.heap w.heap.size [vp,(.int .i64 ((1 :Nat):Int)),(.int .i64 0),(.int .i64 0)] ∧ k ≤ a.length ∧ w.heap.size < w2.heap.size ∧ w2.heap.size ≤ W.heap.size) (fun (⟨k,vo⟩ : Nat × Value) => a.length - k) (0,v3) ⟨rfl,rfl,rfl,rfl,rfl,rfl,trivial⟩ ⟨hE3,hO3.up o2,hB2x3,sD,oM,oM⟩ ?_
 clear hE0 hz2 hX2 hO3 hz3 hX3 hzs3 hE3
 rintro ⟨k,vo⟩ ρ5 w5 ⟨hE5,hL5_0,hL5_1,hp5_0,hkg4,hkB6⟩
 have hzs5 : w.heap.size ≤ w5.heap.size := hE5.size
 have hq7 := hL5_1.lt
 refine wp_seq (wp_seq (wp_plain _ [0,0,0,0] rfl (lw_tv 2 rfl (q_len (v := va) u25 rfl ha.isSl zN ?_))))
 by_cases hc8 : ((k :Nat):Int) < ((a.length :Nat):Int)
 ·
  refine q_lss true rfl rfl (decide_eq_true hc8) zN (lw_nil (c_cond_t rfl (wp_skip (wp_seq (wp_block (wp_plain _ [0,0,0,0,2,3,3,4,0] rfl (lw_tv 3 rfl (q_idx (v := va) k u25 ti2 rfl rfl ha.isSl rfl sD zN ?_))))))))
  refine q_load (p := eptr va k 1) (.inr rfl) (.int .i64 (a.getD k 0)) one2 rfl (ldH_ext hE5 (ha.getI sD).1) zN ?_
  refine r_one (u := (.int .i64 (a.getD k 0))) (B := w5.heap.size) good_rI u25 ti2 rfl rfl (frI w5.heap.size w5.heap.size _ _ (ha.getI sD).2) (Nat.le_refl _) zN fun v9 w9 hX9 hz9 hO9 => ?_
  have hzs9:=hX9.size
  have hE9:=hE5.trans hX9
  have hL5_0x9 := hL5_0.ext (o2) hX9
  have hL5_1x9 := hL5_1.ext hX9
  refine r_one (u := v9) (B := w5.heap.size) o1 u27 ti25 rfl rfl hO9 (by first | exact Nat.le_refl _ | omega) zN fun v10 w10 hX10 hz10 hO10 => ?_
  have hzs10:=hX10.size
  have hE10:=hE9.trans hX10
  have hL5_0x10 := hL5_0x9.ext (o2) hX10
  have hL5_1x10 := hL5_1x9.ext hX10
  refine e_appF o1 (v := vo) (a := v10) u27 ti25 rfl rfl rfl hL5_0x10 oM hO10 oM oM sD z81_0 zN fun v11 w11 F11 hC11 hF11 hO11 => ?_
  have hE11 : Ext w w11 := hC11.below hE10 (fun c hc => Nat.le_trans hE2.size (hF11 c hc).1) hE10.size
  have hzs11:=hC11.size
  have hF12 := hL5_1x10.chg hC11 (fun hm => by have := hF11 _ hm; omega)
  refine lw_tvn 1 rfl (wp_plain _ [0,0,0] rfl (lw_tv 1 rfl (q_add ((k + 1 :Nat):Int) rfl rfl (w64n oM sD) zN (lw_tvn 1 rfl ?_))))
  exact ⟨((k + 1),v11),_,rfl,⟨rfl,rfl,rfl,rfl,rfl,rfl,trivial⟩,⟨hE11,(by rw [map_snoc 0 oM]; exact hO11.up o2),hF12,sD,oM,oM⟩,by first | omega | (dsimp only; omega)⟩
 ·
  refine q_lss false rfl rfl (decide_eq_false hc8) zN (lw_nil (c_cond_f rfl (wp_exit (t_exit (t_exit (c_exit_here (wp_seq (wp_plain _ [0,0,0,0,2,0,0,0,4,0] rfl ?_))))))))
  have henv : (a.take k).map (fun x => [x]) = sing a := by rw [List.take_of_length_le oM]; rfl
  have hle : ((a.take k).map (fun x => [x])).length = a.length := by rw [henv]; unfold sing; rw [List.length_map]
  refine lw_tv 2 rfl (q_nilP (hp.isPtr) rfl zN ?_)
  obtain ⟨cs13,hr13,hl13⟩ := RN.at (good_rPr _) hp
  obtain ⟨ve13,rfl,hx13⟩ := RPr.of hr13
  have hln13 := hx13.lenle
  unfold maxLen at hln13
  refine q_fldL (p := vp) 0 fd32_0 rfl (hl13 _ (Chg.of_ext [] hE5)) zN (q_load (p := (padd vp 0)) (.inr rfl) ve13 one30 rfl ((hl13 _ (Chg.of_ext [] hE5)).ld (i := 0) (by simp [exC,fnC])) zN (lw_tv 1 rfl (q_idx (v := ve13) ((f).toNat) u30 tiS80 rfl rfl hx13.isSl oM sD zN (lw_tv 1 rfl ?_))))
  refine lw_callE 102 [] [] [(.pointer (some ⟨w.heap.size,0,none⟩)),(eptr ve13 ((f).toNat) 3),vo] rfl rfl cf102 zN (s_outs f.toNat _ [w.heap.size] w.heap.size vp dp (1) (0) (0) (p) dp (eptr ve13 ((f).toNat) 3) (p.getD ((f).toNat) Fn.zero) vo ((a.take k).map (fun x => [x])) (fun b hb => (by have := List.mem_singleton.1 hb; omega : b < w5.heap.size)) (List.mem_singleton.2 rfl) hL5_1 ((hp.add (F := [w.heap.size]) (good_rP (good_rPr dp)) (fun b hb => by have := List.mem_singleton.1 hb; omega)).ext (good_rP (good_rPr dp)) hE5) oM oM oM (RN.ptr (good_rFn dp) (by decide) Fn.zero ((hx13.add (F := [w.heap.size]) (good_rdS (good_rFn dp)) (fun b hb => by have := List.mem_singleton.1 hb; omega)).ext (good_rdS (good_rFn dp)) hE5) sD) (RN.of_fr2 hL5_0 (fun b hb => by have := List.mem_singleton.1 hb; omega)) hL5_0.cap (by exact hvp) oM (by intro k9 hk9; have h9 := hvp.wf f.toNat oM k9 hk9; rw [hle]; rw [hl]; exact h9) (by rw [henv]; exact sing_ser hna) (by intro k9 hk9; have := hvp.deep f.toNat oM k9 hk9; omega) oM) ?_
  rintro e14 w14 ⟨v14,x14,s14,c14,rfl,hC14,hB14,hr14,hse14,hsb14,hcb14,hrl14⟩
  refine ⟨_,rfl,?_⟩
  have hzs14:=hC14.size
  have hE14 : Ext w w14 := hC14.below hE5 (fun b hb => by have : b = w.heap.size := (by simpa using hb); omega) hE5.size
  have hF17 := hL5_0.chg (o2) hC14 (fun c hc => by have := List.mem_singleton.1 hc; omega)
  have hsn14 := hse14.2.1
  have hsr14 := hse14.2.2
  have hcp14 := hse14.1
  have hrt14 := hr14.rt g2
  have hRL := hrl14
  rw [henv] at hRL
  have hCB := hcb14
  have hEP := EvP.mk' hRL hCB hsb14 hsn14 hsr14
  have hNP := NxP.mk' hEP
  have hST := hEP.steps
  have hXS := hsr14
  have hXL := hsn14
  refine lw_tvn 1 rfl (wp_seq (wp_seq (wp_plain _ [0,0,0,2,0] rfl (lw_tv 1 rfl (q_nil rfl zN (q_fldP (p := (.pointer (some ⟨w.heap.size,0,none⟩))) (b := w.heap.size) (o := 0) 3 fd123_3 rfl rfl zN (q_load (p := (padd (.pointer (some ⟨w.heap.size,0,none⟩)) 3)) (.inr rfl) (.int .i64 c14) one2 rfl (hB14.ldp (i := 3) sM) zN ?_)))))))
  by_cases hc19 : c14 ≠ ((0 :Nat):Int)
  ·
   refine q_neq true rfl rfl (decide_eq_true hc19) zN (lw_nil (c_cond_t rfl (wp_seq (wp_draw _ [3,0,0,0,1,0,0,0] mixed (by kernel_rfl) (r_nil (rI) good_rI u25 ti2 zN fun v20 w20 hX20 hz20 hO20 => ?_)))))
   replace hX20 := hX20.of_drew
   have hzs20:=hX20.size
   have hE20:=hE14.trans hX20
   have hF17x20 := hF17.ext (o2) hX20
   have hB14x20 := hB14.ext hX20
   have hN21 := hrt14.ext g2 hX20
   exact lw_tv 1 rfl (q_nil rfl zN (q_fldP (p := (.pointer (some ⟨w.heap.size,0,none⟩))) (b := w.heap.size) (o := 0) 3 fd123_3 rfl rfl zN (q_load (p := (padd (.pointer (some ⟨w.heap.size,0,none⟩)) 3)) (.inl rfl) (.int .i64 c14) one2 rfl (hB14.ldp (i := 3) sM) zN (lw_tvn 3 rfl (wp_ret (t_ret (post_ret [6,7,8] rfl (.tuple #[v20,(.int .i64 ((0 :Nat):Int)),(.int .i64 c14)]) rfl ⟨v20,(by rw [evT_e (ev_err hRL oM),show nxC p f.toNat a = _ from evD_e (ev_err hRL oM)] <;> rfl),hE20,(by rw [hNP.non (by rw [show nxC p f.toNat a = _ from evD_e (ev_err hRL oM)]; omega)]; exact (hO20.up o1).low hE14.size),hNP,hST⟩)))))))
  ·
   refine q_neq false rfl rfl (decide_eq_false hc19) zN (lw_nil (c_cond_f rfl (wp_skip (wp_seq (wp_plain _ [3,0] rfl (r_nil (rI) good_rI u25 ti2 zN fun v22 w22 hX22 hz22 hO22 => ?_))))))
   have hzs22:=hX22.size
   have hE22:=hE14.trans hX22
   have hF17x22 := hF17.ext (o2) hX22
   have hB14x22 := hB14.ext hX22
   have hN23 := hrt14.ext g2 hX22
   refine lw_tvn 1 rfl (wp_seq (wp_seq (wp_plain _ [0] rfl (lw_tvn 1 rfl (wp_block ?_)))))
   refine c_loop (S := Nat × Value) (fun (⟨k,vo⟩ : Nat × Value) => ([(13,vo),(14,(.int .i64 ((k :Nat):Int))),(9,(.pointer (some ⟨w.heap.size,0,none⟩))),(12,v14)] : List (Nat × Value))) (fun (⟨k,vo⟩ : Nat × Value) (W : World) => Ext w W ∧ Fr (owL rI 2) w14.heap.size W.heap.size W.heap vo (((x14).take k).map (fun s => s.getD 0 0)) ∧ BX W.heap w.heap.size [vp,(.int .i64 ((1 :Nat):Int)),(.int .i64 ((s14 :Nat):Int)),(.int .i64 c14)] ∧ k ≤ (x14).length ∧ RT w14.heap.size (rdL (rdL rI)) W.heap v14 x14 ∧ w14.heap.size ≤ W.heap.size ∧ w.heap.size < w14.heap.size ∧ w14.heap.size ≤ w14.heap.size ∧ w14.heap.size ≤ W.heap.size) (fun (⟨k,vo⟩ : Nat × Value) => (x14).length - k) (0,v22) ⟨rfl,rfl,rfl,rfl,trivial⟩ ⟨hE22,hO22.up o1,hB14x22,sD,(by assumption),oM,oM,oM,oM⟩ ?_
   clear hzs2 hE2 hL5_1 hL5_0 hE5 hzs5 hln13 hC14 hF17 hO22 hz22 hX22 hzs22 hE22 hF17x22
   rintro ⟨k,vo⟩ ρ28 w28 ⟨hE28,hL28_0,hL28_1,hp28_0,hrk24,hkB25,hkg26,hkt27,hkB29⟩
   have hzs28 : w.heap.size ≤ w28.heap.size := hE28.size
   have hq30 := hL28_1.lt
   refine wp_seq (wp_seq (wp_plain _ [0,0,0,0] rfl (lw_tv 2 rfl (q_len (v := v14) u27 rfl hrk24.slL zN ?_))))
   by_cases hc31 : ((k :Nat):Int) < ((x14.length :Nat):Int)
   ·
    refine q_lss true rfl rfl (decide_eq_true hc31) zN (lw_nil (c_cond_t rfl (wp_skip (wp_seq (wp_block (wp_plain _ [0,0,0,0,2,0,2,3,4,0] rfl ?_))))))
    have hkx := hXS k oM
    have hkl := hkx.1
    refine lw_tv 3 rfl (q_idx (v := v14) k u27 ti25 rfl rfl hrk24.slL rfl sD zN ?_)
    obtain ⟨ue32,hl32,hr32⟩ := RT.getL g1 [] (k := k) hrk24 sD
    have hln32 := hr32.lenL
    unfold maxLen at hln32
    refine q_load (p := eptr v14 k 1) (.inr rfl) ue32 one25 rfl hl32 zN (q_idx (v := ue32) 0 u25 ti2 rfl rfl hr32.slL rfl sD zN ?_)
    have hg33 := RT.getI (k := 0) hr32 sD
    refine q_load (p := eptr ue32 0 1) (.inr rfl) (.int .i64 ((x14.getD k []).getD 0 0)) one2 rfl hg33.1 zN (r_one (u := (.int .i64 ((x14.getD k []).getD 0 0))) (B := w28.heap.size) good_rI u25 ti2 rfl rfl (frI w28.heap.size w28.heap.size _ _ hg33.2) (Nat.le_refl _) zN fun v34 w34 hX34 hz34 hO34 => ?_)
    have hzs34:=hX34.size
    have hE34:=hE28.trans hX34
    have hL28_0x34 := hL28_0.ext (o1) hX34
    have hL28_1x34 := hL28_1.ext hX34
    have hN35 := hrk24.ext g2 hX34
    have hN36 := hr32.ext g1 hX34
    refine e_appI (v := vo) (a := v34) u25 ti2 rfl rfl rfl hL28_0x34 oM hO34.rd1 sD z81_0 zN fun v37 w37 F37 hC37 hF37 hO37 => ?_
    have hE37 : Ext w w37 := hC37.below hE34 (fun c hc => Nat.le_trans hE14.size (hF37 c hc).1) hE34.size
    have hzs37:=hC37.size
    have hN38 := hN35.chg g2 hC37 (fun c hc => by have := hF37 c hc; omega)
    have hN39 := hN36.chg g1 hC37 (fun c hc => by have := hF37 c hc; omega)
    have hF40 := hL28_1x34.chg hC37 (fun hm => by have := hF37 _ hm; omega)
    have hF41 := hO34.chg (o1) hC37 (fun c hc => by have := hF37 c hc; omega)
    refine lw_tvn 1 rfl (wp_plain _ [0,0,0] rfl (lw_tv 1 rfl (q_add ((k + 1 :Nat):Int) rfl rfl (w64n oM sD) zN (lw_tvn 1 rfl ?_))))
    exact ⟨((k + 1),v37),_,rfl,⟨rfl,rfl,rfl,rfl,trivial⟩,⟨hE37,(by rw [map_snoc [] oM]; exact hO37.up o1),hF40,sD,(by assumption),oM,oM,oM,oM⟩,by first | omega | (dsimp only; omega)⟩
   ·
    refine q_lss false rfl rfl (decide_eq_false hc31) zN (lw_nil (c_cond_f rfl (wp_exit (t_exit (t_exit (c_exit_here (wp_seq (wp_draw _ [0,0,0,0,1,0,0,0] mixed (by kernel_rfl) (lw_tv 2 rfl (q_nil rfl zN (q_fldP (p := (.pointer (some ⟨w.heap.size,0,none⟩))) (b := w.heap.size) (o := 0) 2 fd123_2 rfl rfl zN (q_load (p := (padd (.pointer (some ⟨w.heap.size,0,none⟩)) 2)) (.inl rfl) (.int .i64 ((s14 :Nat):Int)) one2 rfl (hL28_1.ldp (i := 2) sM) zN (lw_tvn 3 rfl (wp_ret ?_))))))))))))))
    exact post_ret [6,7,8] rfl (.tuple #[vo,(.int .i64 ((s14 :Nat):Int)),(.int .i64 ((0 :Nat):Int))]) rfl ⟨vo,(by rw [evT_o (ev_ok hRL oM),show nxC p f.toNat a = _ from evD_o (ev_ok hRL oM)] <;> rfl),hE28.drew,(by have h := (hL28_0.up o1).low hE14.size; unfold nxR; rw [evR_o (ev_ok hRL oM)]; rwa [List.take_of_length_le oM] at h),hNP,hST⟩
theorem mp_b {p : List Fn} {f : Int} (h : isF p f = 0) (h1 : (decide (((1 : Nat) : Int) ≤ (p.getD f.toNat Fn.zero).params) && decide ((p.getD f.toNat Fn.zero).params ≤ ((12 : Nat) : Int))) = false) : 2 = shF p f fldB := by
  have h1' : inB (p.getD f.toNat Fn.zero).params 1 12 = false := h1
  unfold shF fldB; rw [if_pos h, h1', Bool.false_and]; rfl
theorem mp_c {p : List Fn} {f : Int} (h : isF p f = 0) (h1 : ¬ ((((p.getD f.toNat Fn.zero).outs.length : Nat) : Int) = (p.getD f.toNat Fn.zero).params)) : 2 = shF p f fldB := by
  unfold shF fldB; rw [if_pos h, decide_eq_false h1, Bool.and_false]; rfl
theorem mp_d {p : List Fn} {f : Int} (h : isF p f = 0) (h1 : (decide (((1 : Nat) : Int) ≤ (p.getD f.toNat Fn.zero).params) && decide ((p.getD f.toNat Fn.zero).params ≤ ((12 : Nat) : Int))) = true) (h2 : (((p.getD f.toNat Fn.zero).outs.length : Nat) : Int) = (p.getD f.toNat Fn.zero).params) : isF p f = shF p f fldB := by
  have h1' : inB (p.getD f.toNat Fn.zero).params 1 12 = true := h1
  unfold shF fldB; rw [if_pos h, h1', decide_eq_true h2, h]; rfl
theorem z91_0 {p : Prop} (h : p := by first | exact ret_int (shF_n oM) | exact ret_int (mp_b oM (by rw [← hm]; exact bn_t (by assumption))) | exact ret_int (mp_c oM oM) | exact ret_int (mp_d oM (by rw [← hm]; exact bn_f (by assumption)) oM)) : p := h
theorem z91_1 {p : Prop} (h : p := by simp [exC, fnC]) : p := h
theorem c_spec_l07Map (w : World) (dp : Nat) (vp : Value) (p : List Fn) (f : Int) (most : Int) (hp : RN [] (rP (rPr dp)) w.heap vp p) (_hf : -9223372036854775808 ≤ f ∧ f ≤ 9223372036854775807) (_hmost : -9223372036854775808 ≤ most ∧ most ≤ 9223372036854775807) (hz : SzP p) (hm : most = ((12 :Nat):Int)) :
  Calls Tryz.prog 91 #[vp,.int .i64 f,.int .i64 most] w (fun e w' => e = .returned (.int .i64 (shF p f fldB)) ∧ Ext w w') := by
 refine calls_mk [vp,.int .i64 f,.int .i64 most] 47 Tryz.func91 rfl rfl sM ?_
 have hE0 : Ext w w := Ext.refl w
 refine wp_seq (wp_plain _ [0] rfl (lw_tvn 1 rfl (wp_seq (wp_plain _ [0,0,3,0] rfl (lw_tv 2 rfl (lw_call 126 [] [] [vp,(.int .i64 f)] rfl rfl cf126 zN (c_spec_l02Asked _ dp vp (p) _ (hp.ext (good_rP (good_rPr dp)) hE0) _hf (by exact hz)) ?_))))))
 rintro e1 w1 ⟨rfl,hX1⟩
 refine ⟨_,rfl,hX1,?_⟩
 have hzs1:=hX1.size
 have hE1:=hE0.trans hX1
 refine lw_tvn 1 rfl (wp_seq (wp_seq (wp_draw _ [0,0,0,0,0,0,1,0,0,0,1,0,0,0,0,0,0,0,1,0,0,0,1,0,0,0,0,1,0,0,0,1,0,0,0] mixed (by kernel_rfl) (lw_tv 1 rfl ?_))))
 by_cases hc2 : isF p f = ((0 :Nat):Int)
 ·
  refine q_eql true rfl rfl (decide_eq_true hc2) zN (lw_tv 2 rfl ?_)
  have hi0 := isF_0 (p := p) (f := f) oM
  refine q_nilP (hp.isPtr) rfl (zS (e := 13) rfl rfl rfl) ?_
  obtain ⟨cs3,hr3,hl3⟩ := RN.at (good_rPr _) hp
  obtain ⟨ve3,rfl,hx3⟩ := RPr.of hr3
  have hln3 := hx3.lenle
  unfold maxLen at hln3
  refine q_fldL (p := vp) 0 fd32_0 rfl (hl3 _ (Chg.of_ext [] hE1.drew)) (zS (e := 13) rfl rfl rfl) (q_load (p := (padd vp 0)) (.inl rfl) ve3 one30 rfl ((hl3 _ (Chg.of_ext [] hE1.drew)).ld (i := 0) z91_1) (zS (e := 13) rfl rfl rfl) (lw_tv 1 rfl (q_idx (v := ve3) ((f).toNat) u30 tiS80 rfl rfl hx3.isSl oM sD (zS (e := 13) rfl rfl rfl) ?_)))
  obtain ⟨cs4,hr4,hl4⟩ := hx3.get (good_rFn dp) Fn.zero (k := ((f).toNat)) sD
  obtain ⟨ve4,rfl,hx4⟩ := RF.of hr4
  have hln4 := hx4.rn.lenle
  unfold maxLen at hln4
  refine q_fldL (p := eptr ve3 ((f).toNat) 3) 1 fd80_1 rfl (hl4 _ (Chg.of_ext [] hE1.drew)) (zS (e := 13) rfl rfl rfl) (q_load (p := (padd (eptr ve3 ((f).toNat) 3) 1)) (.inl rfl) (.int .i64 ((p.getD ((f).toNat) Fn.zero).params)) one2 rfl ((hl4 _ (Chg.of_ext [] hE1.drew)).ld (i := 1) z91_1) (zS (e := 13) rfl rfl rfl) (lw_tv 1 rfl (lw_callq 63 [] [] [(.int .i64 ((p.getD ((f).toNat) Fn.zero).params)),(.int .i64 ((1 :Nat):Int)),(.int .i64 most)] rfl rfl cf63 (zS (e := 13) rfl rfl rfl) (.bool (decide (((1 :Nat):Int) ≤ ((p.getD ((f).toNat) Fn.zero).params)) && decide (((p.getD ((f).toNat) Fn.zero).params) ≤ most))) (fun wq => c_spec_l00In wq _ _ _ hx4.rng oM _hmost) ?_)))
  refine q_not (!(decide (((1 :Nat):Int) ≤ ((p.getD ((f).toNat) Fn.zero).params)) && decide (((p.getD ((f).toNat) Fn.zero).params) ≤ most))) rfl rfl (zS (e := 13) rfl rfl rfl) (lw_tv 1 rfl ?_)
  cases hb6 : (!(decide (((1 :Nat):Int) ≤ ((p.getD ((f).toNat) Fn.zero).params)) && decide (((p.getD ((f).toNat) Fn.zero).params) ≤ most)))
  ·
   refine lw_tv 1 rfl (q_nilP (hp.isPtr) rfl (zS (e := 25) rfl rfl rfl) (q_fldL (p := vp) 0 fd32_0 rfl (hl3 _ (Chg.of_ext [] hE1.drew)) (zS (e := 25) rfl rfl rfl) (q_load (p := (padd vp 0)) (.inl rfl) ve3 one30 rfl ((hl3 _ (Chg.of_ext [] hE1.drew)).ld (i := 0) z91_1) (zS (e := 25) rfl rfl rfl) (lw_tv 1 rfl (q_idx (v := ve3) ((f).toNat) u30 tiS80 rfl rfl hx3.isSl oM sD (zS (e := 25) rfl rfl rfl) ?_)))))
   refine q_fldL (p := eptr ve3 ((f).toNat) 3) 2 fd80_2 rfl (hl4 _ (Chg.of_ext [] hE1.drew)) (zS (e := 25) rfl rfl rfl) (q_load (p := (padd (eptr ve3 ((f).toNat) 3) 2)) (.inl rfl) ve4 one78 rfl ((hl4 _ (Chg.of_ext [] hE1.drew)).ld (i := 2) z91_1) (zS (e := 25) rfl rfl rfl) (q_len (v := ve4) u78 rfl hx4.rn.isSl (zS (e := 25) rfl rfl rfl) (lw_tv 1 rfl (q_nilP (hp.isPtr) rfl (zS (e := 25) rfl rfl rfl) (q_fldL (p := vp) 0 fd32_0 rfl (hl3 _ (Chg.of_ext [] hE1.drew)) (zS (e := 25) rfl rfl rfl) (q_load (p := (padd vp 0)) (.inl rfl) ve3 one30 rfl ((hl3 _ (Chg.of_ext [] hE1.drew)).ld (i := 0) z91_1) (zS (e := 25) rfl rfl rfl) (lw_tv 1 rfl ?_)))))))
   refine q_idx (v := ve3) ((f).toNat) u30 tiS80 rfl rfl hx3.isSl oM sD (zS (e := 25) rfl rfl rfl) (q_fldL (p := eptr ve3 ((f).toNat) 3) 1 fd80_1 rfl (hl4 _ (Chg.of_ext [] hE1.drew)) (zS (e := 25) rfl rfl rfl) (q_load (p := (padd (eptr ve3 ((f).toNat) 3) 1)) (.inl rfl) (.int .i64 ((p.getD ((f).toNat) Fn.zero).params)) one2 rfl ((hl4 _ (Chg.of_ext [] hE1.drew)).ld (i := 1) z91_1) (zS (e := 25) rfl rfl rfl) ?_))
   by_cases hc7 : ((((p.getD ((f).toNat) Fn.zero).outs).length :Nat):Int) ≠ (p.getD ((f).toNat) Fn.zero).params
   ·
    exact q_neq true rfl rfl (decide_eq_true hc7) (zS (e := 25) rfl rfl rfl) (lw_tvn 2 rfl (c_cond_t rfl (wp_plain _ [0] rfl (lw_tvn 1 rfl (wp_seq (wp_plain _ [0,0] rfl (lw_tvn 2 rfl (wp_ret (post_ret [6] rfl (.int .i64 ((2 :Nat):Int)) rfl ⟨z91_0,hE1.drew⟩)))))))))
   ·
    exact q_neq false rfl rfl (decide_eq_false hc7) (zS (e := 25) rfl rfl rfl) (lw_tvn 2 rfl (c_cond_f rfl (wp_skip (wp_seq (wp_plain _ [0,0] rfl (lw_tvn 2 rfl (wp_ret (post_ret [6] rfl (.int .i64 (isF p f)) rfl ⟨z91_0,hE1.drew⟩))))))))
  ·
   exact lw_tvn 20 rfl (c_cond_t rfl (wp_plain _ [0] rfl (lw_tvn 1 rfl (wp_seq (wp_plain _ [0,0] rfl (lw_tvn 2 rfl (wp_ret (post_ret [6] rfl (.int .i64 ((2 :Nat):Int)) rfl ⟨z91_0,hE1.drew⟩))))))))
 ·
  exact q_eql false rfl rfl (decide_eq_false hc2) zN (lw_tvn 33 rfl (c_cond_f rfl (wp_skip (wp_seq (wp_plain _ [0,0] rfl (lw_tvn 2 rfl (wp_ret (post_ret [6] rfl (.int .i64 (isF p f)) rfl ⟨z91_0,hE1.drew⟩))))))))
end Go.Proofs.YtnofbmdpabcjaaaGreat
namespace Go.Proofs.YtnofbmdpabcjaaaGreat
open Go Go.RowKit
set_option linter.unusedVariables false
set_option linter.unusedSimpArgs false
set_option maxHeartbeats 4000000
set_option maxRecDepth 100000
attribute [local irreducible] LW
theorem c_spec_l07Cut (w : World) (vy : Value) (y : List (List Int)) (By Uy : Nat) (m : Nat) (hy : Fr (owL (owL rI 2) 25) By Uy w.heap vy y) (hUy : Uy ≤ w.heap.size) (_hm : m ≤ 1000000000000) (hml : ∀ k, k < y.length → m ≤ (y.getD k []).length ∧ (y.getD k []).length ≤ 1000000) (hyl : y.length ≤ 1000000) :
    Calls Tryz.prog 101 #[vy, .int .i64 ((m : Nat) : Int)] w (fun e w' => ∃ v0 : Value, e = .returned (v0) ∧ Ext w w' ∧ Fr (owL (owL rI 2) 25) w.heap.size w'.heap.size w'.heap v0 (y.map (cut m))) := by
  refine calls_mk [vy, .int .i64 ((m : Nat) : Int)] 25 Tryz.func101 rfl rfl sM ?_
  have hE0 : Ext w w := Ext.refl w
  refine wp_seq (wp_plain _ [0] rfl (lw_tvn 1 rfl (wp_seq (wp_plain _ [3, 0] rfl (r_nil (owL rI 2) o1 u27 ti25 zN fun v1 w1 hX1 hz1 hO1 => ?_)))))
  have hzs1 : w.heap.size ≤ w1.heap.size := hX1.size
  have hE1 : Ext w w1 := hE0.trans hX1
  have hyx1 := hy.ext (o2) hX1
  refine lw_tvn 1 rfl (wp_seq (wp_seq (wp_plain _ [0] rfl (lw_tvn 1 rfl (wp_block ?_)))))
  refine c_loop (S := Nat × Value) (fun (⟨k, vo⟩ : Nat × Value) => ([(5, vo), (6, (.int .i64 ((k : Nat) : Int))), (0, vy), (1, (.int .i64 ((m : Nat) : Int)))] : List (Nat × Value))) (fun (⟨k, vo⟩ : Nat × Value) (W : World) => Ext w W ∧ Fr (owL (owL rI 2) 25) w.heap.size W.heap.size W.heap vo ((y.take k).map (cut m)) ∧ Fr (owL (owL rI 2) 25) By Uy W.heap vy y ∧ k ≤ y.length) (fun (⟨k, vo⟩ : Nat × Value) => y.length - k) (0, v1) ⟨rfl, rfl, rfl, rfl, trivial⟩ ⟨hE1, hO1.up o2, hyx1, sD⟩ ?_
  clear hE0 hO1 hz1 hX1 hzs1 hE1
  rintro ⟨k, vo⟩ ρ2 w2 ⟨hE2, hL2_0, hL2_1, hp2_0⟩
  have hzs2 : w.heap.size ≤ w2.heap.size := hE2.size
  refine wp_seq (wp_seq (wp_plain _ [0, 0, 0, 0] rfl (lw_tv 2 rfl (q_len (v := vy) u27 rfl hL2_1.isSl zN ?_))))
  by_cases hc3 : ((k : Nat) : Int) < ((y.length : Nat) : Int)
  ·
    refine q_lss true rfl rfl (decide_eq_true hc3) zN (lw_nil (c_cond_t rfl (wp_skip (wp_seq (wp_block (wp_plain _ [0, 0, 0, 0, 2, 0, 0, 3, 3, 4, 0] rfl ?_))))))
    have hmk := hml k oM
    refine lw_tv 3 rfl (q_idx (v := vy) k u27 ti25 rfl rfl hL2_1.isSl rfl sD zN ?_)
    obtain ⟨ue4, hl4, hd4⟩ := hL2_1.rd2.get (k := k) [] sD
    have hln4 := hd4.lenle
    refine q_load (p := eptr vy k 1) (.inr rfl) ue4 one25 rfl hl4 zN (lw_tv 1 rfl ?_)
    have hcp5 := Fr.rowCap o1 hL2_1 sD hl4
    have hpf5 := Rd.pref (k := m) hd4 sD
    refine q_pref (v := ue4) (k := m) u25 ti2 rfl hd4.isSl hcp5 rfl sD zN (lw_call 80 [] [] [(prefV ue4 m)] rfl rfl cf80 zN (c_spec_l00Own _ _ _ hpf5 (by rw [List.length_take]; omega)) ?_)
    rintro e6 w6 ⟨v6_0, rfl, hX6, hO6_0⟩
    refine ⟨_, rfl, hX6, ?_⟩
    have hzs6 : w2.heap.size ≤ w6.heap.size := hX6.size
    have hE6 : Ext w w6 := hE2.trans hX6
    have hL2_0x6 := hL2_0.ext (o2) hX6
    have hL2_1x6 := hL2_1.ext (o2) hX6
    have hd4x6 := hd4.ext g1 hX6
    have hlx7 := ldH_ext hX6 hl4
    have hpf5x6 := hpf5.ext g1 hX6
    refine r_one (u := v6_0) (B := w2.heap.size) o1 u27 ti25 rfl rfl hO6_0 (by first | exact Nat.le_refl _ | omega) zN fun v8 w8 hX8 hz8 hO8 => ?_
    have hzs8 : w6.heap.size ≤ w8.heap.size := hX8.size
    have hE8 : Ext w w8 := hE6.trans hX8
    have hL2_0x8 := hL2_0x6.ext (o2) hX8
    have hL2_1x8 := hL2_1x6.ext (o2) hX8
    have hd4x8 := hd4x6.ext g1 hX8
    have hlx9 := ldH_ext hX8 hlx7
    have hpf5x8 := hpf5x6.ext g1 hX8
    refine e_appF o1 (v := vo) (a := v8) u27 ti25 rfl rfl rfl hL2_0x8 hE8.size hO8 oM hE2.size sD (by unfold maxLen; first | omega | assumption | (simp only [List.length_nil, List.length_cons, List.length_append, List.length_set, List.length_replicate]; omega) | (simp [List.length_nil, List.length_cons, List.length_append, List.length_set, List.length_replicate]; done) | (simp [List.length_nil, List.length_cons, List.length_append, List.length_set, List.length_replicate]; omega)) zN fun v10 w10 F10 hC10 hF10 hO10 => ?_
    have hE10 : Ext w w10 := hC10.below hE8 (fun c hc => Nat.le_trans (Nat.le_refl _) (hF10 c hc).1) hE8.size
    have hzs10 : w8.heap.size ≤ w10.heap.size := hC10.size
    have hF11 := hL2_1x8.chg (o2) hC10 (fun c hc => by have := hF10 c hc; omega)
    refine lw_tvn 1 rfl (wp_plain _ [0, 0, 0] rfl (lw_tv 1 rfl (q_add ((k + 1 : Nat) : Int) rfl rfl (w64n oM sD) zN (lw_tvn 1 rfl ?_))))
    exact ⟨((k + 1), v10), _, rfl, ⟨rfl, rfl, rfl, rfl, trivial⟩, ⟨hE10, (by rw [map_snoc [] oM]; exact hO10.up o2), hF11, sD⟩, by first | omega | (dsimp only; omega)⟩
  ·
    exact q_lss false rfl rfl (decide_eq_false hc3) zN (lw_nil (c_cond_f rfl (wp_exit (t_exit (t_exit (c_exit_here (wp_seq (wp_plain _ [0, 0] rfl (lw_tvn 2 rfl (wp_ret (post_ret [4] rfl vo rfl ⟨vo, rfl, hE2, (by have h := hL2_0.up o2; rwa [List.take_of_length_le oM] at h)⟩)))))))))))
theorem fd_n {p : List Fn} {f o : Int} {a : Sr} (h : shF p f fldB ≠ 0) : shF p f fldB = stC p f o [a] := by unfold stC; rw [if_neg h]
theorem fd_2 {p : List Fn} {f o : Int} {a : Sr} (h : shF p f fldB = 0) (h2 : (decide (((a.length : Nat) : Int) = (p.getD f.toNat Fn.zero).params) && allN a) = false) : 2 = stC p f o [a] := by
  unfold stC; rw [if_pos h, List.all_cons, h2]; rfl
theorem fd_o {p : List Fn} {f o : Int} {a : Sr} (h : shF p f fldB = 0) (h2 : (decide (((0 : Nat) : Int) ≤ o) && decide (o ≤ ((12 : Nat) : Int))) = false) : 2 = stC p f o [a] := by
  have h2' : inB o 0 12 = false := h2
  unfold stC; rw [if_pos h, h2', Bool.and_false]; rfl
theorem fd_0 {p : List Fn} {f o : Int} {a : Sr} (h : shF p f fldB = 0) (h1 : (decide (((a.length : Nat) : Int) = (p.getD f.toNat Fn.zero).params) && allN a) = true) (h2 : (decide (((0 : Nat) : Int) ≤ o) && decide (o ≤ ((12 : Nat) : Int))) = true) : shF p f fldB = stC p f o [a] := by
  have h2' : inB o 0 12 = true := h2
  unfold stC; rw [if_pos h, List.all_cons, h1, h2', h]; rfl
theorem z62_0 {p : Prop} (h : p := by first | exact ret_int (fd_n oM) | exact ret_int (fd_2 oM (bn_t (by assumption))) | exact ret_int (fd_o oM (bn_t (by assumption))) | exact ret_int (fd_0 oM (bn_f (by assumption)) (bn_f (by assumption)))) : p := h
theorem c_spec_l07Field (w : World) (dp : Nat) (vp : Value) (p : List Fn) (f : Int) (va : Value) (a : List Int) (o : Int) (hp : RN [] (rP (rPr dp)) w.heap vp p) (_hf : -9223372036854775808 ≤ f ∧ f ≤ 9223372036854775807) (ha : Rd (rdL rI) w.heap va a) (_ho : -9223372036854775808 ≤ o ∧ o ≤ 9223372036854775807) (hz : SzP p) :
    Calls Tryz.prog 62 #[vp, .int .i64 f, va, .int .i64 o] w (fun e w' => e = .returned (.int .i64 (stC p f o [a])) ∧ Ext w w') := by
  refine calls_mk [vp, .int .i64 f, va, .int .i64 o] 34 Tryz.func62 rfl rfl sM ?_
  have hE0 : Ext w w := Ext.refl w
  have hl_va := ha.lenle
  refine wp_seq (wp_plain _ [0] rfl (lw_tvn 1 rfl (wp_seq (wp_plain _ [0, 0, 3, 0] rfl (lw_tv 2 rfl (lw_call 91 [] [] [vp, (.int .i64 f), (.int .i64 ((12 : Nat) : Int))] rfl rfl cf91 zN (c_spec_l07Map _ dp vp (p) _ _ (hp.ext (good_rP (good_rPr dp)) hE0) _hf oM (by exact hz) (by rfl)) ?_))))))
  rintro e1 w1 ⟨rfl, hX1⟩
  refine ⟨_, rfl, hX1, ?_⟩
  have hzs1 : w.heap.size ≤ w1.heap.size := hX1.size
  have hE1 : Ext w w1 := hE0.trans hX1
  refine lw_tvn 1 rfl (wp_seq (wp_seq (wp_plain _ [0, 0, 0, 0, 0, 0, 0, 2, 0, 0, 0, 2, 3, 0, 0, 0, 0, 0, 0, 0] rfl (lw_tv 1 rfl ?_))))
  by_cases hc2 : shF p f fldB = ((0 : Nat) : Int)
  ·
    refine q_eql true rfl rfl (decide_eq_true hc2) zN (lw_tv 1 rfl ?_)
    have hi0 := fld_0 (p := p) (f := f) oM
    refine lw_tv 2 rfl (q_nilP (hp.isPtr) rfl (zS (e := 15) rfl rfl rfl) ?_)
    obtain ⟨cs3, hr3, hl3⟩ := RN.at (good_rPr _) hp
    obtain ⟨ve3, rfl, hx3⟩ := RPr.of hr3
    have hln3 := hx3.lenle
    unfold maxLen at hln3
    refine q_fldL (p := vp) 0 fd32_0 rfl (hl3 _ (Chg.of_ext [] hE1)) (zS (e := 15) rfl rfl rfl) (q_load (p := (padd vp 0)) (.inr rfl) ve3 one30 rfl ((hl3 _ (Chg.of_ext [] hE1)).ld (i := 0) (by simp [exC, fnC])) (zS (e := 15) rfl rfl rfl) (lw_tv 1 rfl (q_idx (v := ve3) ((f).toNat) u30 tiS80 rfl rfl hx3.isSl oM sD (zS (e := 15) rfl rfl rfl) ?_)))
    obtain ⟨cs4, hr4, hl4⟩ := hx3.get (good_rFn dp) Fn.zero (k := ((f).toNat)) sD
    obtain ⟨ve4, rfl, hx4⟩ := RF.of hr4
    have hln4 := hx4.rn.lenle
    unfold maxLen at hln4
    refine q_fldL (p := eptr ve3 ((f).toNat) 3) 1 fd80_1 rfl (hl4 _ (Chg.of_ext [] hE1)) (zS (e := 15) rfl rfl rfl) (q_load (p := (padd (eptr ve3 ((f).toNat) 3) 1)) (.inr rfl) (.int .i64 ((p.getD ((f).toNat) Fn.zero).params)) one2 rfl ((hl4 _ (Chg.of_ext [] hE1)).ld (i := 1) (by simp [exC, fnC])) (zS (e := 15) rfl rfl rfl) (lw_call 100 [] [] [va, (.int .i64 ((p.getD ((f).toNat) Fn.zero).params))] rfl rfl cf100 (zS (e := 15) rfl rfl rfl) (c_spec_l07Numbers _ _ _ _ (ha.ext g1 hE1) hx4.rng) ?_))
    rintro e5 w5 ⟨rfl, hX5⟩
    refine ⟨_, rfl, hX5, ?_⟩
    have hzs5 : w1.heap.size ≤ w5.heap.size := hX5.size
    have hE5 : Ext w w5 := hE1.trans hX5
    refine q_not (!(decide (((a.length : Nat) : Int) = ((p.getD ((f).toNat) Fn.zero).params)) && allN a)) rfl rfl (zS (e := 15) rfl rfl rfl) (lw_tv 1 rfl ?_)
    cases hb6 : (!(decide (((a.length : Nat) : Int) = ((p.getD ((f).toNat) Fn.zero).params)) && allN a))
    ·
      refine lw_tv 1 rfl (lw_callq 63 [] [] [(.int .i64 o), (.int .i64 ((0 : Nat) : Int)), (.int .i64 ((12 : Nat) : Int))] rfl rfl cf63 (zS (e := 27) rfl rfl rfl) (.bool (decide (((0 : Nat) : Int) ≤ o) && decide (o ≤ ((12 : Nat) : Int)))) (fun wq => c_spec_l00In wq _ _ _ _ho oM oM) (q_not (!(decide (((0 : Nat) : Int) ≤ o) && decide (o ≤ ((12 : Nat) : Int)))) rfl rfl (zS (e := 27) rfl rfl rfl) (lw_tvn 2 rfl ?_)))
      cases hb8 : (!(decide (((0 : Nat) : Int) ≤ o) && decide (o ≤ ((12 : Nat) : Int))))
      ·
        exact c_cond_f (by first | rfl | (show Value.bool _ = _; rw [hb8])) (wp_skip (wp_seq (wp_plain _ [0, 0] rfl (lw_tvn 2 rfl (wp_ret (post_ret [8] rfl (.int .i64 (shF p f fldB)) rfl ⟨z62_0, hE5⟩))))))
      ·
        exact c_cond_t (by first | rfl | (show Value.bool _ = _; rw [hb8])) (wp_plain _ [0] rfl (lw_tvn 1 rfl (wp_seq (wp_plain _ [0, 0] rfl (lw_tvn 2 rfl (wp_ret (post_ret [8] rfl (.int .i64 ((2 : Nat) : Int)) rfl ⟨z62_0, hE5⟩)))))))
    ·
      exact lw_tvn 5 rfl (c_cond_t rfl (wp_plain _ [0] rfl (lw_tvn 1 rfl (wp_seq (wp_plain _ [0, 0] rfl (lw_tvn 2 rfl (wp_ret (post_ret [8] rfl (.int .i64 ((2 : Nat) : Int)) rfl ⟨z62_0, hE5⟩))))))))
  ·
    exact q_eql false rfl rfl (decide_eq_false hc2) zN (lw_tvn 18 rfl (c_cond_f rfl (wp_skip (wp_seq (wp_plain _ [0, 0] rfl (lw_tvn 2 rfl (wp_ret (post_ret [8] rfl (.int .i64 (shF p f fldB)) rfl ⟨z62_0, hE1⟩))))))))
theorem spS_row {out y : List Sr} {k i : Nat} (hi : i < y.length) : (mix i (spS out y k) y).getD i [] = y.getD i [] := mix_ge [] (spS_len _ _ _) (Nat.le_refl _) hi
theorem spS_step {out y : List Sr} {k i : Nat} (hi : i < y.length) : mix (i + 1) (spS out y k) y = (mix i (spS out y k) y).set i ((y.getD i []).set (k + 1) (md ((out.getD i []).getD k 0 * inv (((k + 1 : Nat)) : Int)))) := mix_tab (n := y.length) rfl hi
theorem z64_0 {p : Prop} (h : p := by first | omega | assumption | (simp only [List.length_nil, List.length_cons, List.length_append, List.length_set, List.length_replicate, mix_len, spS_len]; omega) | (simp [List.length_nil, List.length_cons, List.length_append, List.length_set, List.length_replicate, mix_len, spS_len]; done) | (simp [List.length_nil, List.length_cons, List.length_append, List.length_set, List.length_replicate, mix_len, spS_len]; omega)) : p := h
theorem c_spec_l07Flow (w : World) (dp : Nat) (vp : Value) (p : List Fn) (f : Int) (va : Value) (a : List Int) (o : Int) (hp : RN [] (rP (rPr dp)) w.heap vp p) (_hf : -9223372036854775808 ≤ f ∧ f ≤ 9223372036854775807) (ha : Rd (rdL rI) w.heap va a) (_ho : -9223372036854775808 ≤ o ∧ o ≤ 9223372036854775807) (hfl : Fld p f.toNat a) (hf : 0 ≤ f ∧ f < ((p.length : Nat) : Int)) (ho : 0 ≤ o ∧ o ≤ 12) :
    Calls Tryz.prog 64 #[vp, .int .i64 f, va, .int .i64 o] w (fun e w' => ∃ v0 : Value, e = .returned (.tuple #[v0, .int .i64 (flC p f.toNat (extS a (o.toNat + 1)) (o.toNat + 1))]) ∧ Ext w w' ∧ Fr (owL (owL rI 2) 25) w.heap.size w'.heap.size w'.heap v0 (flR p f.toNat (extS a (o.toNat + 1)) (o.toNat + 1)) ∧ (0 ≤ flC p f.toNat (extS a (o.toNat + 1)) (o.toNat + 1) ∧ flC p f.toNat (extS a (o.toNat + 1)) (o.toNat + 1) ≤ 9)) := by
  refine calls_mk [vp, .int .i64 f, va, .int .i64 o] 90 Tryz.func64 rfl rfl sM ?_
  have hE0 : Ext w w := Ext.refl w
  have hl_va := ha.lenle
  have hfc := fl_code hfl o.toNat
  have hpar := hfl.hv.par f.toNat oM
  have hal := hfl.hl
  have ha0 := hfl.h0
  refine wp_seq (wp_plain _ [0, 0] rfl (lw_tvn 2 rfl (wp_seq (wp_plain _ [0, 0, 0, 3, 0, 0, 0, 0, 0, 0, 0] rfl (lw_tv 3 rfl (lw_call 81 [] [] [vp, (.int .i64 f), va] rfl rfl cf81 zN (c_spec_l02Eval _ dp vp (p) _ _ _ (hp.ext (good_rP (good_rPr dp)) hE0) _hf (ha.ext g1 hE0) (by exact hfl.hv) (by exact hf) (by exact hfl.hl) (by exact hfl.hn)) ?_))))))
  rintro e1 w1 ⟨v1_0, rfl, hX1, hO1_0, hP1_0, hP1_1⟩
  refine ⟨_, rfl, hX1, ?_⟩
  have hzs1 : w.heap.size ≤ w1.heap.size := hX1.size
  have hE1 : Ext w w1 := hE0.trans hX1
  refine lw_tv 1 rfl (q_extract (vs := [v1_0, (.int .i64 ((evT p 1 f.toNat (sing a) : Nat) : Int)), (.int .i64 (nxC p f.toNat a))]) v1_0 rfl rfl zN (q_extract (vs := [v1_0, (.int .i64 ((evT p 1 f.toNat (sing a) : Nat) : Int)), (.int .i64 (nxC p f.toNat a))]) (.int .i64 ((evT p 1 f.toNat (sing a) : Nat) : Int)) rfl rfl zN (q_extract (vs := [v1_0, (.int .i64 ((evT p 1 f.toNat (sing a) : Nat) : Int)), (.int .i64 (nxC p f.toNat a))]) (.int .i64 (nxC p f.toNat a)) rfl rfl zN (lw_tvn 3 rfl (wp_seq (wp_seq (wp_plain _ [0, 0] rfl ?_)))))))
  have hNC := (‹NxP p f.toNat a›).code
  refine lw_tv 1 rfl ?_
  by_cases hc2 : nxC p f.toNat a ≠ ((0 : Nat) : Int)
  ·
    refine q_neq true rfl rfl (decide_eq_true hc2) zN (lw_nil (c_cond_t rfl (wp_seq (wp_plain _ [3, 0, 0, 0] rfl (r_nil (owL rI 2) o1 u27 ti25 zN fun v3 w3 hX3 hz3 hO3 => ?_)))))
    have hzs3 : w1.heap.size ≤ w3.heap.size := hX3.size
    have hE3 : Ext w w3 := hE1.trans hX3
    have hO1_0x3 := hO1_0.ext (o1) hX3
    exact lw_tvn 3 rfl (wp_ret (t_ret (post_ret [8, 9] rfl (.tuple #[v3, (.int .i64 (nxC p f.toNat a))]) rfl ⟨v3, (by rw [hfc]), hE3, (by rw [flR_e (by rw [hfc]; omega)]; exact (hO3.up o2).low hE1.size), oM⟩)))
  ·
    refine q_neq false rfl rfl (decide_eq_false hc2) zN (lw_nil (c_cond_f rfl (wp_skip (wp_seq (wp_plain _ [3, 0] rfl ?_)))))
    have hc0 : nxC p f.toNat a = 0 := by omega
    refine r_nil (owL rI 2) o1 u27 ti25 zN fun v4 w4 hX4 hz4 hO4 => ?_
    have hzs4 : w1.heap.size ≤ w4.heap.size := hX4.size
    have hE4 : Ext w w4 := hE1.trans hX4
    have hO1_0x4 := hO1_0.ext (o1) hX4
    refine lw_tvn 1 rfl (wp_seq (wp_seq (wp_plain _ [0] rfl (lw_tvn 1 rfl (wp_block ?_)))))
    refine c_loop (S := Nat × Value) (fun (⟨k, vy⟩ : Nat × Value) => ([(13, vy), (14, (.int .i64 ((k : Nat) : Int))), (0, vp), (1, (.int .i64 f)), (2, va), (3, (.int .i64 o))] : List (Nat × Value))) (fun (⟨k, vy⟩ : Nat × Value) (W : World) => Ext w W ∧ Fr (owL (owL rI 2) 25) w1.heap.size W.heap.size W.heap vy ((a.take k).map (cst (o.toNat + 1))) ∧ k ≤ a.length ∧ w1.heap.size ≤ W.heap.size) (fun (⟨k, vy⟩ : Nat × Value) => a.length - k) (0, v4) ⟨rfl, rfl, rfl, rfl, rfl, rfl, trivial⟩ ⟨hE4, hO4.up o2, z64_0, oM⟩ ?_
    clear hE0 hO1_0 hX1 hO4 hz4 hX4 hzs4 hE4 hO1_0x4
    rintro ⟨k, vy⟩ ρ5 w5 ⟨hE5, hL5_0, hp5_0, hkB6⟩
    have hzs5 : w.heap.size ≤ w5.heap.size := hE5.size
    refine wp_seq (wp_seq (wp_plain _ [0, 0, 0, 0] rfl (lw_tv 2 rfl (q_len (v := va) u25 rfl ha.isSl zN ?_))))
    by_cases hc7 : ((k : Nat) : Int) < ((a.length : Nat) : Int)
    ·
      refine q_lss true rfl rfl (decide_eq_true hc7) zN (lw_nil (c_cond_t rfl (wp_skip (wp_seq (wp_block (wp_plain _ [0, 0, 0, 0, 2, 0, 0, 3, 3, 4, 0] rfl (lw_tv 3 rfl (q_idx (v := va) k u25 ti2 rfl rfl ha.isSl rfl z64_0 zN ?_))))))))
      refine q_load (p := eptr va k 1) (.inr rfl) (.int .i64 (a.getD k 0)) one2 rfl (ldH_ext hE5 (ha.getI z64_0).1) zN (lw_tv 1 rfl (q_add ((o.toNat + 1 : Nat) : Int) rfl rfl (by rw [w64 oM oM]; omega) zN ?_))
      refine lw_call 93 [] [] [(.int .i64 (a.getD k 0)), (.int .i64 ((o.toNat + 1 : Nat) : Int))] rfl rfl cf93 zN (c_spec_l01Const _ _ (o.toNat + 1) (ha.getI z64_0).2 z64_0 oM) ?_
      rintro e8 w8 ⟨v8_0, rfl, hX8, hO8_0⟩
      refine ⟨_, rfl, hX8, ?_⟩
      have hzs8 : w5.heap.size ≤ w8.heap.size := hX8.size
      have hE8 : Ext w w8 := hE5.trans hX8
      have hL5_0x8 := hL5_0.ext (o2) hX8
      refine r_one (u := v8_0) (B := w5.heap.size) o1 u27 ti25 rfl rfl hO8_0 (by first | exact Nat.le_refl _ | omega) zN fun v9 w9 hX9 hz9 hO9 => ?_
      have hzs9 : w8.heap.size ≤ w9.heap.size := hX9.size
      have hE9 : Ext w w9 := hE8.trans hX9
      have hL5_0x9 := hL5_0x8.ext (o2) hX9
      refine e_appF o1 (v := vy) (a := v9) u27 ti25 rfl rfl rfl hL5_0x9 oM hO9 oM oM z64_0 (by unfold maxLen; first | omega | assumption | (simp only [List.length_nil, List.length_cons, List.length_append, List.length_set, List.length_replicate, mix_len, spS_len]; omega) | (simp [List.length_nil, List.length_cons, List.length_append, List.length_set, List.length_replicate, mix_len, spS_len]; done) | (simp [List.length_nil, List.length_cons, List.length_append, List.length_set, List.length_replicate, mix_len, spS_len]; omega)) zN fun v10 w10 F10 hC10 hF10 hO10 => ?_
      have hE10 : Ext w w10 := hC10.below hE9 (fun c hc => Nat.le_trans hE1.size (hF10 c hc).1) hE9.size
      have hzs10 : w9.heap.size ≤ w10.heap.size := hC10.size
      refine lw_tvn 1 rfl (wp_plain _ [0, 0, 0] rfl (lw_tv 1 rfl (q_add ((k + 1 : Nat) : Int) rfl rfl (w64n oM z64_0) zN (lw_tvn 1 rfl ?_))))
      exact ⟨((k + 1), v10), _, rfl, ⟨rfl, rfl, rfl, rfl, rfl, rfl, trivial⟩, ⟨hE10, (by rw [map_snoc 0 oM]; exact hO10.up o2), z64_0, oM⟩, by first | omega | (dsimp only; omega)⟩
    ·
      refine q_lss false rfl rfl (decide_eq_false hc7) zN (lw_nil (c_cond_f rfl (wp_exit (t_exit (t_exit (c_exit_here (wp_seq (wp_seq (wp_plain _ [0] rfl (lw_tvn 1 rfl (wp_block ?_)))))))))))
      refine c_loop (S := Nat × List (List Int)) (fun (⟨k, ys⟩ : Nat × List (List Int)) => ([(15, (.int .i64 ((k : Nat) : Int))), (0, vp), (1, (.int .i64 f)), (3, (.int .i64 o)), (13, vy)] : List (Nat × Value))) (fun (⟨k, ys⟩ : Nat × List (List Int)) (W : World) => Ext w W ∧ Fr (owL (owL rI 2) 25) w1.heap.size W.heap.size W.heap vy ys ∧ k ≤ o.toNat ∧ ys = spI p f.toNat (extS a (o.toNat + 1)) k ∧ w1.heap.size ≤ W.heap.size) (fun (⟨k, ys⟩ : Nat × List (List Int)) => o.toNat - k) (0, ((a.take k).map (cst (o.toNat + 1)))) ⟨rfl, rfl, rfl, rfl, rfl, trivial⟩ ⟨hE5, hL5_0.up o2, z64_0, (by rw [List.take_of_length_le oM]; rfl), oM⟩ ?_
      clear hL5_0 hE5 hzs5
      rintro ⟨k, ys⟩ ρ11 w11 ⟨hE11, hL11_0, hp11_0, hyf, hkB12⟩
      have hzs11 : w.heap.size ≤ w11.heap.size := hE11.size
      refine wp_seq (wp_seq (wp_plain _ [0, 0, 0] rfl (lw_tv 2 rfl ?_)))
      by_cases hc13 : ((k : Nat) : Int) < o
      ·
        refine q_lss true rfl rfl (decide_eq_true hc13) zN (lw_nil (c_cond_t rfl (wp_skip (wp_seq (wp_block (wp_seq (wp_plain _ [0, 0, 0, 0, 0, 3, 0, 0, 3, 0, 0, 0, 0, 0] rfl ?_)))))))
        have hsp := sp_all (o := o.toNat) hfl hc0 k oM
        have hso := hsp.out hfl hc0 oM
        have hsl := hsp.len
        have hss := hsp.ser
        unfold spO at hso
        rw [← hyf] at hso hsl hss
        have hov := hso.2.2.1.ser
        refine lw_tv 4 rfl (q_add ((k + 1 : Nat) : Int) rfl rfl (w64n oM z64_0) zN ?_)
        refine lw_call 101 [] [] [vy, (.int .i64 ((k + 1 : Nat) : Int))] rfl rfl cf101 zN (c_spec_l07Cut _ vy (ys) (w1.heap.size) (w11.heap.size) (k + 1) hL11_0 oM z64_0 (by intro j hj; have := (hss j hj).1; omega) oM) ?_
        rintro e14 w14 ⟨v14_0, rfl, hX14, hO14_0⟩
        refine ⟨_, rfl, hX14, ?_⟩
        have hzs14 : w11.heap.size ≤ w14.heap.size := hX14.size
        have hE14 : Ext w w14 := hE11.trans hX14
        have hL11_0x14 := hL11_0.ext (o2) hX14
        refine lw_tv 1 rfl (q_add ((k + 1 : Nat) : Int) rfl rfl (w64n oM z64_0) zN (lw_call 65 [] [] [vp, (.int .i64 f), v14_0, (.int .i64 ((k + 1 : Nat) : Int))] rfl rfl cf65 zN (c_spec_l03Eval _ dp vp (p) _ v14_0 (ys.map (cut (k + 1))) (k + 1) (hp.ext (good_rP (good_rPr dp)) hE14) _hf (RN.of_fr2 hO14_0 (fun b hb => by cases hb)) hO14_0.cap (by exact hfl.hv) (by exact hf) (by rw [List.length_map]; omega) (by exact hso.1) oM) ?_))
        rintro e15 w15 ⟨v15_0, rfl, hX15, hO15_0, hP15_0⟩
        refine ⟨_, rfl, hX15, ?_⟩
        have hzs15 : w14.heap.size ≤ w15.heap.size := hX15.size
        have hE15 : Ext w w15 := hE14.trans hX15
        have hL11_0x15 := hL11_0x14.ext (o2) hX15
        have hO14_0x15 := hO14_0.ext (o2) hX15
        refine lw_tv 1 rfl (q_extract (vs := [v15_0, (.int .i64 (evD p (k + 1) f.toNat (ys.map (cut (k + 1)))))]) v15_0 rfl rfl zN (q_extract (vs := [v15_0, (.int .i64 (evD p (k + 1) f.toNat (ys.map (cut (k + 1)))))]) (.int .i64 (evD p (k + 1) f.toNat (ys.map (cut (k + 1))))) rfl rfl zN (lw_tvn 2 rfl (wp_seq (wp_plain _ [0] rfl (lw_tvn 1 rfl (wp_block ?_)))))))
        refine c_loop (S := Nat) (fun (i : Nat) => ([(18, (.int .i64 ((i : Nat) : Int))), (0, vp), (1, (.int .i64 f)), (3, (.int .i64 o)), (13, vy), (15, (.int .i64 ((k : Nat) : Int))), (16, v15_0)] : List (Nat × Value))) (fun (i : Nat) (W : World) => Ext w W ∧ Fr (owL (owL rI 2) 25) w1.heap.size w11.heap.size W.heap vy (mix i (spS (evR p (k + 1) f.toNat (ys.map (cut (k + 1)))) ys k) ys) ∧ Fr (owL (owL rI 2) 25) w14.heap.size w15.heap.size W.heap v15_0 (evR p (k + 1) f.toNat (ys.map (cut (k + 1)))) ∧ i ≤ ys.length ∧ w1.heap.size ≤ W.heap.size) (fun (i : Nat) => ys.length - i) 0 ⟨rfl, rfl, rfl, rfl, rfl, rfl, rfl, trivial⟩ ⟨hE15, (by rw [mix_zero]; exact hL11_0x15), hO15_0, z64_0, oM⟩ ?_
        clear hL11_0 hO14_0 hX14 hL11_0x14 hO15_0 hX15 hL11_0x15 hO14_0x15
        rintro i ρ16 w16 ⟨hE16, hL16_0, hL16_1, hp16_0, hkB17⟩
        have hzs16 : w.heap.size ≤ w16.heap.size := hE16.size
        have hml := mix_len i (spS (evR p (k + 1) f.toNat (ys.map (cut (k + 1)))) ys k) ys (spS_len _ _ _)
        refine wp_seq (wp_seq (wp_plain _ [0, 0, 0, 0] rfl (lw_tv 2 rfl (q_len (v := vy) u27 rfl hL16_0.isSl zN ?_))))
        by_cases hc18 : ((i : Nat) : Int) < (((mix i (spS (evR p (k + 1) f.toNat (ys.map (cut (k + 1)))) ys k) ys).length : Nat) : Int)
        ·
          refine q_lss true rfl rfl (decide_eq_true hc18) zN (lw_nil (c_cond_t rfl (wp_skip (wp_seq (wp_block (wp_draw _ [0, 0, 0, 1, 0, 0, 0, 0, 0, 1, 0, 0, 1, 0, 0, 0, 0, 0, 4] mixed (by kernel_rfl) ?_))))))
          have hrw := spS_row (out := (evR p (k + 1) f.toNat (ys.map (cut (k + 1))))) (k := k) (y := ys) (i := i) oM
          have hrwl := congrArg List.length hrw
          have hrl := (hss i oM).1
          have hol := (hov i oM).1
          have hin := inv_num (((k + 1 : Nat)) : Int)
          refine lw_tv 2 rfl (q_idx (v := vy) i u27 ti25 rfl rfl hL16_0.isSl rfl z64_0 zN ?_)
          obtain ⟨ue19, hl19, hd19⟩ := hL16_0.rd2.get (k := i) [] z64_0
          have hln19 := hd19.lenle
          refine q_load (p := eptr vy i 1) (.inl rfl) ue19 one25 rfl hl19 zN (lw_tv 1 rfl (q_add ((k + 1 : Nat) : Int) rfl rfl (w64n oM z64_0) zN (lw_tv 2 rfl ?_)))
          refine q_idx (v := v15_0) i u27 ti25 rfl rfl hL16_1.isSl rfl z64_0 zN ?_
          obtain ⟨ue20, hl20, hd20⟩ := hL16_1.rd2.get (k := i) [] z64_0
          have hln20 := hd20.lenle
          refine q_load (p := eptr v15_0 i 1) (.inl rfl) ue20 one25 rfl hl20 zN (lw_tv 1 rfl (q_idx (v := ue20) k u25 ti2 rfl rfl hd20.isSl rfl z64_0 zN ?_))
          refine q_load (p := eptr ue20 k 1) (.inl rfl) (.int .i64 (((evR p (k + 1) f.toNat (ys.map (cut (k + 1)))).getD i []).getD k 0)) one2 rfl (hd20.getI z64_0).1 zN (lw_tv 1 rfl (q_add ((k + 1 : Nat) : Int) rfl rfl (w64n oM oM) zN (lw_callq 98 [] [] [(.int .i64 ((k + 1 : Nat) : Int))] rfl rfl cf98 zN (.int .i64 (inv ((k + 1 : Nat) : Int))) (fun wq => c_spec_l01Inv wq _ oM) ?_)))
          refine lw_callq 94 [] [] [(.int .i64 (((evR p (k + 1) f.toNat (ys.map (cut (k + 1)))).getD i []).getD k 0)), (.int .i64 (inv ((k + 1 : Nat) : Int)))] rfl rfl cf94 zN (.int .i64 (md ((((evR p (k + 1) f.toNat (ys.map (cut (k + 1)))).getD i []).getD k 0) * (inv ((k + 1 : Nat) : Int))))) (fun wq => c_spec_Times wq _ _ (hd20.getI z64_0).2 (inv_rng _)) ?_
          refine q_idx (v := ue19) (k + 1) u25 ti2 rfl rfl hd19.isSl rfl z64_0 zN ?_
          refine e_setM (v := vy) (u := ue19) (w := w16.drew) sz2 rfl rfl (md_rng _) hL16_0 z64_0 hl19 z64_0 zN fun w23 F23 hC23 hz23 hF23 hO23 => ?_
          replace hC23 := hC23.of_drew
          have hE23 : Ext w w23 := hC23.below hE16 (fun c hc => Nat.le_trans hE1.size (hF23 c hc).1) hE16.size
          have hzs23 : w16.heap.size ≤ w23.heap.size := hC23.size
          have hF24 := hL16_1.chg (o2) hC23 (fun c hc => by have := hF23 c hc; omega)
          refine lw_nil (wp_plain _ [0, 0, 0] rfl (lw_tv 1 rfl (q_add ((i + 1 : Nat) : Int) rfl rfl (w64n oM z64_0) zN (lw_tvn 1 rfl ?_))))
          exact ⟨(i + 1), _, rfl, ⟨rfl, rfl, rfl, rfl, rfl, rfl, rfl, trivial⟩, ⟨hE23, (by rw [spS_step oM]; have h := hO23; rw [hrw] at h; exact h), hF24, z64_0, oM⟩, by first | omega | (dsimp only; omega)⟩
        ·
          refine q_lss false rfl rfl (decide_eq_false hc18) zN (lw_nil (c_cond_f rfl (wp_exit (t_exit (t_exit (c_exit_here (wp_plain _ [0, 0, 0] rfl (lw_tv 1 rfl (q_add ((k + 1 : Nat) : Int) rfl rfl (w64n oM z64_0) zN (lw_tvn 1 rfl ?_))))))))))
          exact ⟨((k + 1), (mix i (spS (evR p (k + 1) f.toNat (ys.map (cut (k + 1)))) ys k) ys)), _, rfl, ⟨rfl, rfl, rfl, rfl, rfl, trivial⟩, ⟨hE16, hL16_0.up o2, z64_0, (by rw [mix_all (spS_len _ _ _) oM, hyf]; rfl), oM⟩, by first | omega | (dsimp only; omega)⟩
      ·
        refine q_lss false rfl rfl (decide_eq_false hc13) zN (lw_nil (c_cond_f rfl (wp_exit (t_exit (t_exit (c_exit_here (wp_seq (wp_plain _ [0, 0, 0] rfl (lw_tvn 3 rfl (wp_ret ?_))))))))))
        have hke : k = o.toNat := by omega
        exact post_ret [8, 9] rfl (.tuple #[vy, (.int .i64 ((0 : Nat) : Int))]) rfl ⟨vy, (by rw [hfc, hc0]; rfl), hE11, (by have h := (hL11_0.up o2).low hE1.size; rw [show flR p f.toNat (extS a (o.toNat + 1)) (o.toNat + 1) = ys from by unfold flR; rw [if_pos (by rw [hfc, hc0]), ← sp_flow hfl hc0, hyf, hke]]; exact h), oM⟩
theorem z27_0 {p : Prop} (h : p := by first | exact o_n oM | exact o_1 oM (inB_d (bn_t (by assumption) : (decide (((0 : Nat) : Int) ≤ g) && decide (g ≤ ((p.length : Nat) : Int) - 1)) = false)) | exact o_2 oM oM | exact o_3 oM (inB_d (bn_t (by assumption) : (decide (((0 : Nat) : Int) ≤ pk) && decide (pk ≤ (((p.getD g.toNat Fn.zero).outs.length : Nat) : Int) - 1)) = false)) | exact o_0 oM (inB_e (bn_f (by assumption) : (decide (((0 : Nat) : Int) ≤ g) && decide (g ≤ ((p.length : Nat) : Int) - 1)) = true)) oM (inB_e (bn_f (by assumption) : (decide (((0 : Nat) : Int) ≤ pk) && decide (pk ≤ (((p.getD g.toNat Fn.zero).outs.length : Nat) : Int) - 1)) = true))) : p := h
theorem c_spec_ObservableAlong (w : World) (dp : Nat) (vp : Value) (p : List Fn) (f : Int) (va : Value) (a : List Int) (g : Int) (pk : Int) (o : Int) (hp : RP [] dp w.heap vp p) (_hf : -9223372036854775808 ≤ f ∧ f ≤ 9223372036854775807) (ha : Rd (rdL rI) w.heap va a) (_hg : -9223372036854775808 ≤ g ∧ g ≤ 9223372036854775807) (_hpk : -9223372036854775808 ≤ pk ∧ pk ≤ 9223372036854775807) (_ho : -9223372036854775808 ≤ o ∧ o ≤ 9223372036854775807) (hz : SzP p) :
    Calls Tryz.prog 27 #[(.agg #[vp]), .int .i64 f, va, .int .i64 g, .int .i64 pk, .int .i64 o] w (fun e w' => ∃ v0 : Value, e = .returned (.tuple #[v0, .int .i64 (obK p f a o g pk)]) ∧ Ext w w' ∧ Fr (owL rI 2) w.heap.size w'.heap.size w'.heap v0 (obR p f a o g pk)) := by
  refine calls_mk [(.agg #[vp]), .int .i64 f, va, .int .i64 g, .int .i64 pk, .int .i64 o] 91 Tryz.func27 rfl rfl sM ?_
  have hE0 : Ext w w := Ext.refl w
  have hl_vp := hp.lenle
  unfold maxLen at hl_vp
  have hl_va := ha.lenle
  refine wp_seq (wp_plain _ [3, 0, 0] rfl (r_boxA (cs := #[vp]) rfl zN fun w1 hX1 hz1 hB1 => ?_))
  have hzs1 : w.heap.size ≤ w1.heap.size := hX1.size
  have hE1 : Ext w w1 := hE0.trans hX1
  replace hB1 : BX w1.heap w.heap.size [vp] := hB1
  refine lw_tvn 2 rfl (wp_seq (wp_plain _ [0, 0, 0, 3, 0] rfl (lw_tv 3 rfl (lw_call 62 [] [] [(.pointer (some ⟨w.heap.size, 0, none⟩)), (.int .i64 f), va, (.int .i64 o)] rfl rfl cf62 zN (c_spec_l07Field _ dp ((.pointer (some ⟨w.heap.size, 0, none⟩))) (p) _ _ _ _ (RN.box hB1 (RP.mk' (hp.ext (good_rdS (good_rFn dp)) hE1)) sM) _hf (ha.ext g1 hE1) _ho (by exact hz)) ?_))))
  rintro e2 w2 ⟨rfl, hX2⟩
  refine ⟨_, rfl, hX2, ?_⟩
  have hzs2 : w1.heap.size ≤ w2.heap.size := hX2.size
  have hE2 : Ext w w2 := hE1.trans hX2
  have hB1x2 := hB1.ext hX2
  refine lw_tvn 1 rfl (wp_seq (c_cut (S := Int) (fun (c : Int) => ([(14, (.int .i64 c)), (1, (.int .i64 f)), (2, va), (3, (.int .i64 g)), (4, (.int .i64 pk)), (5, (.int .i64 o)), (6, (.pointer (some ⟨w.heap.size, 0, none⟩)))] : List (Nat × Value))) (fun (c : Int) (W : World) => Ext w W ∧ BX W.heap w.heap.size [vp] ∧ c = obC0 p f a o g pk) ?_ ?_))
  ·
    refine wp_seq (wp_draw _ [0, 0, 0, 0, 0, 1, 0, 0, 0, 0, 0, 0, 1, 0, 0, 0, 1, 0, 1, 0, 0, 0, 1, 0, 0, 0, 0, 0, 1, 0, 0, 0, 1, 0, 0, 0, 0, 0, 0] mixed (by kernel_rfl) (lw_tv 1 rfl ?_))
    by_cases hc4 : stC p f o [a] = ((0 : Nat) : Int)
    ·
      refine q_eql true rfl rfl (decide_eq_true hc4) zN (lw_tv 2 rfl ?_)
      have hfo := fld_of (p := p) (f := f) (o := o) (a := a) oM
      refine q_fldP (p := (.pointer (some ⟨w.heap.size, 0, none⟩))) (b := w.heap.size) (o := 0) 0 fd32_0 rfl rfl (zS (e := 23) rfl rfl rfl) (q_load (p := (padd (.pointer (some ⟨w.heap.size, 0, none⟩)) 0)) (.inl rfl) vp one30 rfl (hB1x2.ldp (i := 0) sM) (zS (e := 23) rfl rfl rfl) (q_len (v := vp) u30 rfl hp.isSl (zS (e := 23) rfl rfl rfl) (q_sub (((p.length : Nat) : Int) - 1) rfl rfl (w64 oM oM) (zS (e := 23) rfl rfl rfl) (lw_callq 63 [] [] [(.int .i64 g), (.int .i64 ((0 : Nat) : Int)), (.int .i64 (((p.length : Nat) : Int) - 1))] rfl rfl cf63 (zS (e := 23) rfl rfl rfl) (.bool (decide (((0 : Nat) : Int) ≤ g) && decide (g ≤ (((p.length : Nat) : Int) - 1)))) (fun wq => c_spec_l00In wq _ _ _ _hg oM oM) ?_))))
      refine q_not (!(decide (((0 : Nat) : Int) ≤ g) && decide (g ≤ (((p.length : Nat) : Int) - 1)))) rfl rfl (zS (e := 23) rfl rfl rfl) (lw_tv 1 rfl ?_)
      cases hb6 : (!(decide (((0 : Nat) : Int) ≤ g) && decide (g ≤ (((p.length : Nat) : Int) - 1))))
      ·
        have hgi := inB_e (bn_f (by assumption) : (decide (((0 : Nat) : Int) ≤ g) && decide (g ≤ ((p.length : Nat) : Int) - 1)) = true)
        refine q_fldP (p := (.pointer (some ⟨w.heap.size, 0, none⟩))) (b := w.heap.size) (o := 0) 0 fd32_0 rfl rfl (zS (e := 31) rfl rfl rfl) (q_load (p := (padd (.pointer (some ⟨w.heap.size, 0, none⟩)) 0)) (.inl rfl) vp one30 rfl (hB1x2.ldp (i := 0) sM) (zS (e := 31) rfl rfl rfl) (lw_tv 1 rfl (q_idx (v := vp) ((g).toNat) u30 tiS80 rfl rfl hp.isSl oM sD (zS (e := 31) rfl rfl rfl) ?_)))
        obtain ⟨cs7, hr7, hl7⟩ := hp.get (good_rFn dp) Fn.zero (k := ((g).toNat)) sD
        obtain ⟨ve7, rfl, hx7⟩ := RF.of hr7
        have hln7 := hx7.rn.lenle
        unfold maxLen at hln7
        refine q_fldL (p := eptr vp ((g).toNat) 3) 1 fd80_1 rfl (hl7 _ (Chg.of_ext [] hE2.drew)) (zS (e := 31) rfl rfl rfl) (q_load (p := (padd (eptr vp ((g).toNat) 3) 1)) (.inl rfl) (.int .i64 ((p.getD ((g).toNat) Fn.zero).params)) one2 rfl ((hl7 _ (Chg.of_ext [] hE2.drew)).ld (i := 1) (by simp [exC, fnC])) (zS (e := 31) rfl rfl rfl) (q_fldP (p := (.pointer (some ⟨w.heap.size, 0, none⟩))) (b := w.heap.size) (o := 0) 0 fd32_0 rfl rfl (zS (e := 31) rfl rfl rfl) (q_load (p := (padd (.pointer (some ⟨w.heap.size, 0, none⟩)) 0)) (.inl rfl) vp one30 rfl (hB1x2.ldp (i := 0) sM) (zS (e := 31) rfl rfl rfl) (lw_tv 1 rfl ?_))))
        refine q_idx (v := vp) ((f).toNat) u30 tiS80 rfl rfl hp.isSl oM sD (zS (e := 31) rfl rfl rfl) ?_
        obtain ⟨cs8, hr8, hl8⟩ := hp.get (good_rFn dp) Fn.zero (k := ((f).toNat)) sD
        obtain ⟨ve8, rfl, hx8⟩ := RF.of hr8
        have hln8 := hx8.rn.lenle
        unfold maxLen at hln8
        refine q_fldL (p := eptr vp ((f).toNat) 3) 1 fd80_1 rfl (hl8 _ (Chg.of_ext [] hE2.drew)) (zS (e := 31) rfl rfl rfl) (q_load (p := (padd (eptr vp ((f).toNat) 3) 1)) (.inl rfl) (.int .i64 ((p.getD ((f).toNat) Fn.zero).params)) one2 rfl ((hl8 _ (Chg.of_ext [] hE2.drew)).ld (i := 1) (by simp [exC, fnC])) (zS (e := 31) rfl rfl rfl) ?_)
        by_cases hc9 : (p.getD ((g).toNat) Fn.zero).params ≠ (p.getD ((f).toNat) Fn.zero).params
        ·
          refine q_neq true rfl rfl (decide_eq_true hc9) (zS (e := 31) rfl rfl rfl) (lw_tvn 15 rfl (c_cond_t rfl (wp_plain _ [0] rfl (lw_tvn 1 rfl ?_))))
          exact ⟨((2 : Nat) : Int), _, rfl, ⟨rfl, rfl, rfl, rfl, rfl, rfl, rfl, trivial⟩, ⟨hE2.drew, hB1x2, z27_0⟩⟩
        ·
          refine q_neq false rfl rfl (decide_eq_false hc9) (zS (e := 31) rfl rfl rfl) (lw_tv 3 rfl (q_fldP (p := (.pointer (some ⟨w.heap.size, 0, none⟩))) (b := w.heap.size) (o := 0) 0 fd32_0 rfl rfl (zS (e := 46) rfl rfl rfl) (q_load (p := (padd (.pointer (some ⟨w.heap.size, 0, none⟩)) 0)) (.inl rfl) vp one30 rfl (hB1x2.ldp (i := 0) sM) (zS (e := 46) rfl rfl rfl) (lw_tv 1 rfl ?_))))
          refine q_idx (v := vp) ((g).toNat) u30 tiS80 rfl rfl hp.isSl oM sD (zS (e := 46) rfl rfl rfl) (q_fldL (p := eptr vp ((g).toNat) 3) 2 fd80_2 rfl (hl7 _ (Chg.of_ext [] hE2.drew)) (zS (e := 46) rfl rfl rfl) (q_load (p := (padd (eptr vp ((g).toNat) 3) 2)) (.inl rfl) ve7 one78 rfl ((hl7 _ (Chg.of_ext [] hE2.drew)).ld (i := 2) (by simp [exC, fnC])) (zS (e := 46) rfl rfl rfl) (q_len (v := ve7) u78 rfl hx7.rn.isSl (zS (e := 46) rfl rfl rfl) ?_)))
          refine q_sub ((((p.getD g.toNat Fn.zero).outs.length : Nat) : Int) - 1) rfl rfl (w64 oM oM) (zS (e := 46) rfl rfl rfl) (lw_callq 63 [] [] [(.int .i64 pk), (.int .i64 ((0 : Nat) : Int)), (.int .i64 ((((p.getD g.toNat Fn.zero).outs.length : Nat) : Int) - 1))] rfl rfl cf63 (zS (e := 46) rfl rfl rfl) (.bool (decide (((0 : Nat) : Int) ≤ pk) && decide (pk ≤ ((((p.getD g.toNat Fn.zero).outs.length : Nat) : Int) - 1)))) (fun wq => c_spec_l00In wq _ _ _ _hpk oM oM) (q_not (!(decide (((0 : Nat) : Int) ≤ pk) && decide (pk ≤ ((((p.getD g.toNat Fn.zero).outs.length : Nat) : Int) - 1)))) rfl rfl (zS (e := 46) rfl rfl rfl) (lw_tvn 2 rfl ?_)))
          cases hb11 : (!(decide (((0 : Nat) : Int) ≤ pk) && decide (pk ≤ ((((p.getD g.toNat Fn.zero).outs.length : Nat) : Int) - 1))))
          ·
            exact c_cond_f (by first | rfl | (show Value.bool _ = _; rw [hb11])) (wp_skip ⟨(stC p f o [a]), _, rfl, ⟨rfl, rfl, rfl, rfl, rfl, rfl, rfl, trivial⟩, ⟨hE2.drew, hB1x2, z27_0⟩⟩)
          ·
            refine c_cond_t (by first | rfl | (show Value.bool _ = _; rw [hb11])) (wp_plain _ [0] rfl (lw_tvn 1 rfl ?_))
            exact ⟨((2 : Nat) : Int), _, rfl, ⟨rfl, rfl, rfl, rfl, rfl, rfl, rfl, trivial⟩, ⟨hE2.drew, hB1x2, z27_0⟩⟩
      ·
        exact lw_tvn 28 rfl (c_cond_t rfl (wp_plain _ [0] rfl (lw_tvn 1 rfl ⟨((2 : Nat) : Int), _, rfl, ⟨rfl, rfl, rfl, rfl, rfl, rfl, rfl, trivial⟩, ⟨hE2.drew, hB1x2, z27_0⟩⟩)))
    ·
      refine q_eql false rfl rfl (decide_eq_false hc4) zN (lw_tvn 37 rfl (c_cond_f rfl (wp_skip ?_)))
      exact ⟨(stC p f o [a]), _, rfl, ⟨rfl, rfl, rfl, rfl, rfl, rfl, rfl, trivial⟩, ⟨hE2.drew, hB1x2, z27_0⟩⟩
  ·
    clear hE0 hz1 hX1 hzs1 hE1 hX2 hzs2 hE2
    rintro c ρ3 w3 ⟨hE3, hL3_0, hcc⟩
    have hzs3 : w.heap.size ≤ w3.heap.size := hE3.size
    have hcr := obC0_rng p f a o g pk
    have hq12 := hL3_0.lt
    refine wp_seq (wp_seq (wp_plain _ [0, 0] rfl (lw_tv 1 rfl ?_)))
    by_cases hc13 : c ≠ ((0 : Nat) : Int)
    ·
      refine q_neq true rfl rfl (decide_eq_true hc13) zN (lw_nil (c_cond_t rfl (wp_seq (wp_plain _ [3, 0, 0, 0] rfl (r_nil (rI) good_rI u25 ti2 zN fun v14 w14 hX14 hz14 hO14 => ?_)))))
      have hzs14 : w3.heap.size ≤ w14.heap.size := hX14.size
      have hE14 : Ext w w14 := hE3.trans hX14
      have hL3_0x14 := hL3_0.ext hX14
      refine lw_tvn 3 rfl (wp_ret (t_ret ?_))
      have hk9 : obK p f a o g pk = obC0 p f a o g pk := obK_n oM
      exact post_ret [12, 13] rfl (.tuple #[v14, (.int .i64 c)]) rfl ⟨v14, (by rw [hk9, hcc]), hE14, (by rw [obR_n oM]; exact (hO14.up o1).low hE3.size)⟩
    ·
      refine q_neq false rfl rfl (decide_eq_false hc13) zN (lw_nil (c_cond_f rfl (wp_skip (wp_seq (wp_plain _ [0, 0, 0, 3, 0, 0, 0, 0, 0] rfl ?_)))))
      have hc0 : obC0 p f a o g pk = 0 := by omega
      have hq0 := obC0_0 hc0
      refine lw_tv 3 rfl (lw_call 64 [] [] [(.pointer (some ⟨w.heap.size, 0, none⟩)), (.int .i64 f), va, (.int .i64 o)] rfl rfl cf64 zN (c_spec_l07Flow _ dp ((.pointer (some ⟨w.heap.size, 0, none⟩))) (p) _ _ _ _ (RN.box hL3_0 (RP.mk' (hp.ext (good_rdS (good_rFn dp)) hE3)) sM) _hf (ha.ext g1 hE3) _ho (by exact hq0.1.1) (by exact hq0.1.2.1) (by exact hq0.1.2.2)) ?_)
      rintro e15 w15 ⟨v15_0, rfl, hX15, hO15_0, hP15_0⟩
      refine ⟨_, rfl, hX15, ?_⟩
      have hzs15 : w3.heap.size ≤ w15.heap.size := hX15.size
      have hE15 : Ext w w15 := hE3.trans hX15
      have hL3_0x15 := hL3_0.ext hX15
      refine lw_tv 1 rfl (q_extract (vs := [v15_0, (.int .i64 (flC p f.toNat (extS a (o.toNat + 1)) (o.toNat + 1)))]) v15_0 rfl rfl zN (q_extract (vs := [v15_0, (.int .i64 (flC p f.toNat (extS a (o.toNat + 1)) (o.toNat + 1)))]) (.int .i64 (flC p f.toNat (extS a (o.toNat + 1)) (o.toNat + 1))) rfl rfl zN (lw_tvn 2 rfl (wp_seq (wp_seq (wp_plain _ [0, 0] rfl (lw_tv 1 rfl ?_)))))))
      by_cases hc16 : flC p f.toNat (extS a (o.toNat + 1)) (o.toNat + 1) ≠ ((0 : Nat) : Int)
      ·
        refine q_neq true rfl rfl (decide_eq_true hc16) zN (lw_nil (c_cond_t rfl (wp_seq (wp_plain _ [3, 0, 0, 0] rfl (r_nil (rI) good_rI u25 ti2 zN fun v17 w17 hX17 hz17 hO17 => ?_)))))
        have hzs17 : w15.heap.size ≤ w17.heap.size := hX17.size
        have hE17 : Ext w w17 := hE15.trans hX17
        have hL3_0x17 := hL3_0x15.ext hX17
        have hO15_0x17 := hO15_0.ext (o2) hX17
        refine lw_tvn 3 rfl (wp_ret (t_ret ?_))
        have hk9 : obK p f a o g pk = obD p f a o := obK_d hc0 (by unfold obD; omega)
        exact post_ret [12, 13] rfl (.tuple #[v17, (.int .i64 (flC p f.toNat (extS a (o.toNat + 1)) (o.toNat + 1)))]) rfl ⟨v17, (by rw [hk9]; rfl), hE17, (by rw [obR_n (by rw [hk9]; unfold obD; omega)]; exact (hO17.up o1).low hE15.size)⟩
      ·
        refine q_neq false rfl rfl (decide_eq_false hc16) zN (lw_nil (c_cond_f rfl (wp_skip (wp_seq (wp_plain _ [0, 0, 0, 0, 3, 0, 0, 0, 0, 0] rfl ?_)))))
        have hd0 : obD p f a o = 0 := by unfold obD; omega
        have hyp := obY_P hc0 hd0
        unfold obY at hyp
        refine lw_tv 3 rfl (q_add ((o.toNat + 1 : Nat) : Int) rfl rfl (by rw [w64 oM oM]; omega) zN (lw_call 65 [] [] [(.pointer (some ⟨w.heap.size, 0, none⟩)), (.int .i64 g), v15_0, (.int .i64 ((o.toNat + 1 : Nat) : Int))] rfl rfl cf65 zN (c_spec_l03Eval _ dp ((.pointer (some ⟨w.heap.size, 0, none⟩))) (p) _ v15_0 (flR p f.toNat (extS a (o.toNat + 1)) (o.toNat + 1)) (o.toNat + 1) (RN.box hL3_0x15 (RP.mk' (hp.ext (good_rdS (good_rFn dp)) hE15)) sM) _hg (RN.of_fr2 hO15_0 (fun b hb => by cases hb)) hO15_0.cap (by exact hq0.1.1.hv) oM (by exact hyp.1.2) (by exact hyp.2.1) oM) ?_))
        rintro e18 w18 ⟨v18_0, rfl, hX18, hO18_0, hP18_0⟩
        refine ⟨_, rfl, hX18, ?_⟩
        have hzs18 : w15.heap.size ≤ w18.heap.size := hX18.size
        have hE18 : Ext w w18 := hE15.trans hX18
        have hL3_0x18 := hL3_0x15.ext hX18
        have hO15_0x18 := hO15_0.ext (o2) hX18
        refine lw_tv 1 rfl (q_extract (vs := [v18_0, (.int .i64 (evD p (o.toNat + 1) g.toNat (flR p f.toNat (extS a (o.toNat + 1)) (o.toNat + 1))))]) v18_0 rfl rfl zN (q_extract (vs := [v18_0, (.int .i64 (evD p (o.toNat + 1) g.toNat (flR p f.toNat (extS a (o.toNat + 1)) (o.toNat + 1))))]) (.int .i64 (evD p (o.toNat + 1) g.toNat (flR p f.toNat (extS a (o.toNat + 1)) (o.toNat + 1)))) rfl rfl zN (lw_tvn 2 rfl (wp_seq (wp_seq (wp_plain _ [0, 0] rfl (lw_tv 1 rfl ?_)))))))
        by_cases hc19 : evD p (o.toNat + 1) g.toNat (flR p f.toNat (extS a (o.toNat + 1)) (o.toNat + 1)) ≠ ((0 : Nat) : Int)
        ·
          refine q_neq true rfl rfl (decide_eq_true hc19) zN (lw_nil (c_cond_t rfl (wp_seq (wp_plain _ [3, 0, 0, 0] rfl (r_nil (rI) good_rI u25 ti2 zN fun v20 w20 hX20 hz20 hO20 => ?_)))))
          have hzs20 : w18.heap.size ≤ w20.heap.size := hX20.size
          have hE20 : Ext w w20 := hE18.trans hX20
          have hL3_0x20 := hL3_0x18.ext hX20
          have hO15_0x20 := hO15_0x18.ext (o2) hX20
          have hO18_0x20 := hO18_0.ext (o2) hX20
          refine lw_tvn 3 rfl (wp_ret (t_ret ?_))
          have hk9 : obK p f a o g pk = evD p (o.toNat + 1) g.toNat (obY p f a o) := obK_e hc0 hd0
          exact post_ret [12, 13] rfl (.tuple #[v20, (.int .i64 (evD p (o.toNat + 1) g.toNat (flR p f.toNat (extS a (o.toNat + 1)) (o.toNat + 1))))]) rfl ⟨v20, (by rw [hk9]; rfl), hE20, (by rw [obR_n (by rw [hk9]; unfold obY; omega)]; exact (hO20.up o1).low hE18.size)⟩
        ·
          refine q_neq false rfl rfl (decide_eq_false hc19) zN (lw_nil (c_cond_f rfl (wp_skip (wp_seq (wp_plain _ [0, 0, 0, 2, 0, 0] rfl ?_)))))
          have hv1 : evD p (o.toNat + 1) g.toNat (flR p f.toNat (extS a (o.toNat + 1)) (o.toNat + 1)) = 0 := by omega
          have hel := hyp.2.2.len hv1
          have hev := (hyp.2.2.ser pk.toNat oM).1
          have hv0 : evD p (o.toNat + 1) g.toNat (obY p f a o) = 0 := hv1
          refine lw_tv 2 rfl (q_idx (v := v18_0) ((pk).toNat) u27 ti25 rfl rfl hO18_0.isSl oM sD zN ?_)
          obtain ⟨ue21, hl21, hd21⟩ := hO18_0.rd2.get (k := (pk).toNat) [] sD
          have hln21 := hd21.lenle
          refine q_load (p := eptr v18_0 ((pk).toNat) 1) (.inr rfl) ue21 one25 rfl hl21 zN (lw_tvn 2 rfl (wp_ret ?_))
          have hrw22 := Fr.rowFr o1 hO18_0 sD hl21
          have hk9 : obK p f a o g pk = 0 := (obK_e hc0 hd0).trans hv0
          exact post_ret [12, 13] rfl (.tuple #[ue21, (.int .i64 ((0 : Nat) : Int))]) rfl ⟨ue21, (by rw [hk9]; rfl), hE18, (by rw [obR_0 hk9]; exact (hrw22.up o1).low hE15.size)⟩
end Go.Proofs.YtnofbmdpabcjaaaGreat
namespace Go.Proofs.YtnofbmdpabcjaaaGreat
open Go Go.RowKit
set_option linter.unusedVariables false
set_option linter.unusedSimpArgs false
set_option maxHeartbeats 4000000
set_option maxRecDepth 100000
attribute [local irreducible] LW
theorem isF_non {p : List Fn} {g : Int} (h : isF p g ≠ 0) (hok : okP p = true) : ¬ (0 ≤ g ∧ g ≤ ((p.length : Nat) : Int) - 1) := fun hh => h (by unfold isF; rw [if_pos hok, if_pos hh])
theorem c_evaluatedI (w : World) (dp : Nat) (vp : Value) (p : List Fn) (f : Int) (va : Value) (a : List (List Int)) (oi : Int) (hp : RP [] dp w.heap vp p) (_hf : -9223372036854775808 ≤ f ∧ f ≤ 9223372036854775807) (ha : RN [] (rdL (rdL rI)) w.heap va a) (hqa : CapS va) (_hoi : -9223372036854775808 ≤ oi ∧ oi ≤ 9223372036854775807) (hvp : VPr p) (hf : 0 ≤ f ∧ f < ((p.length : Nat) : Int)) (hl : ((a.length : Nat) : Int) = (p.getD f.toNat Fn.zero).params) (hse : SrE (oi.toNat + 1) a) (ho : 0 ≤ oi ∧ oi ≤ 12) :
    Calls Tryz.prog 69 #[.agg #[vp], .int .i64 f, va, .int .i64 oi] w (fun e w' => ∃ v0 : Value, e = .returned (.tuple #[v0, .int .i64 ((evT p (oi.toNat + 1) f.toNat a : Nat) : Int), .int .i64 (evD p (oi.toNat + 1) f.toNat a)]) ∧ Ext w w' ∧ Fr (owL (owL rI 2) 25) w.heap.size w'.heap.size w'.heap v0 (evR p (oi.toNat + 1) f.toNat a) ∧ EvP p (oi.toNat + 1) f.toNat a) := by
  obtain ⟨n, rfl⟩ := Int.eq_ofNat_of_zero_le ho.1
  exact c_impl_Program_evaluated w dp vp p f va a n hp _hf ha hqa hvp hf hl hse (by omega)
theorem ob_len {p : List Fn} {f o g pk : Int} {a : Sr} : (obR p f a o g pk).length ≤ 13 := by
  by_cases h : obK p f a o g pk = 0
  · have h1 : obC0 p f a o g pk = 0 := Decidable.byContradiction fun hh => hh ((obK_n hh).symm.trans h)
    have h2 : obD p f a o = 0 := Decidable.byContradiction fun hh => hh ((obK_d h1 hh).symm.trans h)
    obtain ⟨_, _, q⟩ := obY_P h1 h2
    have ho := (obC0_0 h1).1.2.2
    rw [obR_0 h]
    by_cases hk : pk.toNat < (evR p (o.toNat + 1) g.toNat (obY p f a o)).length
    · have := (q.ser _ hk).1; omega
    · rw [List.getD_eq_getElem?_getD, List.getElem?_eq_none (by omega)]; simp
  · rw [obR_n h]; simp
theorem z28_0 {p : Prop} (h : p := by first | exact o_n oM | exact o_1 oM (isF_non (by assumption) hok) | exact o_2 oM oM | exact o_3 oM (inB_d (bn_t (by assumption) : (decide (((0 : Nat) : Int) ≤ pk) && decide (pk ≤ (((p.getD g.toNat Fn.zero).outs.length : Nat) : Int) - 1)) = false)) | exact o_0 oM ⟨hgi.1, by omega⟩ oM (inB_e (bn_f (by assumption) : (decide (((0 : Nat) : Int) ≤ pk) && decide (pk ≤ (((p.getD g.toNat Fn.zero).outs.length : Nat) : Int) - 1)) = true))) : p := h
theorem c_impl_ObservableAlong (w : World) (dp : Nat) (vp : Value) (p : List Fn) (f : Int) (va : Value) (a : List Int) (g : Int) (pk : Int) (o : Int) (hp : RP [] dp w.heap vp p) (_hf : -9223372036854775808 ≤ f ∧ f ≤ 9223372036854775807) (ha : Rd (rdL rI) w.heap va a) (_hg : -9223372036854775808 ≤ g ∧ g ≤ 9223372036854775807) (_hpk : -9223372036854775808 ≤ pk ∧ pk ≤ 9223372036854775807) (_ho : -9223372036854775808 ≤ o ∧ o ≤ 9223372036854775807) (hz : SzP p) :
    Calls Tryz.prog 28 #[(.agg #[vp]), .int .i64 f, va, .int .i64 g, .int .i64 pk, .int .i64 o] w (fun e w' => ∃ v0 : Value, e = .returned (.tuple #[v0, .int .i64 (obK p f a o g pk)]) ∧ Ext w w' ∧ Fr (owL rI 2) w.heap.size w'.heap.size w'.heap v0 (obR p f a o g pk) ∧ (0 ≤ obK p f a o g pk ∧ obK p f a o g pk ≤ 9) ∧ (obR p f a o g pk).length ≤ 13) := by
  refine calls_mk [(.agg #[vp]), .int .i64 f, va, .int .i64 g, .int .i64 pk, .int .i64 o] 90 Tryz.func28 rfl rfl sM ?_
  have hE0 : Ext w w := Ext.refl w
  have hl_vp := hp.lenle
  unfold maxLen at hl_vp
  have hl_va := ha.lenle
  refine wp_seq (wp_plain _ [3, 0, 0] rfl (r_boxA (cs := #[vp]) rfl zN fun w1 hX1 hz1 hB1 => ?_))
  have hzs1 : w.heap.size ≤ w1.heap.size := hX1.size
  have hE1 : Ext w w1 := hE0.trans hX1
  replace hB1 : BX w1.heap w.heap.size [vp] := hB1
  refine lw_tvn 2 rfl (wp_seq (wp_plain _ [2, 0, 0, 0, 3, 3, 0] rfl (q_loadA (p := (.pointer (some ⟨w.heap.size, 0, none⟩))) (.inr rfl) [vp] agg32 rfl (fun w9 hw9 => LD.of_box (BX.ext (w := w1) hB1 hw9)) rfl zN (lw_tv 3 rfl (r_one (u := va) (B := w1.heap.size) good_rV u27 ti25 rfl rfl (frV w1.heap.size w1.heap.size _ ((RN.of ha).one1 g1)) (Nat.le_refl _) zN fun v2 w2 hX2 hz2 hO2 => ?_)))))
  have hzs2 : w1.heap.size ≤ w2.heap.size := hX2.size
  have hE2 : Ext w w2 := hE1.trans hX2
  have hB1x2 := hB1.ext hX2
  refine lw_call 66 [] [] [(.agg #[vp]), (.int .i64 f), (.int .i64 o), v2] rfl rfl cf66 zN (c_impl_isStart _ dp vp (p) _ _ v2 ([a]) (hp.ext (good_rdS (good_rFn dp)) hE2) _hf _ho (RN.ofOne hO2 ((RN.of ha).ext g1 hE2) (fun b hb => by cases hb)) (one_cap hO2) (by exact hz)) ?_
  rintro e3 w3 ⟨rfl, hX3⟩
  refine ⟨_, rfl, hX3, ?_⟩
  have hzs3 : w2.heap.size ≤ w3.heap.size := hX3.size
  have hE3 : Ext w w3 := hE2.trans hX3
  have hB1x3 := hB1x2.ext hX3
  refine lw_tvn 1 rfl (wp_seq (c_cut (S := Int) (fun (c : Int) => ([(14, (.int .i64 c)), (1, (.int .i64 f)), (2, va), (3, (.int .i64 g)), (4, (.int .i64 pk)), (5, (.int .i64 o)), (6, (.pointer (some ⟨w.heap.size, 0, none⟩)))] : List (Nat × Value))) (fun (c : Int) (W : World) => Ext w W ∧ BX W.heap w.heap.size [vp] ∧ c = obC0 p f a o g pk) ?_ ?_))
  ·
    refine wp_seq (wp_draw _ [0, 0, 0, 1, 0, 3, 0, 0, 0, 2, 0, 0, 0, 2, 0, 2, 0, 0, 0, 2, 0, 0, 0, 0, 0, 2, 0, 0, 0, 2, 0, 0, 0, 0, 0, 0] mixed (by kernel_rfl) (lw_tv 1 rfl ?_))
    by_cases hc5 : stC p f o ([a]) = ((0 : Nat) : Int)
    ·
      refine q_eql true rfl rfl (decide_eq_true hc5) zN (lw_tv 1 rfl ?_)
      have hfo := fld_of (p := p) (f := f) (o := o) (a := a) oM
      have hok := (stC_one (p := p) (f := f) (o := o) (a := a) oM).1
      refine q_loadA (p := (.pointer (some ⟨w.heap.size, 0, none⟩))) (.inl rfl) [vp] agg32 rfl (fun w9 hw9 => LD.of_box (BX.ext (w := w3.drew) hB1x3 hw9)) rfl (zS (e := 26) rfl rfl rfl) (lw_tv 1 rfl (lw_call 67 [] [] [(.agg #[vp]), (.int .i64 g)] rfl rfl cf67 (zS (e := 26) rfl rfl rfl) (c_impl_isFunc _ dp vp (p) _ (hp.ext (good_rdS (good_rFn dp)) hE3.drew) _hg (by exact hz)) ?_))
      rintro e6 w6 ⟨rfl, hX6⟩
      refine ⟨_, rfl, hX6, ?_⟩
      replace hX6 := hX6.of_drew
      have hzs6 : w3.heap.size ≤ w6.heap.size := hX6.size
      have hE6 : Ext w w6 := hE3.trans hX6
      have hB1x6 := hB1x3.ext hX6
      by_cases hc7 : isF p g ≠ ((0 : Nat) : Int)
      ·
        exact q_neq true rfl rfl (decide_eq_true hc7) (zS (e := 26) rfl rfl rfl) (lw_tvn 29 rfl (c_cond_t rfl (wp_plain _ [0] rfl (lw_tvn 1 rfl ⟨((2 : Nat) : Int), _, rfl, ⟨rfl, rfl, rfl, rfl, rfl, rfl, rfl, trivial⟩, ⟨hE6, hB1x6, z28_0⟩⟩))))
      ·
        refine q_neq false rfl rfl (decide_eq_false hc7) (zS (e := 26) rfl rfl rfl) (lw_tv 1 rfl ?_)
        have hgi := (isF_0 (p := p) (f := g) oM).2
        refine q_fldP (p := (.pointer (some ⟨w.heap.size, 0, none⟩))) (b := w.heap.size) (o := 0) 0 fd32_0 rfl rfl (zS (e := 31) rfl rfl rfl) (q_load (p := (padd (.pointer (some ⟨w.heap.size, 0, none⟩)) 0)) (.inr rfl) vp one30 rfl (hB1x6.ldp (i := 0) sM) (zS (e := 31) rfl rfl rfl) (lw_tv 1 rfl (q_idx (v := vp) ((g).toNat) u30 tiS80 rfl rfl hp.isSl oM sD (zS (e := 31) rfl rfl rfl) ?_)))
        obtain ⟨cs8, hr8, hl8⟩ := hp.get (good_rFn dp) Fn.zero (k := ((g).toNat)) sD
        obtain ⟨ve8, rfl, hx8⟩ := RF.of hr8
        have hln8 := hx8.rn.lenle
        unfold maxLen at hln8
        refine q_fldL (p := eptr vp ((g).toNat) 3) 1 fd80_1 rfl (hl8 _ (Chg.of_ext [] hE6)) (zS (e := 31) rfl rfl rfl) (q_load (p := (padd (eptr vp ((g).toNat) 3) 1)) (.inr rfl) (.int .i64 ((p.getD ((g).toNat) Fn.zero).params)) one2 rfl ((hl8 _ (Chg.of_ext [] hE6)).ld (i := 1) (by simp [exC, fnC])) (zS (e := 31) rfl rfl rfl) (q_fldP (p := (.pointer (some ⟨w.heap.size, 0, none⟩))) (b := w.heap.size) (o := 0) 0 fd32_0 rfl rfl (zS (e := 31) rfl rfl rfl) (q_load (p := (padd (.pointer (some ⟨w.heap.size, 0, none⟩)) 0)) (.inr rfl) vp one30 rfl (hB1x6.ldp (i := 0) sM) (zS (e := 31) rfl rfl rfl) (lw_tv 1 rfl ?_))))
        refine q_idx (v := vp) ((f).toNat) u30 tiS80 rfl rfl hp.isSl oM sD (zS (e := 31) rfl rfl rfl) ?_
        obtain ⟨cs9, hr9, hl9⟩ := hp.get (good_rFn dp) Fn.zero (k := ((f).toNat)) sD
        obtain ⟨ve9, rfl, hx9⟩ := RF.of hr9
        have hln9 := hx9.rn.lenle
        unfold maxLen at hln9
        refine q_fldL (p := eptr vp ((f).toNat) 3) 1 fd80_1 rfl (hl9 _ (Chg.of_ext [] hE6)) (zS (e := 31) rfl rfl rfl) (q_load (p := (padd (eptr vp ((f).toNat) 3) 1)) (.inr rfl) (.int .i64 ((p.getD ((f).toNat) Fn.zero).params)) one2 rfl ((hl9 _ (Chg.of_ext [] hE6)).ld (i := 1) (by simp [exC, fnC])) (zS (e := 31) rfl rfl rfl) ?_)
        by_cases hc10 : (p.getD ((g).toNat) Fn.zero).params ≠ (p.getD ((f).toNat) Fn.zero).params
        ·
          exact q_neq true rfl rfl (decide_eq_true hc10) (zS (e := 31) rfl rfl rfl) (lw_tvn 15 rfl (c_cond_t rfl (wp_plain _ [0] rfl (lw_tvn 1 rfl ⟨((2 : Nat) : Int), _, rfl, ⟨rfl, rfl, rfl, rfl, rfl, rfl, rfl, trivial⟩, ⟨hE6, hB1x6, z28_0⟩⟩))))
        ·
          refine q_neq false rfl rfl (decide_eq_false hc10) (zS (e := 31) rfl rfl rfl) (lw_tv 3 rfl (q_fldP (p := (.pointer (some ⟨w.heap.size, 0, none⟩))) (b := w.heap.size) (o := 0) 0 fd32_0 rfl rfl (zS (e := 46) rfl rfl rfl) (q_load (p := (padd (.pointer (some ⟨w.heap.size, 0, none⟩)) 0)) (.inr rfl) vp one30 rfl (hB1x6.ldp (i := 0) sM) (zS (e := 46) rfl rfl rfl) (lw_tv 1 rfl ?_))))
          refine q_idx (v := vp) ((g).toNat) u30 tiS80 rfl rfl hp.isSl oM sD (zS (e := 46) rfl rfl rfl) (q_fldL (p := eptr vp ((g).toNat) 3) 2 fd80_2 rfl (hl8 _ (Chg.of_ext [] hE6)) (zS (e := 46) rfl rfl rfl) (q_load (p := (padd (eptr vp ((g).toNat) 3) 2)) (.inr rfl) ve8 one78 rfl ((hl8 _ (Chg.of_ext [] hE6)).ld (i := 2) (by simp [exC, fnC])) (zS (e := 46) rfl rfl rfl) (q_len (v := ve8) u78 rfl hx8.rn.isSl (zS (e := 46) rfl rfl rfl) ?_)))
          refine q_sub ((((p.getD g.toNat Fn.zero).outs.length : Nat) : Int) - 1) rfl rfl (w64 oM oM) (zS (e := 46) rfl rfl rfl) (lw_callq 68 [] [] [(.int .i64 pk), (.int .i64 ((0 : Nat) : Int)), (.int .i64 ((((p.getD g.toNat Fn.zero).outs.length : Nat) : Int) - 1))] rfl rfl cf68 (zS (e := 46) rfl rfl rfl) (.bool (decide (((0 : Nat) : Int) ≤ pk) && decide (pk ≤ ((((p.getD g.toNat Fn.zero).outs.length : Nat) : Int) - 1)))) (fun wq => c_impl_within wq _ _ _ _hpk oM oM) (q_not (!(decide (((0 : Nat) : Int) ≤ pk) && decide (pk ≤ ((((p.getD g.toNat Fn.zero).outs.length : Nat) : Int) - 1)))) rfl rfl (zS (e := 46) rfl rfl rfl) (lw_tvn 2 rfl ?_)))
          cases hb12 : (!(decide (((0 : Nat) : Int) ≤ pk) && decide (pk ≤ ((((p.getD g.toNat Fn.zero).outs.length : Nat) : Int) - 1))))
          ·
            exact c_cond_f (by first | rfl | (show Value.bool _ = _; rw [hb12])) (wp_skip ⟨(stC p f o ([a])), _, rfl, ⟨rfl, rfl, rfl, rfl, rfl, rfl, rfl, trivial⟩, ⟨hE6, hB1x6, z28_0⟩⟩)
          ·
            exact c_cond_t (by first | rfl | (show Value.bool _ = _; rw [hb12])) (wp_plain _ [0] rfl (lw_tvn 1 rfl ⟨((2 : Nat) : Int), _, rfl, ⟨rfl, rfl, rfl, rfl, rfl, rfl, rfl, trivial⟩, ⟨hE6, hB1x6, z28_0⟩⟩))
    ·
      exact q_eql false rfl rfl (decide_eq_false hc5) zN (lw_tvn 34 rfl (c_cond_f rfl (wp_skip ⟨(stC p f o ([a])), _, rfl, ⟨rfl, rfl, rfl, rfl, rfl, rfl, rfl, trivial⟩, ⟨hE3.drew, hB1x3, z28_0⟩⟩)))
  ·
    clear hE0 hz1 hX1 hzs1 hE1 hO2 hz2 hX2 hzs2 hE2 hX3 hzs3 hE3
    rintro c ρ4 w4 ⟨hE4, hL4_0, hcc⟩
    have hzs4 : w.heap.size ≤ w4.heap.size := hE4.size
    have hcr := obC0_rng p f a o g pk
    have hq13 := hL4_0.lt
    refine wp_seq (wp_seq (wp_plain _ [0, 0] rfl (lw_tv 1 rfl ?_)))
    by_cases hc14 : c ≠ ((0 : Nat) : Int)
    ·
      refine q_neq true rfl rfl (decide_eq_true hc14) zN (lw_nil (c_cond_t rfl (wp_seq (wp_plain _ [0, 0, 0] rfl (lw_tvn 3 rfl (wp_ret (t_ret ?_)))))))
      have hk9 : obK p f a o g pk = obC0 p f a o g pk := obK_n oM
      exact post_ret [12, 13] rfl (.tuple #[(.slice none 0 0), (.int .i64 c)]) rfl ⟨(.slice none 0 0), (by rw [hk9, hcc]), hE4, (by rw [obR_n oM]; exact frNil _ _ _), (by rw [hk9]; omega), ob_len⟩
    ·
      refine q_neq false rfl rfl (decide_eq_false hc14) zN (lw_nil (c_cond_f rfl (wp_skip (wp_seq (wp_plain _ [2, 0, 0, 0, 3, 0, 0, 0, 0, 0] rfl ?_)))))
      have hc0 : obC0 p f a o g pk = 0 := by omega
      have hq0 := obC0_0 hc0
      refine q_loadA (p := (.pointer (some ⟨w.heap.size, 0, none⟩))) (.inr rfl) [vp] agg32 rfl (fun w9 hw9 => LD.of_box (BX.ext (w := w4) hL4_0 hw9)) rfl zN (lw_tv 3 rfl (lw_call 54 [] [] [(.agg #[vp]), (.int .i64 f), va, (.int .i64 o)] rfl rfl cf54 zN (c_impl_Program_flow _ dp vp (p) _ _ _ _ (hp.ext (good_rdS (good_rFn dp)) hE4) _hf (ha.ext g1 hE4) _ho (by exact hq0.1.1.hv) oM (by exact hq0.1.1.hl) (by exact hq0.1.1.ho) (by exact hq0.1.1.h0) (by exact hq0.1.1.hn) oM) ?_))
      rintro e15 w15 ⟨v15_0, rfl, hX15, hO15_0, hP15_0⟩
      refine ⟨_, rfl, hX15, ?_⟩
      have hzs15 : w4.heap.size ≤ w15.heap.size := hX15.size
      have hE15 : Ext w w15 := hE4.trans hX15
      have hL4_0x15 := hL4_0.ext hX15
      refine lw_tv 1 rfl (q_extract (vs := [v15_0, (.int .i64 (flC p f.toNat (extS a (o.toNat + 1)) (o.toNat + 1)))]) v15_0 rfl rfl zN (q_extract (vs := [v15_0, (.int .i64 (flC p f.toNat (extS a (o.toNat + 1)) (o.toNat + 1)))]) (.int .i64 (flC p f.toNat (extS a (o.toNat + 1)) (o.toNat + 1))) rfl rfl zN (lw_tvn 2 rfl (wp_seq (wp_seq (wp_plain _ [0, 0] rfl ?_))))))
      have hdr : 0 ≤ obD p f a o ∧ obD p f a o ≤ 9 := (‹FlP p f.toNat (extS a (o.toNat + 1)) (o.toNat + 1) o.toNat›).code
      unfold obD at hdr
      refine lw_tv 1 rfl ?_
      by_cases hc16 : flC p f.toNat (extS a (o.toNat + 1)) (o.toNat + 1) ≠ ((0 : Nat) : Int)
      ·
        refine q_neq true rfl rfl (decide_eq_true hc16) zN (lw_nil (c_cond_t rfl (wp_seq (wp_plain _ [0, 0, 0] rfl (lw_tvn 3 rfl (wp_ret (t_ret ?_)))))))
        have hk9 : obK p f a o g pk = obD p f a o := obK_d hc0 (by unfold obD; omega)
        exact post_ret [12, 13] rfl (.tuple #[(.slice none 0 0), (.int .i64 (flC p f.toNat (extS a (o.toNat + 1)) (o.toNat + 1)))]) rfl ⟨(.slice none 0 0), (by rw [hk9]; rfl), hE15, (by rw [obR_n (by rw [hk9]; unfold obD; omega)]; exact frNil _ _ _), (by rw [hk9]; unfold obD; omega), ob_len⟩
      ·
        refine q_neq false rfl rfl (decide_eq_false hc16) zN (lw_nil (c_cond_f rfl (wp_skip (wp_seq (wp_plain _ [2, 0, 0, 0, 3, 0, 0, 0, 0, 0, 0, 0] rfl ?_)))))
        have hd0 : obD p f a o = 0 := by unfold obD; omega
        have hyp := obY_P hc0 hd0
        unfold obY at hyp
        have hvc := hyp.2.2.code
        refine q_loadA (p := (.pointer (some ⟨w.heap.size, 0, none⟩))) (.inr rfl) [vp] agg32 rfl (fun w9 hw9 => LD.of_box (BX.ext (w := w15) hL4_0x15 hw9)) rfl zN (lw_tv 3 rfl (lw_call 69 [] [] [(.agg #[vp]), (.int .i64 g), v15_0, (.int .i64 o)] rfl rfl cf69 zN (c_evaluatedI _ dp vp (p) _ v15_0 (flR p f.toNat (extS a (o.toNat + 1)) (o.toNat + 1)) _ (hp.ext (good_rdS (good_rFn dp)) hE15) _hg (RN.of_fr2 hO15_0 (fun b hb => by cases hb)) hO15_0.cap _ho (by exact hq0.1.1.hv) oM (by exact hyp.1.2) (by exact hyp.2.1) oM) ?_))
        rintro e17 w17 ⟨v17_0, rfl, hX17, hO17_0, hP17_0⟩
        refine ⟨_, rfl, hX17, ?_⟩
        have hzs17 : w15.heap.size ≤ w17.heap.size := hX17.size
        have hE17 : Ext w w17 := hE15.trans hX17
        have hL4_0x17 := hL4_0x15.ext hX17
        have hO15_0x17 := hO15_0.ext (o2) hX17
        refine lw_tv 1 rfl (q_extract (vs := [v17_0, (.int .i64 ((evT p (o.toNat + 1) g.toNat (flR p f.toNat (extS a (o.toNat + 1)) (o.toNat + 1)) : Nat) : Int)), (.int .i64 (evD p (o.toNat + 1) g.toNat (flR p f.toNat (extS a (o.toNat + 1)) (o.toNat + 1))))]) v17_0 rfl rfl zN (q_extract (vs := [v17_0, (.int .i64 ((evT p (o.toNat + 1) g.toNat (flR p f.toNat (extS a (o.toNat + 1)) (o.toNat + 1)) : Nat) : Int)), (.int .i64 (evD p (o.toNat + 1) g.toNat (flR p f.toNat (extS a (o.toNat + 1)) (o.toNat + 1))))]) (.int .i64 ((evT p (o.toNat + 1) g.toNat (flR p f.toNat (extS a (o.toNat + 1)) (o.toNat + 1)) : Nat) : Int)) rfl rfl zN ?_))
        refine q_extract (vs := [v17_0, (.int .i64 ((evT p (o.toNat + 1) g.toNat (flR p f.toNat (extS a (o.toNat + 1)) (o.toNat + 1)) : Nat) : Int)), (.int .i64 (evD p (o.toNat + 1) g.toNat (flR p f.toNat (extS a (o.toNat + 1)) (o.toNat + 1))))]) (.int .i64 (evD p (o.toNat + 1) g.toNat (flR p f.toNat (extS a (o.toNat + 1)) (o.toNat + 1)))) rfl rfl zN (lw_tvn 3 rfl (wp_seq (wp_seq (wp_plain _ [0, 0] rfl (lw_tv 1 rfl ?_)))))
        by_cases hc18 : evD p (o.toNat + 1) g.toNat (flR p f.toNat (extS a (o.toNat + 1)) (o.toNat + 1)) ≠ ((0 : Nat) : Int)
        ·
          refine q_neq true rfl rfl (decide_eq_true hc18) zN (lw_nil (c_cond_t rfl (wp_seq (wp_plain _ [0, 0, 0] rfl (lw_tvn 3 rfl (wp_ret (t_ret ?_)))))))
          have hk9 : obK p f a o g pk = evD p (o.toNat + 1) g.toNat (obY p f a o) := obK_e hc0 hd0
          exact post_ret [12, 13] rfl (.tuple #[(.slice none 0 0), (.int .i64 (evD p (o.toNat + 1) g.toNat (flR p f.toNat (extS a (o.toNat + 1)) (o.toNat + 1))))]) rfl ⟨(.slice none 0 0), (by rw [hk9]; rfl), hE17, (by rw [obR_n (by rw [hk9]; unfold obY; omega)]; exact frNil _ _ _), (by rw [hk9]; unfold obY; omega), ob_len⟩
        ·
          refine q_neq false rfl rfl (decide_eq_false hc18) zN (lw_nil (c_cond_f rfl (wp_skip (wp_seq (wp_plain _ [0, 0, 0, 2, 0, 0] rfl ?_)))))
          have hv1 : evD p (o.toNat + 1) g.toNat (flR p f.toNat (extS a (o.toNat + 1)) (o.toNat + 1)) = 0 := by omega
          have hel := hyp.2.2.len hv1
          have hev := (hyp.2.2.ser pk.toNat oM).1
          have hv0 : evD p (o.toNat + 1) g.toNat (obY p f a o) = 0 := hv1
          refine lw_tv 2 rfl (q_idx (v := v17_0) ((pk).toNat) u27 ti25 rfl rfl hO17_0.isSl oM sD zN ?_)
          obtain ⟨ue19, hl19, hd19⟩ := hO17_0.rd2.get (k := (pk).toNat) [] sD
          have hln19 := hd19.lenle
          refine q_load (p := eptr v17_0 ((pk).toNat) 1) (.inr rfl) ue19 one25 rfl hl19 zN (lw_tvn 2 rfl (wp_ret ?_))
          have hrw20 := Fr.rowFr o1 hO17_0 sD hl19
          have hk9 : obK p f a o g pk = 0 := (obK_e hc0 hd0).trans hv0
          exact post_ret [12, 13] rfl (.tuple #[ue19, (.int .i64 ((0 : Nat) : Int))]) rfl ⟨ue19, (by rw [hk9]; rfl), hE17, (by rw [obR_0 hk9]; exact (hrw20.up o1).low hE15.size), (by rw [hk9]; exact ⟨by decide, by decide⟩), ob_len⟩
end Go.Proofs.YtnofbmdpabcjaaaGreat
namespace Go.Proofs.YtnofbmdpabcjaaaGreat
open Go Go.RowKit
set_option linter.unusedVariables false
set_option linter.unusedSimpArgs false
set_option maxHeartbeats 4000000
set_option maxRecDepth 100000
attribute [local irreducible] LW
theorem z6_0 {p : Prop} (h : p := by first | rfl | (exfalso; omega) | simp_all) : p := h
theorem c_laws_FnExactObservableAlong (w : World) (dp : Nat) (vp : Value) (p : List Fn) (f : Int) (va : Value) (a : List Int) (g : Int) (pk : Int) (o : Int) (hp : RP [] dp w.heap vp p) (_hf : -9223372036854775808 ≤ f ∧ f ≤ 9223372036854775807) (ha : Rd (rdL rI) w.heap va a) (_hg : -9223372036854775808 ≤ g ∧ g ≤ 9223372036854775807) (_hpk : -9223372036854775808 ≤ pk ∧ pk ≤ 9223372036854775807) (_ho : -9223372036854775808 ≤ o ∧ o ≤ 9223372036854775807) (hnm : ∀ k, k < p.length → (p.getD k Fn.zero).name.size ≤ 9223372036854775807) :
    Calls Tryz.prog 6 #[(.agg #[vp]), .int .i64 f, va, .int .i64 g, .int .i64 pk, .int .i64 o] w (fun e w' => e = .returned (.bool true) ∧ Ext w w') := by
  refine calls_mk [(.agg #[vp]), .int .i64 f, va, .int .i64 g, .int .i64 pk, .int .i64 o] 137 Tryz.func6 rfl rfl sM ?_
  have hE0 : Ext w w := Ext.refl w
  have hl_vp := hp.lenle
  unfold maxLen at hl_vp
  have hl_va := ha.lenle
  refine wp_seq (wp_plain _ [3, 0] rfl (r_boxA (cs := #[vp]) rfl zN fun w1 hX1 hz1 hB1 => ?_))
  have hzs1 : w.heap.size ≤ w1.heap.size := hX1.size
  have hE1 : Ext w w1 := hE0.trans hX1
  replace hB1 : BX w1.heap w.heap.size [vp] := hB1
  refine lw_tvn 1 rfl (wp_seq (wp_seq (wp_plain _ [0, 0, 0] rfl (lw_tv 1 rfl (q_len (v := va) u25 rfl ha.isSl zN ?_)))))
  by_cases hc2 : ((1048576 : Nat) : Int) < ((a.length : Nat) : Int)
  ·
    exact q_gtr true rfl rfl (decide_eq_true hc2) zN (lw_nil (c_cond_t rfl (wp_seq (wp_plain _ [0] rfl (lw_tvn 1 rfl (wp_ret (t_ret (post_ret [12] rfl (.bool true) rfl ⟨z6_0, hE1⟩))))))))
  ·
    refine q_gtr false rfl rfl (decide_eq_false hc2) zN (lw_nil (c_cond_f rfl (wp_skip (wp_seq (wp_plain _ [0] rfl (lw_tvn 1 rfl (wp_seq (wp_plain _ [2, 0, 3, 0] rfl (q_loadA (p := (.pointer (some ⟨w.heap.size, 0, none⟩))) (.inr rfl) [vp] agg24 rfl (fun w9 hw9 => LD.of_box (BX.ext (w := w1) hB1 hw9)) rfl zN (lw_tv 1 rfl (lw_call 9 [] [] [(.agg #[vp]), (.int .i64 ((1048576 : Nat) : Int))] rfl rfl cf9 zN (c_laws_szProgram _ dp vp (p) _ (hp.ext (good_rdS (good_rFn dp)) hE1) oM oM (by exact hnm)) ?_)))))))))))
    rintro e3 w3 ⟨rfl, hX3⟩
    refine ⟨_, rfl, hX3, ?_⟩
    have hzs3 : w1.heap.size ≤ w3.heap.size := hX3.size
    have hE3 : Ext w w3 := hE1.trans hX3
    have hB1x3 := hB1.ext hX3
    refine lw_tvn 1 rfl (wp_seq (wp_seq (wp_plain _ [0, 0] rfl (lw_tv 1 rfl ?_))))
    by_cases hc4 : szV (szP p) ((1048576 : Nat) : Int) < ((0 : Nat) : Int)
    ·
      exact q_lss true rfl rfl (decide_eq_true hc4) zN (lw_nil (c_cond_t rfl (wp_seq (wp_plain _ [0] rfl (lw_tvn 1 rfl (wp_ret (t_ret (post_ret [12] rfl (.bool true) rfl ⟨z6_0, hE3⟩))))))))
    ·
      refine q_lss false rfl rfl (decide_eq_false hc4) zN (lw_nil (c_cond_f rfl (wp_skip (wp_seq (wp_plain _ [2, 3, 0, 0, 3, 0, 0, 0, 3, 0, 0, 0, 0, 0] rfl ?_)))))
      have hzv := szV_pos (t := szP p) (x := ((1048576 : Nat) : Int)) oM
      have hz0 : szP p ≤ 1048576 := by omega
      have hz := szP_ok hz0
      refine q_loadA (p := (.pointer (some ⟨w.heap.size, 0, none⟩))) (.inr rfl) [vp] agg24 rfl (fun w9 hw9 => LD.of_box (BX.ext (w := w3) hB1x3 hw9)) rfl zN (lw_call 11 [] [] [(.agg #[vp])] rfl rfl cf11 zN (c_laws_toProgram _ dp vp (p) (hp.ext (good_rdS (good_rFn dp)) hE3) oM) ?_)
      rintro e5 w5 ⟨v5, rfl, hX5, hO5⟩
      refine ⟨_, rfl, hX5, ?_⟩
      have hzs5 : w3.heap.size ≤ w5.heap.size := hX5.size
      have hE5 : Ext w w5 := hE3.trans hX5
      have hB1x5 := hB1x3.ext hX5
      refine lw_tv 2 rfl (lw_call 12 [] [] [va] rfl rfl cf12 zN (c_laws_toInt64S _ _ _ (ha.ext g1 hE5) oM) ?_)
      rintro e6 w6 ⟨v6_0, rfl, hX6, hO6_0⟩
      refine ⟨_, rfl, hX6, ?_⟩
      have hzs6 : w5.heap.size ≤ w6.heap.size := hX6.size
      have hE6 : Ext w w6 := hE5.trans hX6
      have hB1x6 := hB1x5.ext hX6
      have hO5x6 := hO5.ext ((good_owS (good_oFn 94 dp))) hX6
      refine lw_tv 3 rfl (lw_call 27 [] [] [(.agg #[v5]), (.int .i64 f), v6_0, (.int .i64 g), (.int .i64 pk), (.int .i64 o)] rfl rfl cf27 zN (c_spec_ObservableAlong _ dp v5 (p) _ _ _ _ _ _ (RN.of_frF hO5x6 (fun b hb => by cases hb)) _hf hO6_0.rd1 _hg _hpk _ho (by exact hz)) ?_)
      rintro e7 w7 ⟨v7_0, rfl, hX7, hO7_0⟩
      refine ⟨_, rfl, hX7, ?_⟩
      have hzs7 : w6.heap.size ≤ w7.heap.size := hX7.size
      have hE7 : Ext w w7 := hE6.trans hX7
      have hB1x7 := hB1x6.ext hX7
      have hO5x7 := hO5x6.ext ((good_owS (good_oFn 94 dp))) hX7
      have hO6_0x7 := hO6_0.ext (o1) hX7
      refine lw_tv 1 rfl (q_extract (vs := [v7_0, (.int .i64 (obK p f a o g pk))]) v7_0 rfl rfl zN (q_extract (vs := [v7_0, (.int .i64 (obK p f a o g pk))]) (.int .i64 (obK p f a o g pk)) rfl rfl zN (lw_tvn 2 rfl (wp_seq (wp_plain _ [2, 3, 3, 4] rfl (q_loadA (p := (.pointer (some ⟨w.heap.size, 0, none⟩))) (.inr rfl) [vp] agg24 rfl (fun w9 hw9 => LD.of_box (BX.ext (w := w7) hB1x7 hw9)) rfl zN (lw_call 11 [] [] [(.agg #[vp])] rfl rfl cf11 zN (c_laws_toProgram _ dp vp (p) (hp.ext (good_rdS (good_rFn dp)) hE7) oM) ?_)))))))
      rintro e8 w8 ⟨v8, rfl, hX8, hO8⟩
      refine ⟨_, rfl, hX8, ?_⟩
      have hzs8 : w7.heap.size ≤ w8.heap.size := hX8.size
      have hE8 : Ext w w8 := hE7.trans hX8
      have hB1x8 := hB1x7.ext hX8
      have hO5x8 := hO5x7.ext ((good_owS (good_oFn 94 dp))) hX8
      have hO6_0x8 := hO6_0x7.ext (o1) hX8
      have hO7_0x8 := hO7_0.ext (o1) hX8
      have hq10 := hB1x8.lt
      refine r_allocA (z := .agg #[.slice none 0 0]) zr32 zN fun w9 hX9 hz9 hB9 => ?_
      have hzs9 : w8.heap.size ≤ w9.heap.size := hX9.size
      have hE9 : Ext w w9 := hE8.trans hX9
      have hB1x9 := hB1x8.ext hX9
      have hO5x9 := hO5x8.ext ((good_owS (good_oFn 94 dp))) hX9
      have hO6_0x9 := hO6_0x8.ext (o1) hX9
      have hO7_0x9 := hO7_0x8.ext (o1) hX9
      have hO8x9 := hO8.ext ((good_owS (good_oFn 94 dp))) hX9
      replace hB9 : BX w9.heap w8.heap.size [(.slice none 0 0)] := hB9
      refine e_setA (vs := [v8]) agg32 rfl rfl (by intro u hu; simp only [List.mem_cons, List.not_mem_nil, or_false] at hu; rcases hu with rfl <;> first | exact ⟨rfl, rfl⟩ | exact isSl_one hO8x9.isSlS) hB9 rfl rfl zN fun w11 hC11 hz11 hB11 => ?_
      replace hB11 : BX w11.heap w8.heap.size [v8] := hB11
      have hE11 : Ext w w11 := hC11.below hE9 (fun c hc => by have := List.mem_singleton.1 hc; omega) hE9.size
      have hzs11 : w9.heap.size ≤ w11.heap.size := hC11.size
      have hF12 := hB1x9.chg hC11 (fun hm => by have := List.mem_singleton.1 hm; omega)
      have hF13 := hO5x9.chg ((good_owS (good_oFn 94 dp))) hC11 (fun c hc => by have := List.mem_singleton.1 hc; omega)
      have hF14 := hO6_0x9.chg (o1) hC11 (fun c hc => by have := List.mem_singleton.1 hc; omega)
      have hF15 := hO7_0x9.chg (o1) hC11 (fun c hc => by have := List.mem_singleton.1 hc; omega)
      have hF16 := hO8x9.chg ((good_owS (good_oFn 94 dp))) hC11 (fun c hc => by have := List.mem_singleton.1 hc; omega)
      refine lw_nil (wp_seq (wp_plain _ [0, 3, 0] rfl (lw_tv 1 rfl (lw_call 12 [] [] [va] rfl rfl cf12 zN (c_laws_toInt64S _ _ _ (ha.ext g1 hE11) oM) ?_))))
      rintro e17 w17 ⟨v17_0, rfl, hX17, hO17_0⟩
      refine ⟨_, rfl, hX17, ?_⟩
      have hzs17 : w11.heap.size ≤ w17.heap.size := hX17.size
      have hE17 : Ext w w17 := hE11.trans hX17
      have hF12x17 := hF12.ext hX17
      have hF13x17 := hF13.ext ((good_owS (good_oFn 94 dp))) hX17
      have hF14x17 := hF14.ext (o1) hX17
      have hF15x17 := hF15.ext (o1) hX17
      have hF16x17 := hF16.ext ((good_owS (good_oFn 94 dp))) hX17
      have hB11x17 := hB11.ext hX17
      refine lw_tvn 1 rfl (wp_seq (wp_plain _ [2, 0, 0, 0, 0, 0, 3, 0, 0, 0, 0, 0] rfl (q_loadA (p := (.pointer (some ⟨w8.heap.size, 0, none⟩))) (.inr rfl) [v8] agg32 rfl (fun w9 hw9 => LD.of_box (BX.ext (w := w17) hB11x17 hw9)) rfl zN (lw_tv 5 rfl (lw_call 28 [] [] [(.agg #[v8]), (.int .i64 f), v17_0, (.int .i64 g), (.int .i64 pk), (.int .i64 o)] rfl rfl cf28 zN (c_impl_ObservableAlong _ dp v8 (p) _ _ _ _ _ _ (RN.of_frF hF16x17 (fun b hb => by cases hb)) _hf hO17_0.rd1 _hg _hpk _ho (by exact hz)) ?_)))))
      rintro e18 w18 ⟨v18_0, rfl, hX18, hO18_0, hP18_0, hP18_1⟩
      refine ⟨_, rfl, hX18, ?_⟩
      have hzs18 : w17.heap.size ≤ w18.heap.size := hX18.size
      have hE18 : Ext w w18 := hE17.trans hX18
      have hF12x18 := hF12x17.ext hX18
      have hF13x18 := hF13x17.ext ((good_owS (good_oFn 94 dp))) hX18
      have hF14x18 := hF14x17.ext (o1) hX18
      have hF15x18 := hF15x17.ext (o1) hX18
      have hF16x18 := hF16x17.ext ((good_owS (good_oFn 94 dp))) hX18
      have hB11x18 := hB11x17.ext hX18
      have hO17_0x18 := hO17_0.ext (o1) hX18
      refine lw_tv 1 rfl (q_extract (vs := [v18_0, (.int .i64 (obK p f a o g pk))]) v18_0 rfl rfl zN (q_extract (vs := [v18_0, (.int .i64 (obK p f a o g pk))]) (.int .i64 (obK p f a o g pk)) rfl rfl zN (lw_tvn 2 rfl (wp_seq (wp_seq (wp_plain _ [0, 0, 3, 0, 0, 0, 0, 0, 0] rfl (lw_tv 2 rfl (lw_call 16 [] [] [v18_0, v7_0] rfl rfl cf16 zN (c_laws_eqInt64S _ _ _ _ _ hO18_0.rd1 hF15x18.rd1) ?_))))))))
      rintro e19 w19 ⟨rfl, hX19⟩
      refine ⟨_, rfl, hX19, ?_⟩
      have hzs19 : w18.heap.size ≤ w19.heap.size := hX19.size
      have hE19 : Ext w w19 := hE18.trans hX19
      have hF12x19 := hF12x18.ext hX19
      have hF13x19 := hF13x18.ext ((good_owS (good_oFn 94 dp))) hX19
      have hF14x19 := hF14x18.ext (o1) hX19
      have hF15x19 := hF15x18.ext (o1) hX19
      have hF16x19 := hF16x18.ext ((good_owS (good_oFn 94 dp))) hX19
      have hB11x19 := hB11x18.ext hX19
      have hO17_0x19 := hO17_0x18.ext (o1) hX19
      have hO18_0x19 := hO18_0.ext (o1) hX19
      refine q_not (!(decide ((obR p f a o g pk) = (obR p f a o g pk)))) rfl rfl zN (lw_tv 1 rfl ?_)
      cases hb20 : (!(decide ((obR p f a o g pk) = (obR p f a o g pk))))
      ·
        refine lw_tv 2 rfl (q_neq false rfl rfl sM (zS (e := 63) rfl rfl rfl) (lw_tvn 1 rfl (c_cond_f rfl (wp_skip (wp_seq (wp_seq (wp_draw _ [1, 1, 3, 3, 0] mixed (by kernel_rfl) (q_loadA (p := (.pointer (some ⟨w8.heap.size, 0, none⟩))) (.inl rfl) [v8] agg32 rfl (fun w9 hw9 => LD.of_box (BX.ext (w := w19.drew) hB11x19 hw9)) rfl zN (q_loadA (p := (.pointer (some ⟨w.heap.size, 0, none⟩))) (.inl rfl) [vp] agg24 rfl (fun w9 hw9 => LD.of_box (BX.ext (w := w19.drew) hF12x19 hw9)) rfl zN (lw_call 11 [] [] [(.agg #[vp])] rfl rfl cf11 zN (c_laws_toProgram _ dp vp (p) (hp.ext (good_rdS (good_rFn dp)) hE19.drew) oM) ?_))))))))))
        rintro e21 w21 ⟨v21, rfl, hX21, hO21⟩
        refine ⟨_, rfl, hX21, ?_⟩
        replace hX21 := hX21.of_drew
        have hzs21 : w19.heap.size ≤ w21.heap.size := hX21.size
        have hE21 : Ext w w21 := hE19.trans hX21
        have hF12x21 := hF12x19.ext hX21
        have hF13x21 := hF13x19.ext ((good_owS (good_oFn 94 dp))) hX21
        have hF14x21 := hF14x19.ext (o1) hX21
        have hF15x21 := hF15x19.ext (o1) hX21
        have hF16x21 := hF16x19.ext ((good_owS (good_oFn 94 dp))) hX21
        have hB11x21 := hB11x19.ext hX21
        have hO17_0x21 := hO17_0x19.ext (o1) hX21
        have hO18_0x21 := hO18_0x19.ext (o1) hX21
        replace hO21 := hO21.low (B' := w19.heap.size) (Nat.le_refl _)
        refine lw_call 15 [] [] [(.agg #[v8]), (.agg #[v21])] rfl rfl cf15 zN (c_laws_eqProgram _ dp v8 (p) dp v21 (p) (RN.of_frF hF16x21 (fun b hb => by cases hb)) (RN.of_frF hO21 (fun b hb => by cases hb)) (by rfl)) ?_
        rintro e22 w22 ⟨rfl, hX22⟩
        refine ⟨_, rfl, hX22, ?_⟩
        have hzs22 : w21.heap.size ≤ w22.heap.size := hX22.size
        have hE22 : Ext w w22 := hE21.trans hX22
        have hF12x22 := hF12x21.ext hX22
        have hF13x22 := hF13x21.ext ((good_owS (good_oFn 94 dp))) hX22
        have hF14x22 := hF14x21.ext (o1) hX22
        have hF15x22 := hF15x21.ext (o1) hX22
        have hF16x22 := hF16x21.ext ((good_owS (good_oFn 94 dp))) hX22
        have hB11x22 := hB11x21.ext hX22
        have hO17_0x22 := hO17_0x21.ext (o1) hX22
        have hO18_0x22 := hO18_0x21.ext (o1) hX22
        have hO21x22 := hO21.ext ((good_owS (good_oFn 94 dp))) hX22
        refine q_not false rfl rfl zN (lw_nil (c_cond_f rfl (wp_skip (wp_seq (wp_seq (wp_plain _ [0, 0, 3, 3, 0] rfl (lw_tv 2 rfl (lw_call 12 [] [] [va] rfl rfl cf12 zN (c_laws_toInt64S _ _ _ (ha.ext g1 hE22) oM) ?_))))))))
        rintro e23 w23 ⟨v23_0, rfl, hX23, hO23_0⟩
        refine ⟨_, rfl, hX23, ?_⟩
        have hzs23 : w22.heap.size ≤ w23.heap.size := hX23.size
        have hE23 : Ext w w23 := hE22.trans hX23
        have hF12x23 := hF12x22.ext hX23
        have hF13x23 := hF13x22.ext ((good_owS (good_oFn 94 dp))) hX23
        have hF14x23 := hF14x22.ext (o1) hX23
        have hF15x23 := hF15x22.ext (o1) hX23
        have hF16x23 := hF16x22.ext ((good_owS (good_oFn 94 dp))) hX23
        have hB11x23 := hB11x22.ext hX23
        have hO17_0x23 := hO17_0x22.ext (o1) hX23
        have hO18_0x23 := hO18_0x22.ext (o1) hX23
        have hO21x23 := hO21x22.ext ((good_owS (good_oFn 94 dp))) hX23
        refine lw_call 16 [] [] [v17_0, v23_0] rfl rfl cf16 zN (c_laws_eqInt64S _ _ _ _ _ hO17_0x23.rd1 hO23_0.rd1) ?_
        rintro e24 w24 ⟨rfl, hX24⟩
        refine ⟨_, rfl, hX24, ?_⟩
        have hzs24 : w23.heap.size ≤ w24.heap.size := hX24.size
        have hE24 : Ext w w24 := hE23.trans hX24
        have hF12x24 := hF12x23.ext hX24
        have hF13x24 := hF13x23.ext ((good_owS (good_oFn 94 dp))) hX24
        have hF14x24 := hF14x23.ext (o1) hX24
        have hF15x24 := hF15x23.ext (o1) hX24
        have hF16x24 := hF16x23.ext ((good_owS (good_oFn 94 dp))) hX24
        have hB11x24 := hB11x23.ext hX24
        have hO17_0x24 := hO17_0x23.ext (o1) hX24
        have hO18_0x24 := hO18_0x23.ext (o1) hX24
        have hO21x24 := hO21x23.ext ((good_owS (good_oFn 94 dp))) hX24
        have hO23_0x24 := hO23_0.ext (o1) hX24
        refine q_not (!(decide (a = a))) rfl rfl zN (lw_nil ?_)
        cases hb25 : (!(decide (a = a)))
        ·
          refine c_cond_f (by first | rfl | (show Value.bool _ = _; rw [hb25])) (wp_skip (wp_seq (wp_plain _ [0] rfl ?_)))
          have hlt := ob_len (p := p) (f := f) (g := g) (o := o) (pk := pk) (a := a)
          refine lw_tvn 1 rfl (wp_seq (wp_plain _ [2, 0, 4, 0] rfl (q_loadA (p := (.pointer (some ⟨w8.heap.size, 0, none⟩))) (.inr rfl) [v8] agg32 rfl (fun w9 hw9 => LD.of_box (BX.ext (w := w24) hB11x24 hw9)) rfl zN (lw_tv 1 rfl ?_))))
          obtain ⟨F26, ho26, hn26, hF26⟩ := hF16x24
          refine lw_callE 17 [] [] [(.agg #[v8]), (.int .i64 ((1 : Nat) : Int))] rfl rfl cf17 zN (c_laws_markProgram _ dp v8 p F26 (((1 : Nat) : Int)) (ho26.imp fun h => oFn_h _ h) hn26 oM oM) ?_
          rintro e26 w26 ⟨k26, rfl, hC26, hO26, hk26⟩
          refine ⟨_, rfl, ?_⟩
          have hE26 : Ext w w26 := hC26.below hE24 (fun c hc => Nat.le_trans oM (hF26 c hc).1) hE24.size
          have hzs26 : w24.heap.size ≤ w26.heap.size := hC26.size
          have hF27 := hF12x24.chg hC26 (fun hm => by have := hF26 _ hm; omega)
          have hF28 := hF13x24.chg ((good_owS (good_oFn 94 dp))) hC26 (fun c hc => by have := hF26 c hc; omega)
          have hF29 := hF14x24.chg (o1) hC26 (fun c hc => by have := hF26 c hc; omega)
          have hF30 := hF15x24.chg (o1) hC26 (fun c hc => by have := hF26 c hc; omega)
          have hF31 := hB11x24.chg hC26 (fun hm => by have := hF26 _ hm; omega)
          have hF32 := hO17_0x24.chg (o1) hC26 (fun c hc => by have := hF26 c hc; omega)
          have hF33 := hO18_0x24.chg (o1) hC26 (fun c hc => by have := hF26 c hc; omega)
          have hF34 := hO21x24.chg ((good_owS (good_oFn 94 dp))) hC26 (fun c hc => by have := hF26 c hc; omega)
          have hF35 := hO23_0x24.chg (o1) hC26 (fun c hc => by have := hF26 c hc; omega)
          refine lw_tvn 1 rfl (wp_seq (wp_plain _ [0, 0, 4, 0] rfl (lw_tv 2 rfl ?_)))
          obtain ⟨G36, ha36, hb36, hc36⟩ := hF32
          refine lw_callE 18 [] [] [v17_0, (.int .i64 k26)] rfl rfl cf18 zN (c_laws_markInt64S _ _ _ _ _ ha36 hb36 oM oM) ?_
          rintro e36 w36 ⟨rfl, hC36, hO36⟩
          refine ⟨_, rfl, ?_⟩
          have hE36 : Ext w w36 := hC36.below hE26 (fun b hb => Nat.le_trans hE11.size (hc36 b hb).1) hE26.size
          have hF36 := hc36
          have hM36 : Fr (owL rI 2) w11.heap.size w17.heap.size w36.heap v17_0 _ := ⟨G36, hO36, hb36, hc36⟩
          have hzs36 : w26.heap.size ≤ w36.heap.size := hC36.size
          have hF37 := hF27.chg hC36 (fun hm => by have := hF36 _ hm; omega)
          have hF38 := hF28.chg ((good_owS (good_oFn 94 dp))) hC36 (fun c hc => by have := hF36 c hc; omega)
          have hF39 := hF29.chg (o1) hC36 (fun c hc => by have := hF36 c hc; omega)
          have hF40 := hF30.chg (o1) hC36 (fun c hc => by have := hF36 c hc; omega)
          have hF41 := hF31.chg hC36 (fun hm => by have := hF36 _ hm; omega)
          have hF42 := hF33.chg (o1) hC36 (fun c hc => by have := hF36 c hc; omega)
          have hF43 := hF34.chg ((good_owS (good_oFn 94 dp))) hC36 (fun c hc => by have := hF36 c hc; omega)
          have hF44 := hF35.chg (o1) hC36 (fun c hc => by have := hF36 c hc; omega)
          refine lw_tvn 1 rfl (wp_seq (wp_seq (wp_plain _ [0, 0, 0, 0, 0, 3, 0, 0, 0, 0, 0, 0, 0] rfl (lw_tv 1 rfl ?_))))
          by_cases hc45 : k26 + ((a.length : Nat) : Int) < ((0 : Nat) : Int)
          ·
            exact q_lss true rfl rfl (decide_eq_true hc45) zN (lw_tvn 11 rfl (c_cond_t rfl (wp_seq (wp_plain _ [0] rfl (lw_tvn 1 rfl (wp_ret (t_ret (post_ret [12] rfl (.bool false) rfl ⟨z6_0, hE36⟩))))))))
          ·
            refine q_lss false rfl rfl (decide_eq_false hc45) zN (lw_tv 3 rfl (lw_call 16 [] [] [v18_0, v7_0] rfl rfl cf16 (zS (e := 86) rfl rfl rfl) (c_laws_eqInt64S _ _ _ _ _ hF42.rd1 hF40.rd1) ?_))
            rintro e46 w46 ⟨rfl, hX46⟩
            refine ⟨_, rfl, hX46, ?_⟩
            have hzs46 : w36.heap.size ≤ w46.heap.size := hX46.size
            have hE46 : Ext w w46 := hE36.trans hX46
            have hF37x46 := hF37.ext hX46
            have hF38x46 := hF38.ext ((good_owS (good_oFn 94 dp))) hX46
            have hF39x46 := hF39.ext (o1) hX46
            have hF40x46 := hF40.ext (o1) hX46
            have hF41x46 := hF41.ext hX46
            have hM36x46 := hM36.ext (o1) hX46
            have hF42x46 := hF42.ext (o1) hX46
            have hF43x46 := hF43.ext ((good_owS (good_oFn 94 dp))) hX46
            have hF44x46 := hF44.ext (o1) hX46
            refine q_not (!(decide ((obR p f a o g pk) = (obR p f a o g pk)))) rfl rfl (zS (e := 86) rfl rfl rfl) (lw_tv 2 rfl ?_)
            cases hb47 : (!(decide ((obR p f a o g pk) = (obR p f a o g pk))))
            ·
              refine lw_tv 2 rfl (q_neq false rfl rfl sM (zS (e := 92) rfl rfl rfl) (lw_tvn 1 rfl (c_cond_f rfl (wp_skip (wp_seq (wp_plain _ [0] rfl (lw_tvn 1 rfl (wp_seq (wp_plain _ [0, 0, 4, 0] rfl (lw_tv 2 rfl ?_))))))))))
              obtain ⟨G48, ha48, hb48, hc48⟩ := hF42x46
              refine lw_callE 18 [] [] [v18_0, (.int .i64 ((1 : Nat) : Int))] rfl rfl cf18 zN (c_laws_markInt64S _ _ _ _ _ ha48 hb48 oM oM) ?_
              rintro e48 w48 ⟨rfl, hC48, hO48⟩
              refine ⟨_, rfl, ?_⟩
              have hE48 : Ext w w48 := hC48.below hE46 (fun b hb => Nat.le_trans hE17.size (hc48 b hb).1) hE46.size
              have hF48 := hc48
              have hM48 : Fr (owL rI 2) w17.heap.size w18.heap.size w48.heap v18_0 _ := ⟨G48, hO48, hb48, hc48⟩
              have hzs48 : w46.heap.size ≤ w48.heap.size := hC48.size
              have hF49 := hF37x46.chg hC48 (fun hm => by have := hF48 _ hm; omega)
              have hF50 := hF38x46.chg ((good_owS (good_oFn 94 dp))) hC48 (fun c hc => by have := hF48 c hc; omega)
              have hF51 := hF39x46.chg (o1) hC48 (fun c hc => by have := hF48 c hc; omega)
              have hF52 := hF40x46.chg (o1) hC48 (fun c hc => by have := hF48 c hc; omega)
              have hF53 := hF41x46.chg hC48 (fun hm => by have := hF48 _ hm; omega)
              have hF54 := hM36x46.chg (o1) hC48 (fun c hc => by have := hF48 c hc; omega)
              have hF55 := hF43x46.chg ((good_owS (good_oFn 94 dp))) hC48 (fun c hc => by have := hF48 c hc; omega)
              have hF56 := hF44x46.chg (o1) hC48 (fun c hc => by have := hF48 c hc; omega)
              refine lw_tvn 1 rfl (wp_seq (wp_plain _ [0] rfl (lw_tvn 1 rfl (wp_seq (wp_plain _ [0, 0, 3, 0] rfl (lw_tv 2 rfl (lw_call 29 [] [] [v18_0, (.int .i64 ((1 : Nat) : Int))] rfl rfl cf29 zN (c_laws_heldInt64S _ _ _ _ hM48.rd1 oM (by rw [up_len]; omega) (by intro i hi; rw [up_len] at hi; exact up_get hi)) ?_)))))))
              rintro e57 w57 ⟨rfl, hX57⟩
              refine ⟨_, rfl, hX57, ?_⟩
              have hzs57 : w48.heap.size ≤ w57.heap.size := hX57.size
              have hE57 : Ext w w57 := hE48.trans hX57
              have hF49x57 := hF49.ext hX57
              have hF50x57 := hF50.ext ((good_owS (good_oFn 94 dp))) hX57
              have hF51x57 := hF51.ext (o1) hX57
              have hF52x57 := hF52.ext (o1) hX57
              have hF53x57 := hF53.ext hX57
              have hF54x57 := hF54.ext (o1) hX57
              have hM48x57 := hM48.ext (o1) hX57
              have hF55x57 := hF55.ext ((good_owS (good_oFn 94 dp))) hX57
              have hF56x57 := hF56.ext (o1) hX57
              refine lw_tvn 1 rfl (wp_seq (wp_seq (wp_plain _ [0, 0] rfl (lw_tv 1 rfl ?_))))
              by_cases hc58 : ((1 : Nat) : Int) + (((up (obR p f a o g pk).length ((1 : Nat) : Int)).length : Nat) : Int) < ((0 : Nat) : Int)
              ·
                exact q_lss true rfl rfl (decide_eq_true hc58) zN (lw_nil (c_cond_t rfl (wp_seq (wp_plain _ [0] rfl (lw_tvn 1 rfl (wp_ret (t_ret (post_ret [12] rfl (.bool false) rfl ⟨z6_0, hE57⟩))))))))
              ·
                refine q_lss false rfl rfl (decide_eq_false hc58) zN (lw_nil (c_cond_f rfl (wp_skip (wp_seq (wp_seq (wp_plain _ [0, 0, 0] rfl ?_))))))
                have hmt : (up (obR p f a o g pk).length ((1 : Nat) : Int)).length = (obR p f a o g pk).length := up_len _ _
                refine lw_tv 2 rfl ?_
                by_cases hc59 : ((1 : Nat) : Int) + (((up (obR p f a o g pk).length ((1 : Nat) : Int)).length : Nat) : Int) ≠ ((1 : Nat) : Int) + (((obR p f a o g pk).length : Nat) : Int)
                ·
                  exact q_neq true rfl rfl (decide_eq_true hc59) zN (lw_nil (c_cond_t rfl (wp_seq (wp_plain _ [0] rfl (lw_tvn 1 rfl (wp_ret (t_ret (post_ret [12] rfl (.bool false) rfl ⟨z6_0, hE57⟩))))))))
                ·
                  refine q_neq false rfl rfl (decide_eq_false hc59) zN (lw_nil (c_cond_f rfl (wp_skip (wp_seq (wp_plain _ [2, 3, 0, 0, 3, 0, 0, 0, 3, 0, 0, 0, 0, 0] rfl (q_loadA (p := (.pointer (some ⟨w.heap.size, 0, none⟩))) (.inr rfl) [vp] agg24 rfl (fun w9 hw9 => LD.of_box (BX.ext (w := w57) hF49x57 hw9)) rfl zN (lw_call 11 [] [] [(.agg #[vp])] rfl rfl cf11 zN (c_laws_toProgram _ dp vp (p) (hp.ext (good_rdS (good_rFn dp)) hE57) oM) ?_)))))))
                  rintro e60 w60 ⟨v60, rfl, hX60, hO60⟩
                  refine ⟨_, rfl, hX60, ?_⟩
                  have hzs60 : w57.heap.size ≤ w60.heap.size := hX60.size
                  have hE60 : Ext w w60 := hE57.trans hX60
                  have hF49x60 := hF49x57.ext hX60
                  have hF50x60 := hF50x57.ext ((good_owS (good_oFn 94 dp))) hX60
                  have hF51x60 := hF51x57.ext (o1) hX60
                  have hF52x60 := hF52x57.ext (o1) hX60
                  have hF53x60 := hF53x57.ext hX60
                  have hF54x60 := hF54x57.ext (o1) hX60
                  have hM48x60 := hM48x57.ext (o1) hX60
                  have hF55x60 := hF55x57.ext ((good_owS (good_oFn 94 dp))) hX60
                  have hF56x60 := hF56x57.ext (o1) hX60
                  refine lw_tv 2 rfl (lw_call 12 [] [] [va] rfl rfl cf12 zN (c_laws_toInt64S _ _ _ (ha.ext g1 hE60) oM) ?_)
                  rintro e61 w61 ⟨v61_0, rfl, hX61, hO61_0⟩
                  refine ⟨_, rfl, hX61, ?_⟩
                  have hzs61 : w60.heap.size ≤ w61.heap.size := hX61.size
                  have hE61 : Ext w w61 := hE60.trans hX61
                  have hF49x61 := hF49x60.ext hX61
                  have hF50x61 := hF50x60.ext ((good_owS (good_oFn 94 dp))) hX61
                  have hF51x61 := hF51x60.ext (o1) hX61
                  have hF52x61 := hF52x60.ext (o1) hX61
                  have hF53x61 := hF53x60.ext hX61
                  have hF54x61 := hF54x60.ext (o1) hX61
                  have hM48x61 := hM48x60.ext (o1) hX61
                  have hF55x61 := hF55x60.ext ((good_owS (good_oFn 94 dp))) hX61
                  have hF56x61 := hF56x60.ext (o1) hX61
                  have hO60x61 := hO60.ext ((good_owS (good_oFn 94 dp))) hX61
                  refine lw_tv 3 rfl (lw_call 28 [] [] [(.agg #[v60]), (.int .i64 f), v61_0, (.int .i64 g), (.int .i64 pk), (.int .i64 o)] rfl rfl cf28 zN (c_impl_ObservableAlong _ dp v60 (p) _ _ _ _ _ _ (RN.of_frF hO60x61 (fun b hb => by cases hb)) _hf hO61_0.rd1 _hg _hpk _ho (by exact hz)) ?_)
                  rintro e62 w62 ⟨v62_0, rfl, hX62, hO62_0, hP62_0, hP62_1⟩
                  refine ⟨_, rfl, hX62, ?_⟩
                  have hzs62 : w61.heap.size ≤ w62.heap.size := hX62.size
                  have hE62 : Ext w w62 := hE61.trans hX62
                  have hF49x62 := hF49x61.ext hX62
                  have hF50x62 := hF50x61.ext ((good_owS (good_oFn 94 dp))) hX62
                  have hF51x62 := hF51x61.ext (o1) hX62
                  have hF52x62 := hF52x61.ext (o1) hX62
                  have hF53x62 := hF53x61.ext hX62
                  have hF54x62 := hF54x61.ext (o1) hX62
                  have hM48x62 := hM48x61.ext (o1) hX62
                  have hF55x62 := hF55x61.ext ((good_owS (good_oFn 94 dp))) hX62
                  have hF56x62 := hF56x61.ext (o1) hX62
                  have hO60x62 := hO60x61.ext ((good_owS (good_oFn 94 dp))) hX62
                  have hO61_0x62 := hO61_0.ext (o1) hX62
                  refine lw_tv 1 rfl (q_extract (vs := [v62_0, (.int .i64 (obK p f a o g pk))]) v62_0 rfl rfl zN (q_extract (vs := [v62_0, (.int .i64 (obK p f a o g pk))]) (.int .i64 (obK p f a o g pk)) rfl rfl zN (lw_tvn 2 rfl (wp_seq (wp_seq (wp_plain _ [0, 0, 3, 0, 0, 0, 0, 0, 0] rfl (lw_tv 2 rfl (lw_call 16 [] [] [v62_0, v7_0] rfl rfl cf16 zN (c_laws_eqInt64S _ _ _ _ _ hO62_0.rd1 hF52x62.rd1) ?_))))))))
                  rintro e63 w63 ⟨rfl, hX63⟩
                  refine ⟨_, rfl, hX63, ?_⟩
                  have hzs63 : w62.heap.size ≤ w63.heap.size := hX63.size
                  have hE63 : Ext w w63 := hE62.trans hX63
                  have hF49x63 := hF49x62.ext hX63
                  have hF50x63 := hF50x62.ext ((good_owS (good_oFn 94 dp))) hX63
                  have hF51x63 := hF51x62.ext (o1) hX63
                  have hF52x63 := hF52x62.ext (o1) hX63
                  have hF53x63 := hF53x62.ext hX63
                  have hF54x63 := hF54x62.ext (o1) hX63
                  have hM48x63 := hM48x62.ext (o1) hX63
                  have hF55x63 := hF55x62.ext ((good_owS (good_oFn 94 dp))) hX63
                  have hF56x63 := hF56x62.ext (o1) hX63
                  have hO60x63 := hO60x62.ext ((good_owS (good_oFn 94 dp))) hX63
                  have hO61_0x63 := hO61_0x62.ext (o1) hX63
                  have hO62_0x63 := hO62_0.ext (o1) hX63
                  refine q_not (!(decide ((obR p f a o g pk) = (obR p f a o g pk)))) rfl rfl zN (lw_tv 1 rfl ?_)
                  cases hb64 : (!(decide ((obR p f a o g pk) = (obR p f a o g pk))))
                  ·
                    refine lw_tv 2 rfl (q_neq false rfl rfl sM (zS (e := 124) rfl rfl rfl) (lw_tvn 1 rfl (c_cond_f rfl (wp_skip (wp_seq (wp_plain _ [0] rfl (lw_tvn 1 rfl (wp_seq (wp_plain _ [0, 0, 3, 0] rfl (lw_tv 2 rfl (lw_call 29 [] [] [v18_0, (.int .i64 ((1 : Nat) : Int))] rfl rfl cf29 zN (c_laws_heldInt64S _ _ _ _ hM48x63.rd1 oM (by rw [up_len]; omega) (by intro i hi; rw [up_len] at hi; exact up_get hi)) ?_)))))))))))
                    rintro e65 w65 ⟨rfl, hX65⟩
                    refine ⟨_, rfl, hX65, ?_⟩
                    have hzs65 : w63.heap.size ≤ w65.heap.size := hX65.size
                    have hE65 : Ext w w65 := hE63.trans hX65
                    have hF49x65 := hF49x63.ext hX65
                    have hF50x65 := hF50x63.ext ((good_owS (good_oFn 94 dp))) hX65
                    have hF51x65 := hF51x63.ext (o1) hX65
                    have hF52x65 := hF52x63.ext (o1) hX65
                    have hF53x65 := hF53x63.ext hX65
                    have hF54x65 := hF54x63.ext (o1) hX65
                    have hM48x65 := hM48x63.ext (o1) hX65
                    have hF55x65 := hF55x63.ext ((good_owS (good_oFn 94 dp))) hX65
                    have hF56x65 := hF56x63.ext (o1) hX65
                    have hO60x65 := hO60x63.ext ((good_owS (good_oFn 94 dp))) hX65
                    have hO61_0x65 := hO61_0x63.ext (o1) hX65
                    have hO62_0x65 := hO62_0x63.ext (o1) hX65
                    refine lw_tvn 1 rfl (wp_seq (wp_seq (wp_plain _ [0, 0] rfl (lw_tv 1 rfl ?_))))
                    by_cases hc66 : ((1 : Nat) : Int) + (((up (obR p f a o g pk).length ((1 : Nat) : Int)).length : Nat) : Int) < ((0 : Nat) : Int)
                    ·
                      exact q_lss true rfl rfl (decide_eq_true hc66) zN (lw_nil (c_cond_t rfl (wp_seq (wp_plain _ [0] rfl (lw_tvn 1 rfl (wp_ret (t_ret (post_ret [12] rfl (.bool false) rfl ⟨z6_0, hE65⟩))))))))
                    ·
                      refine q_lss false rfl rfl (decide_eq_false hc66) zN (lw_nil (c_cond_f rfl (wp_skip (wp_seq (wp_seq (wp_plain _ [0, 0, 0] rfl ?_))))))
                      have hmt : (up (obR p f a o g pk).length ((1 : Nat) : Int)).length = (obR p f a o g pk).length := up_len _ _
                      refine lw_tv 2 rfl ?_
                      by_cases hc67 : ((1 : Nat) : Int) + (((up (obR p f a o g pk).length ((1 : Nat) : Int)).length : Nat) : Int) ≠ ((1 : Nat) : Int) + (((obR p f a o g pk).length : Nat) : Int)
                      ·
                        exact q_neq true rfl rfl (decide_eq_true hc67) zN (lw_nil (c_cond_t rfl (wp_seq (wp_plain _ [0] rfl (lw_tvn 1 rfl (wp_ret (t_ret (post_ret [12] rfl (.bool false) rfl ⟨z6_0, hE65⟩))))))))
                      ·
                        exact q_neq false rfl rfl (decide_eq_false hc67) zN (lw_nil (c_cond_f rfl (wp_skip (wp_seq (wp_plain _ [0] rfl (lw_tvn 1 rfl (wp_ret (post_ret [12] rfl (.bool true) rfl ⟨z6_0, hE65⟩))))))))
                  ·
                    exact lw_tvn 4 rfl (c_cond_t rfl (wp_seq (wp_plain _ [0] rfl (lw_tvn 1 rfl (wp_ret (t_ret (post_ret [12] rfl (.bool false) rfl ⟨z6_0, hE63⟩)))))))
            ·
              exact lw_tvn 4 rfl (c_cond_t rfl (wp_seq (wp_plain _ [0] rfl (lw_tvn 1 rfl (wp_ret (t_ret (post_ret [12] rfl (.bool false) rfl ⟨z6_0, hE46⟩)))))))
        ·
          exact c_cond_t (by first | rfl | (show Value.bool _ = _; rw [hb25])) (wp_seq (wp_plain _ [0] rfl (lw_tvn 1 rfl (wp_ret (t_ret (post_ret [12] rfl (.bool false) rfl ⟨z6_0, hE24⟩))))))
      ·
        exact lw_tvn 4 rfl (c_cond_t rfl (wp_seq (wp_plain _ [0] rfl (lw_tvn 1 rfl (wp_ret (t_ret (post_ret [12] rfl (.bool false) rfl ⟨z6_0, hE19⟩)))))))
end Go.Proofs.YtnofbmdpabcjaaaGreat
namespace Go.Proofs.YtnofbmdpabcjaaaGreat
open Go Go.RowKit Go.ChangeShapes Go.WideShapes Go.Deep
set_option linter.unusedVariables false
set_option linter.unusedSimpArgs false
theorem flat_get {s : Nat} : ∀ {css : List (List Value)} (k : Nat) {j : Nat}, (∀ c ∈ css, c.length = s) → j < s → css.flatten[k * s + j]? = (css[k]?).bind fun c => c[j]?
  | [], k, j, _, _ => by simp
  | c :: css, 0, j, h, hj => by
    have hc := h c (List.mem_cons_self ..)
    rw [Nat.zero_mul, Nat.zero_add, List.flatten_cons, List.getElem?_append_left (by omega)]
    simp
  | c :: css, k + 1, j, h, hj => by
    have hc := h c (List.mem_cons_self ..)
    rw [List.flatten_cons, List.getElem?_append_right (by rw [Nat.succ_mul]; omega), show (k + 1) * s + j - c.length = k * s + j from by rw [Nat.succ_mul]; omega,
      flat_get k (fun c hc => h c (List.mem_cons_of_mem _ hc)) hj]
    simp
theorem elsN_of {α : Type} {E : StandN α} {H : Array Obj} (U : Nat → List Value) (X : Nat → α) : ∀ (n : Nat), (∀ i, i < n → ∃ F, E H (U i) (X i) F) → ∃ F, elsN E H ((List.range n).map U) ((List.range n).map X) F
  | 0, _ => ⟨[], rfl⟩
  | n + 1, h => by
    obtain ⟨F, hF⟩ := elsN_of U X n fun i hi => h i (by omega)
    obtain ⟨G, hG⟩ := h n (by omega)
    rw [List.range_succ, List.map_append, List.map_append]
    exact ⟨F ++ (G ++ []), hF.append ⟨G, [], rfl, hG, rfl⟩⟩
theorem rdS_row {α : Type} {E : StandN α} {s : Nat} (hE : GoodN s E) (hs : 0 < s) {W : World} {a : Addr} {n cap : Nat} (hn : n ≤ maxLen) (hnc : n ≤ cap) (U : Nat → List Value) (X : Nat → α)
    (hc : ∀ i, i < n → ∀ j, j < s → W.cell? (a.add (i * s + j)) = (U i)[j]?) (hX : ∀ i, i < n → ∃ F, E W.heap (U i) (X i) F) : ∃ F, rdS s E W.heap (.slice (some a) n cap) ((List.range n).map X) F := by
  by_cases h0 : n = 0
  · subst h0
    exact ⟨[], .inl ⟨some a, cap, rfl, rfl, rfl⟩⟩
  · obtain ⟨F, hF⟩ := elsN_of U X n hX
    have hlU : ∀ i, i < n → (U i).length = s := fun i hi => by obtain ⟨G, hG⟩ := hX i hi; exact hE.len hG
    obtain ⟨g, off, spot⟩ := a
    have h1 := hc 0 (by omega) 0 hs
    rw [List.getElem?_eq_getElem (by rw [hlU 0 (by omega)]; exact hs)] at h1
    have hsp : spot = none := by simpa [Addr.add] using World.cell?_spot h1
    subst hsp
    have hcell : ∀ i, i < n → ∀ j, j < s → cellH W.heap g (off + (i * s + j)) = (U i)[j]? := fun i hi j hj => by
      have := hc i hi j hj
      rw [add_plain, cell_cellH] at this
      exact this
    have h2 := hcell 0 (by omega) 0 hs
    rw [List.getElem?_eq_getElem (by rw [hlU 0 (by omega)]; exact hs)] at h2
    unfold cellH at h2
    cases hg : W.heap[g]? with
    | none => rw [hg] at h2; cases h2
    | some o =>
      cases o with
      | cells cur e fr =>
        refine ⟨g :: F, .inr ⟨(List.range n).map U, g, off, cap, cur, e, fr, F, hF, by simp, hg, ?_, ⟨by simpa using hn, by simpa using hnc⟩, rfl⟩⟩
        have hlen : ∀ c ∈ (List.range n).map U, c.length = s := fun c hc => by
          obtain ⟨i, hi, rfl⟩ := List.mem_map.1 hc
          exact hlU i (List.mem_range.1 hi)
        have hfl := hF.flen hE
        apply List.ext_getElem?
        intro q
        rw [List.getElem?_take, List.getElem?_drop]
        simp only [List.length_map, List.length_range] at hfl ⊢
        by_cases hq : q < n * s
        · have e1 : q = q / s * s + q % s := by rw [Nat.mul_comm, Nat.div_add_mod]
          have hj : q % s < s := Nat.mod_lt _ hs
          have hi : q / s < n := (Nat.div_lt_iff_lt_mul hs).2 hq
          have h3 := hcell (q / s) hi (q % s) hj
          unfold cellH at h3
          rw [hg, ← e1] at h3
          have h4 := flat_get (css := (List.range n).map U) (q / s) hlen hj
          rw [← e1] at h4
          rw [if_pos hq, h4]
          simp only [Array.getElem?_toList] at *
          rw [h3]
          simp [hi]
        · rw [if_neg hq, List.getElem?_eq_none (by omega)]
      | _ => rw [hg] at h2; cases h2
/-- What the table of types says of a struct: places and types. -/
def stTy (P : Program) (t : TypeId) (l : List (Nat × TypeId)) : Bool :=
  match P.underlying t with
  | some (.struct fs) => decide (fs.toList.map (fun f => (f.offset, f.type)) = l)
  | _ => false
section
variable {H : Type} {enc : TypeId × Value → H} {P : Program} {W : World} {base : Nat} {held : Bool} {sp : Nat → Bool}
theorem st_field {t : TypeId} {l : List (Nat × TypeId)} {fuel : Nat} {cs : List Value} {x : DataW H × List MemPlace} (ht : stTy P t l = true) (h : DataW.trod enc P W base sp held fuel t cs = some x) :
    ∃ n, fuel = n + 1 ∧ cs.length = P.cellsOf t ∧ ∀ (i o : Nat) (ty : TypeId), l[i]? = some (o, ty) → ∃ y, DataW.trod enc P W base sp held n ty ((cs.drop o).take (P.cellsOf ty)) = some y := by
  unfold stTy at ht
  split at ht
  · rename_i fs hfs
    have hl := of_decide_eq_true ht
    obtain ⟨xs, n, hfu, _, hlen, hxl, hf⟩ := DataW.trod_struct hfs h
    refine ⟨n, hfu, hlen, fun i o ty hi => ?_⟩
    rw [← hl, List.getElem?_map] at hi
    obtain ⟨f, hf1, hf2⟩ := Option.map_eq_some_iff.1 hi
    have hf3 : fs[i]? = some f := by simpa using hf1
    have hil : i < xs.length := by
      rw [hxl]
      exact (Array.getElem?_eq_some_iff.1 hf3).1
    have h2 := hf i f hf3
    injection hf2 with e1 e2
    rw [← e1, ← e2, h2]
    exact ⟨xs[i], List.getElem?_eq_getElem hil⟩
  · cases ht
theorem rEx_up : ∀ {d : Nat} {H : Array Obj} {cs : List Value} {x : Ex} {F : List Nat}, rEx d H cs x F → rEx (d + 1) H cs x F
  | 0, _, _, _, _, h => h.elim
  | d + 1, _, _, _, _, ⟨v, h1, h2, h3⟩ => ⟨v, h1, h2, h3.imp fun h => rEx_up h⟩
/-- A slice of structs, opened. -/
theorem open_rdS {α : Type} [Inhabited α] {E : StandN α} {t e : TypeId} {s fuel : Nat} {u : Value} {x : DataW H × List MemPlace} (hE : GoodN s E) (hs : 0 < s) (ht : P.underlying t = some (.slice e)) (ce : P.cellsOf e = s)
    (hel : ∀ {n : Nat} {cs : List Value} {x : DataW H × List MemPlace}, fuel = n + 1 → DataW.trod enc P W base (fun _ => true) held n e cs = some x → ∃ (y : α) (F : List Nat), E W.heap cs y F)
    (hf : DataW.trod enc P W base (fun _ => true) held fuel t [u] = some x) : ∃ (zs : List α) (F : List Nat), rdS s E W.heap u zs F := by
  rcases DataW.trod_slice ht hf with ⟨hcs, _⟩ | ⟨a, len, cap, elems, rest, n, hfu, hcs, _, _, hl, hm, hlen, helm, _, _⟩
  · simp only [List.cons.injEq, and_true] at hcs
    subst hcs
    exact ⟨[], [], .inl ⟨none, 0, rfl, rfl, rfl⟩⟩
  · simp only [List.cons.injEq, and_true] at hcs
    subst hcs
    have h1 : ∀ i, i < len → ∃ c : List Value × α, (∀ j, j < s → W.cell? (a.add (i * s + j)) = c.1[j]?) ∧ ∃ F, E W.heap c.1 c.2 F := by
      intro i hi
      have h2 := helm i hi
      rw [List.getElem?_eq_getElem (by omega)] at h2
      obtain ⟨cs', q1, q2⟩ := Option.bind_eq_some_iff.1 h2
      obtain ⟨_, ql, qc⟩ := World.cells?_some q1
      obtain ⟨y, F, hy⟩ := hel hfu q2
      refine ⟨(cs', y), fun j hj => ?_, F, hy⟩
      have := qc j (by rw [ce]; exact hj)
      rwa [add_add, ce] at this
    obtain ⟨C, hC⟩ := choose_lt (α := List Value × α) (n := len) h1
    obtain ⟨F, hF⟩ := rdS_row hE hs (W := W) (a := a) (n := len) (cap := cap) (by omega) hl (fun i => (C i).1) (fun i => (C i).2) (fun i hi => (hC i hi).1) (fun i hi => (hC i hi).2)
    exact ⟨_, F, hF⟩
instance : Inhabited Ex := ⟨Ex.zero⟩
instance : Inhabited Fn := ⟨Fn.zero⟩
/-- Expressions, opened. -/
theorem open_exs {tS tE ti : TypeId} (hS : P.underlying tS = some (.slice tE)) (hE : stTy P tE [(0, ti), (1, ti), (2, ti), (3, ti), (4, tS)] = true) (hi : P.underlying ti = some (.int .i64)) (cE : P.cellsOf tE = 5) (ci : P.cellsOf ti = 1) (cS : P.cellsOf tS = 1) :
    ∀ (fuel : Nat) (u : Value) (x : DataW H × List MemPlace), DataW.trod enc P W base (fun _ => true) held fuel tS [u] = some x → ∃ (zs : List Ex) (F : List Nat), rdS 5 (rEx fuel) W.heap u zs F := by
  intro fuel
  induction fuel using Nat.strongRecOn with
  | _ fuel ih =>
    intro u x hf
    refine open_rdS (good_rEx fuel) (by decide) hS cE ?_ hf
    intro n cs y hfu hy
    obtain ⟨m, hm, hlen, hfd⟩ := st_field hE hy
    have num : ∀ o, o < 4 → ∃ z : Int, (cs.drop o).take 1 = [.int .i64 z] ∧ i64 z := by
      intro o ho
      obtain ⟨y', hy'⟩ := hfd o o ti (by match o, ho with | 0, _ => rfl | 1, _ => rfl | 2, _ => rfl | 3, _ => rfl)
      rw [ci] at hy'
      obtain ⟨z, hz, _, hw⟩ := DataW.trod_int hi hy'
      exact ⟨z, hz, wf_i64 hw⟩
    obtain ⟨y4, hy4⟩ := hfd 4 4 tS rfl
    rw [cS] at hy4
    rw [cE] at hlen
    match cs, hlen with
    | [c0, c1, c2, c3, c4], _ =>
      obtain ⟨z0, e0, r0⟩ := num 0 (by decide)
      obtain ⟨z1, e1, r1⟩ := num 1 (by decide)
      obtain ⟨z2, e2, r2⟩ := num 2 (by decide)
      obtain ⟨z3, e3, r3⟩ := num 3 (by decide)
      have q0 : c0 = .int .i64 z0 := by simpa using e0
      have q1 : c1 = .int .i64 z1 := by simpa using e1
      have q2 : c2 = .int .i64 z2 := by simpa using e2
      have q3 : c3 = .int .i64 z3 := by simpa using e3
      subst q0; subst q1; subst q2; subst q3
      obtain ⟨zs, F, hz⟩ := ih m (by omega) c4 y4 hy4
      subst hm
      subst hfu
      exact ⟨.mk z0 z1 z2 z3 zs, F, rEx_up (d := m + 1) ⟨c4, rfl, ⟨r0, r1, r2, r3⟩, hz⟩⟩
/-- A program, opened. -/
theorem open_prog {t tF tN tS tE ti tz : TypeId} {d : DataW H} {ps : List MemPlace} {v : Value} {b0 : Nat} {r : Reach} (hP : stTy P t [(0, tF)] = true) (hF : P.underlying tF = some (.slice tN)) (hN : stTy P tN [(0, tz), (1, ti), (2, tS)] = true)
    (hS : P.underlying tS = some (.slice tE)) (hE : stTy P tE [(0, ti), (1, ti), (2, ti), (3, ti), (4, tS)] = true) (hi : P.underlying ti = some (.int .i64)) (hz : P.underlying tz = some .string)
    (cP : P.cellsOf t = 1) (cF : P.cellsOf tF = 1) (cN : P.cellsOf tN = 3) (cE : P.cellsOf tE = 5) (ci : P.cellsOf ti = 1) (cS : P.cellsOf tS = 1) (cz : P.cellsOf tz = 1)
    (hval : Value.okWide P W r b0 t v) (hd : DataW.Trod enc P W base (fun _ => true) held t v d ps) :
    ∃ (u : Value) (dp : Nat) (p : List Fn), v = .agg #[u] ∧ RP [] dp W.heap u p ∧ ∀ k, k < p.length → (p.getD k Fn.zero).name.size ≤ 9223372036854775807 := by
  have hstr : ∃ fs, P.underlying t = some (.struct fs) := by
    unfold stTy at hP
    split at hP
    · rename_i fs hfs; exact ⟨fs, hfs⟩
    · cases hP
  obtain ⟨fs, hfs⟩ := hstr
  obtain ⟨cs, rfl, hcs⟩ := okWide_struct hfs hval
  obtain ⟨fuel, hf⟩ := hd
  obtain ⟨n, hfu, hlen, hfd⟩ := st_field hP hf
  obtain ⟨y, hy⟩ := hfd 0 0 tF rfl
  rw [cF] at hy
  rw [cP] at hlen
  have hlen' : cs.toList.length = 1 := hlen
  match hcl : cs.toList, hlen' with
  | [u], _ =>
    have hcu : cs = #[u] := by apply Array.ext'; simpa using hcl
    subst hcu
    have hy' : DataW.trod enc P W base (fun _ => true) held n tF [u] = some y := hy
    obtain ⟨zs, F, hzs⟩ := open_rdS (E := fun H cs f F => rFn n H cs f F ∧ f.name.size ≤ 9223372036854775807) (s := 3)
      ⟨fun h => (good_rFn n).len h.1, fun h => (good_rFn n).one h.1, fun h => (good_rFn n).lt h.1, fun h hb => ⟨(good_rFn n).stable h.1 hb, h.2⟩⟩ (by decide) hF cN (by
        intro m cs y hm hy
        obtain ⟨q, hq, hlen, hfd⟩ := st_field hN hy
        rw [cN] at hlen
        obtain ⟨y0, h0⟩ := hfd 0 0 tz rfl
        obtain ⟨y1, h1⟩ := hfd 1 1 ti rfl
        obtain ⟨y2, h2⟩ := hfd 2 2 tS rfl
        rw [cz] at h0
        rw [ci] at h1
        rw [cS] at h2
        match cs, hlen with
        | [c0, c1, c2], _ =>
          obtain ⟨s, e0, _, hs⟩ := DataW.trod_string hz h0
          obtain ⟨z, e1, _, hw⟩ := DataW.trod_int hi h1
          have q0 : c0 = .string s := by simpa using e0
          have q1 : c1 = .int .i64 z := by simpa using e1
          subst q0; subst q1
          obtain ⟨es, F, hes⟩ := open_exs (enc := enc) (W := W) (base := base) (held := held) hS hE hi cE ci cS q c2 y2 h2
          have hup : ∀ k, rdS 5 (rEx (q + k)) W.heap c2 es F := by
            intro k
            induction k with
            | zero => exact hes
            | succ k ih => exact ih.imp fun h => rEx_up h
          have hn : rdS 5 (rEx n) W.heap c2 es F := by
            have := hup (n - q)
            rwa [show q + (n - q) = n from by omega] at this
          exact ⟨⟨s, z, es⟩, F, ⟨c2, rfl, wf_i64 hw, hn⟩, by unfold maxLen at hs; exact hs⟩) hy'
    refine ⟨u, n, zs, rfl, ⟨F, hzs.imp fun h => h.1, fun b hb hm => by cases hm⟩, fun k hk => ?_⟩
    obtain ⟨cs, G, hg, _⟩ := rdS.get (E := fun H cs f F => rFn n H cs f F ∧ f.name.size ≤ 9223372036854775807) (s := 3) ⟨fun h => (good_rFn n).len h.1, fun h => (good_rFn n).one h.1, fun h => (good_rFn n).lt h.1, fun h hb => ⟨(good_rFn n).stable h.1 hb, h.2⟩⟩ Fn.zero hzs hk
    exact hg.2
end
end Go.Proofs.YtnofbmdpabcjaaaGreat
namespace Go.Proofs.YtnofbmdpabcjaaaGreat
open Go Go.ChangeShapes Go.RowKit
section
variable {H : Type} {enc : TypeId × Value → H} {P : Program} {w : World} {base : Nat} {spare : Nat → Bool} {held : Bool}
theorem trodAll_six {t0 t1 t2 t3 t4 t5 : TypeId} {args : Array Value} {ds : List (DataW H)} {ps : List MemPlace} (h : DataW.TrodAll enc P w base spare held [t0, t1, t2, t3, t4, t5] args.toList ds ps) :
    ∃ v0 v1 v2 v3 v4 v5 d0 d1 d2 d3 d4 d5 p0 p1 p2 p3 p4 p5, args = #[v0, v1, v2, v3, v4, v5] ∧ ds = [d0, d1, d2, d3, d4, d5] ∧ ps = p0 ++ p1 ++ p2 ++ p3 ++ p4 ++ p5 ∧ DataW.Trod enc P w base spare held t0 v0 d0 p0 ∧ DataW.Trod enc P w base spare held t1 v1 d1 p1 ∧ DataW.Trod enc P w base spare held t2 v2 d2 p2 ∧ DataW.Trod enc P w base spare held t3 v3 d3 p3 ∧ DataW.Trod enc P w base spare held t4 v4 d4 p4 ∧ DataW.Trod enc P w base spare held t5 v5 d5 p5 := by
  obtain ⟨v0, vs0, d0, ds0, p0, q0, hargs, rfl, rfl, hd0, hr0⟩ := trodAll_cons h
  obtain ⟨v1, vs1, d1, ds1, p1, q1, rfl, rfl, rfl, hd1, hr1⟩ := trodAll_cons hr0
  obtain ⟨v2, vs2, d2, ds2, p2, q2, rfl, rfl, rfl, hd2, hr2⟩ := trodAll_cons hr1
  obtain ⟨v3, vs3, d3, ds3, p3, q3, rfl, rfl, rfl, hd3, hr3⟩ := trodAll_cons hr2
  obtain ⟨v4, vs4, d4, ds4, p4, q4, rfl, rfl, rfl, hd4, hr4⟩ := trodAll_cons hr3
  obtain ⟨v5, vs5, d5, ds5, p5, q5, rfl, rfl, rfl, hd5, hr5⟩ := trodAll_cons hr4
  obtain ⟨rfl, rfl, rfl⟩ := trodAll_nil hr5
  exact ⟨v0, v1, v2, v3, v4, v5, d0, d1, d2, d3, d4, d5, p0, p1, p2, p3, p4, p5, by cases args; simp_all, rfl, by simp, hd0, hd1, hd2, hd3, hd4, hd5⟩
end
end Go.Proofs.YtnofbmdpabcjaaaGreat
