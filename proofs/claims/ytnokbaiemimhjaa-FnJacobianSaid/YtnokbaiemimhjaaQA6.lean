/- Xl: texts of this claim, joined; what the claim does not come to is left out. -/
import Derived.Test.YtnokbaiemimhjaaQA5
import Derived.Test.YtnokbaiemimhjaaProg
set_option linter.unusedVariables false
set_option linter.unusedSimpArgs false
namespace Go.Proofs.Ytnokbaiemimhjaa
open Go Go.RowKit
set_option linter.unusedVariables false
set_option linter.unusedSimpArgs false
set_option maxHeartbeats 4000000
set_option maxRecDepth 100000
attribute [local irreducible] LW
theorem c_laws_a2Dot (w : World) (va : Value) (a : List Int) (vb : Value) (b : List Int) (ha : Rd (rdL rI) w.heap va a) (hb : Rd (rdL rI) w.heap vb b) (hl : b.length = a.length) :
    Calls Try.prog 29 #[va, vb] w (fun e w' => e = .returned (.int .i64 (dotG a b a.length)) ∧ Ext w w') := by
  refine calls_mk [va, vb] 31 Try.func29 rfl rfl sM ?_
  have hE0 : Ext w w := Ext.refl w
  have hl_va := ha.lenle
  have hl_vb := hb.lenle
  refine wp_seq (wp_plain _ [0] rfl (lw_tvn 1 rfl (wp_seq (wp_plain _ [0] rfl (lw_tvn 1 rfl (wp_seq (wp_seq (wp_plain _ [0] rfl (lw_tvn 1 rfl (wp_block ?_))))))))))
  refine c_loop (S := Nat × Int) (fun (⟨k, s⟩ : Nat × Int) => ([(5, (.int .i64 s)), (6, (.int .i64 ((k : Nat) : Int))), (0, va), (1, vb)] : List (Nat × Value))) (fun (⟨k, s⟩ : Nat × Int) (W : World) => Ext w W ∧ k ≤ a.length ∧ s = dotG a b k ∧ (0 ≤ s ∧ s < 1000003)) (fun (⟨k, s⟩ : Nat × Int) => a.length - k) (0, ((0 : Nat) : Int)) ⟨rfl, rfl, rfl, rfl, trivial⟩ ⟨hE0, sD, (by rfl), oM⟩ ?_
  clear hE0
  rintro ⟨k, s⟩ ρ1 w1 ⟨hE1, hp1_0, hs, hsr9⟩
  have hzs1 : w.heap.size ≤ w1.heap.size := hE1.size
  refine wp_seq (wp_seq (wp_plain _ [0, 0, 0, 0, 0, 0, 0, 0, 0, 0] rfl (lw_tv 2 rfl (q_len (v := va) u25 rfl ha.isSl zN ?_))))
  by_cases hc2 : ((k : Nat) : Int) < ((a.length : Nat) : Int)
  ·
    refine q_lss true rfl rfl (decide_eq_true hc2) zN (lw_tv 3 rfl (q_len (v := vb) u25 rfl hb.isSl (zS (e := 11) rfl rfl rfl) ?_))
    by_cases hc3 : ((k : Nat) : Int) < ((b.length : Nat) : Int)
    ·
      refine q_lss true rfl rfl (decide_eq_true hc3) (zS (e := 11) rfl rfl rfl) (lw_tvn 1 rfl (c_cond_t rfl (wp_skip (wp_seq (wp_block (wp_draw _ [0, 0, 0, 0, 1, 0, 0, 0, 1, 0, 0, 0] mixed (by kernel_rfl) (lw_tv 3 rfl (q_idx (v := va) k u25 ti2 rfl rfl ha.isSl rfl sD zN ?_))))))))
      refine q_load (p := eptr va k 1) (.inl rfl) (.int .i64 (a.getD k 0)) one2 rfl (ldH_ext hE1.drew (ha.getI sD).1) zN (lw_tv 2 rfl ?_)
      refine q_idx (v := vb) k u25 ti2 rfl rfl hb.isSl rfl sD zN ?_
      refine q_load (p := eptr vb k 1) (.inl rfl) (.int .i64 (b.getD k 0)) one2 rfl (ldH_ext hE1.drew (hb.getI sD).1) zN ?_
      refine lw_callq 15 [] [] [(.int .i64 (a.getD k 0)), (.int .i64 (b.getD k 0))] rfl rfl cf15 zN (.int .i64 (md ((a.getD k 0) * (b.getD k 0)))) (fun wq => c_spec_Times wq _ _ (ha.getI sD).2 (hb.getI sD).2) ?_
      refine lw_callq 77 [] [] [(.int .i64 s), (.int .i64 (md ((a.getD k 0) * (b.getD k 0))))] rfl rfl cf77 zN (.int .i64 (md (s + (md ((a.getD k 0) * (b.getD k 0)))))) (fun wq => c_spec_Plus wq _ _ oM (md_rng _)) (lw_tvn 1 rfl (wp_plain _ [0, 0, 0] rfl (lw_tv 1 rfl (q_add ((k + 1 : Nat) : Int) rfl rfl (w64n oM sD) zN (lw_tvn 1 rfl ?_)))))
      exact ⟨((k + 1), (md (s + (md ((a.getD k 0) * (b.getD k 0)))))), _, rfl, ⟨rfl, rfl, rfl, rfl, trivial⟩, ⟨hE1.drew, sD, (by rw [hs]; exact dotG_step a b k), (by exact md_num _)⟩, by first | omega | (dsimp only; omega)⟩
    ·
      exact q_lss false rfl rfl (decide_eq_false hc3) (zS (e := 11) rfl rfl rfl) (lw_tvn 1 rfl (c_cond_f rfl (wp_exit (t_exit (t_exit (c_exit_here (wp_seq (wp_plain _ [0, 0] rfl (lw_tvn 2 rfl (wp_ret (post_ret [4] rfl (.int .i64 s) rfl ⟨(ret_int (by rw [hs, show k = a.length by omega])), hE1⟩)))))))))))
  ·
    exact q_lss false rfl rfl (decide_eq_false hc2) zN (lw_tvn 6 rfl (c_cond_f rfl (wp_exit (t_exit (t_exit (c_exit_here (wp_seq (wp_plain _ [0, 0] rfl (lw_tvn 2 rfl (wp_ret (post_ret [4] rfl (.int .i64 s) rfl ⟨(ret_int (by rw [hs, show k = a.length by omega])), hE1⟩)))))))))))
theorem c_JacG (w : World) (dp : Nat) (vp : Value) (p : List Fn) (f : Int) (va : Value) (a : List Int) (hp : RP [] dp w.heap vp p) (_hf : -9223372036854775808 ≤ f ∧ f ≤ 9223372036854775807) (ha : Rd (rdL rI) w.heap va a) (hz : SzP p) (hli : liC p f a a = 0) (har : arC p f a = 0) :
    Calls Try.prog 28 #[(.agg #[vp]), .int .i64 f, va] w (fun e w' => ∃ v0 : Value, e = .returned (.tuple #[v0, .int .i64 (euC p f a)]) ∧ Ext w w' ∧ Fr (owL (owL rI 2) 25) w.heap.size w'.heap.size w'.heap v0 (if euC p f a = 0 then jaT p f.toNat a (p.getD f.toNat Fn.zero).outs.length a.length else [])) := by
  have h := c_impl_JacobianOf w dp vp p f va a hp _hf ha hz
  simp only [hli, true_and, if_true, ← euC_0 har] at h
  exact h
theorem c_DirG (w : World) (dp : Nat) (vp : Value) (p : List Fn) (f : Int) (va : Value) (a : List Int) (vd : Value) (d : List Int) (hp : RP [] dp w.heap vp p) (_hf : -9223372036854775808 ≤ f ∧ f ≤ 9223372036854775807) (ha : Rd (rdL rI) w.heap va a) (hd : Rd (rdL rI) w.heap vd d) (hz : SzP p) (hli : liC p f a d = 0) (har : arC p f a = 0) :
    Calls Try.prog 33 #[(.agg #[vp]), .int .i64 f, va, vd] w (fun e w' => ∃ v0 v1 : Value, e = .returned (.tuple #[v0, v1, .int .i64 (euC p f a)]) ∧ Ext w w' ∧ Fr (owL rI 2) w.heap.size w'.heap.size w'.heap v0 ((drR p f.toNat a d).map (fun s : Sr => s.getD 0 0)) ∧ Fr (owL rI 2) w.heap.size w'.heap.size w'.heap v1 ((drR p f.toNat a d).map (fun s : Sr => s.getD 1 0)) ∧ EvP p 2 f.toNat (alS a d 2)) := by
  have h := c_impl_Directional w dp vp p f va a vd d hp _hf ha hd hz
  simp only [hli, true_imp_iff, if_true, dr_c, ← euC_0 har] at h
  exact h
theorem li_ok {p : List Fn} {f : Int} {a d : Sr} (h : okP p = true) (hf : 0 ≤ f ∧ f < ((p.length : Nat) : Int)) (hl : ((a.length : Nat) : Int) = (p.getD f.toNat Fn.zero).params) (hn : allN a = true) (hl2 : ((d.length : Nat) : Int) = (p.getD f.toNat Fn.zero).params) (hn2 : allN d = true) : liC p f a d = 0 := by
  unfold liC isF
  rw [if_pos h, if_pos (by omega), hn, hn2, decide_eq_true hl, decide_eq_true hl2]; rfl
structure JacL (p : List Fn) (f : Int) (a d e : List Int) : Prop where
  wide : ∀ r, r < (jaT p f.toNat a (p.getD f.toNat Fn.zero).outs.length a.length).length → ((jaT p f.toNat a (p.getD f.toNat Fn.zero).outs.length a.length).getD r []).length = a.length
  val : (drR p f.toNat a d).map (fun s : Sr => s.getD 0 0) = euR p f a
  len : (drR p f.toNat a d).length = (p.getD f.toNat Fn.zero).outs.length ∧ (drR p f.toNat a e).length = (p.getD f.toNat Fn.zero).outs.length ∧ (euR p f a).length = (p.getD f.toNat Fn.zero).outs.length
  sum : addS ((drR p f.toNat a d).map fun s => s.getD 1 0) ((drR p f.toNat a e).map fun s => s.getD 1 0) = (drR p f.toNat a (addS d e)).map fun s => s.getD 1 0
  dot : ∀ r, r < (p.getD f.toNat Fn.zero).outs.length → dotG ((jaT p f.toNat a (p.getD f.toNat Fn.zero).outs.length a.length).getD r []) d ((jaT p f.toNat a (p.getD f.toNat Fn.zero).outs.length a.length).getD r []).length = ((drR p f.toNat a d).map fun s => s.getD 1 0).getD r 0
  col : ∀ k, k < a.length → (drR p f.toNat a (uniG a.length [((k : Nat) : Int)] 1)).map (fun s : Sr => s.getD 1 0) = (jaT p f.toNat a (p.getD f.toNat Fn.zero).outs.length a.length).map fun r => r.getD k 0
theorem jac_law {p : List Fn} {f : Int} {a d e : List Int} (h : AtP p f.toNat a) (har : arC p f a = 0) (hd : d.length = a.length ∧ allN d = true) (he : e.length = a.length ∧ allN e = true) : JacL p f a d e := by
  have hlen : ∀ x, allN x = true → (drR p f.toNat a x).length = (p.getD f.toNat Fn.zero).outs.length := fun x hx =>
    (ev_P h.v h.lt (alS_ser (n := 2) h.n hx) (by rw [alS_len]; exact h.l)).len ((dr_c p f.toNat a x).trans h.z)
  have hs := addS_num d e
  have hval : ∀ x, (drR p f.toNat a x).map (fun s : Sr => s.getD 0 0) = euR p f a := fun x => by rw [dr_v, euR_0 har]
  have hg : ∀ r, r < (p.getD f.toNat Fn.zero).outs.length → (jaT p f.toNat a (p.getD f.toNat Fn.zero).outs.length a.length).getD r [] = jaP p f.toNat a a.length r := fun r hr => tab_get [] hr
  refine ⟨fun r hr => ?_, hval d, ⟨hlen d hd.2, hlen e he.2, by rw [← hval d, List.length_map, hlen d hd.2]⟩, ?_, fun r hr => ?_, fun k hk => ?_⟩
  · rw [jaT_len] at hr; rw [hg r hr, jaP_len]
  · refine ext0 (by rw [addS_len, List.length_map, List.length_map, hlen d hd.2, hlen _ hs]) fun r hr => ?_
    rw [addS_len, List.length_map, hlen d hd.2] at hr
    rw [add_k (by rw [List.length_map, hlen d hd.2]; exact hr), map_getD (d := []) (by rw [hlen d hd.2]; exact hr), map_getD (d := []) (by rw [hlen e he.2]; exact hr), map_getD (d := []) (by rw [hlen _ hs]; exact hr), dir_add h hd.2 he.2 hd.1 he.1 hr]
  · rw [hg r hr, jaP_len, map_getD (d := []) (by rw [hlen d hd.2]; exact hr), dir_lin h hd.2 hd.1 hr]
    unfold dotG
    refine congrArg md (sm_congr fun k hk => ?_)
    rw [show (jaP p f.toNat a a.length r).getD k 0 = _ from tab_get 0 hk]; rfl
  · refine ext0 (by rw [List.length_map, List.length_map, jaT_len, hlen _ (uniG_num _ _ _)]) fun r hr => ?_
    rw [List.length_map, hlen _ (uniG_num _ _ _)] at hr
    rw [map_getD (d := []) (by rw [hlen _ (uniG_num _ _ _)]; exact hr), map_getD (d := []) (by rw [jaT_len]; exact hr), hg r hr]
    unfold jaP
    rw [tab_get 0 hk]
theorem c_ParG (w : World) (dp : Nat) (vp : Value) (p : List Fn) (f : Int) (k : Int) (va : Value) (a : List Int) (hp : RP [] dp w.heap vp p) (_hf : -9223372036854775808 ≤ f ∧ f ≤ 9223372036854775807) (_hk : -9223372036854775808 ≤ k ∧ k ≤ 9223372036854775807) (ha : Rd (rdL rI) w.heap va a) (hli : liC p f a a = 0) (hz : SzP p) (hk : 0 ≤ k ∧ k < (p.getD f.toNat Fn.zero).params) (har : arC p f a = 0) :
    Calls Try.prog 35 #[(.agg #[vp]), .int .i64 f, .int .i64 k, va] w (fun e w' => ∃ v0 : Value, e = .returned (.tuple #[v0, .int .i64 (euC p f a)]) ∧ Ext w w' ∧ Fr (owL rI 2) w.heap.size w'.heap.size w'.heap v0 ((drR p f.toNat a (uniG a.length [k] 1)).map (fun s : Sr => s.getD 1 0)) ∧ EvP p 2 f.toNat (alS a (uniG a.length [k] 1) 2)) := by
  have h := c_impl_Partial w dp vp p f k va a hp _hf _hk ha hli hz hk
  simp only [dr_c, ← euC_0 har] at h
  exact h
theorem c_wide_g (w : World) (va : Value) (a : List (List Int)) (n m : Int) (ha : Rd (rdL (rdL rI)) w.heap va a) (_hn : -9223372036854775808 ≤ n ∧ n ≤ 9223372036854775807) (_hm : -9223372036854775808 ≤ m ∧ m ≤ 9223372036854775807)
    (hl : ((a.length : Nat) : Int) = n) (hr : ∀ k, k < a.length → (((a.getD k []).length : Nat) : Int) = m) : Calls Try.prog 13 #[va, .int .i64 n, .int .i64 m] w (fun e w' => e = .returned (.bool true) ∧ Ext w w') := by
  have h := c_laws_a2Wide w va a n m ha _hn _hm
  have hq : (decide (((a.length : Nat) : Int) = n) && a.all (fun r => decide (((r.length : Nat) : Int) = m))) = true := by
    rw [decide_eq_true hl, Bool.true_and, List.all_eq_true]
    intro r hr'
    obtain ⟨j, hj, rfl⟩ := List.mem_iff_getElem.1 hr'
    have h9 := hr j hj
    rw [gd_at hj] at h9
    exact decide_eq_true h9
  rw [hq] at h; exact h
theorem z6_0 {p : Prop} (h : p := by exact hCD.dr.szp) : p := h
theorem c_laws_FnJacobian (w : World) (vc : Value) (cs : List UInt8) (vd : Value) (ds : List UInt8) (hcs : Rd (rdL rU) w.heap vc cs) (hds : Rd (rdL rU) w.heap vd ds)  :
    Calls Try.prog 6 #[vc, vd] w (fun e w' => e = .returned (.bool true) ∧ Ext w w') := by
  refine calls_mk [vc, vd] 177 Try.func6 rfl rfl sM ?_
  have hE0 : Ext w w := Ext.refl w
  have hl_vc := hcs.lenle
  have hl_vd := hds.lenle
  refine wp_seq (wp_plain _ [0] rfl (lw_tvn 1 rfl (wp_seq (wp_seq (wp_plain _ [0, 0, 3] rfl (lw_tv 2 rfl (lw_call 7 [] [] [vc, vd] rfl rfl cf7 zN (c_laws_a2Long _ _ _ _ _ (hcs.ext good_u hE0) (hds.ext good_u hE0)) ?_)))))))
  rintro e1 w1 ⟨rfl, hX1⟩
  refine ⟨_, rfl, hX1, ?_⟩
  have hzs1 : w.heap.size ≤ w1.heap.size := hX1.size
  have hE1 : Ext w w1 := hE0.trans hX1
  refine lw_nil ?_
  cases hb2 : (decide (((3000 : Nat) : Int) < ((cs.length : Nat) : Int)) || decide (((3000 : Nat) : Int) < ((ds.length : Nat) : Int)))
  ·
    refine c_cond_f (by first | rfl | (show Value.bool _ = _; rw [hb2])) (wp_skip (wp_seq (wp_plain _ [0, 3, 0, 0, 0, 0, 0, 0, 3, 4, 0, 0, 0, 0] rfl (lw_tv 1 rfl (lw_call 31 [] [] [vc] rfl rfl cf31 zN (c_spec_A2Call _ vc _ (hcs.ext good_u hE1)) ?_)))))
    rintro e3 w3 ⟨vD, vaD, vbD, pD, fD, kD, aD, bD, rfl, hX3, hOD, haD, hbD, hCD⟩
    refine ⟨_, rfl, hX3, ?_⟩
    have hzs3 : w1.heap.size ≤ w3.heap.size := hX3.size
    have hE3 : Ext w w3 := hE1.trans hX3
    have hfe := hCD.fe
    have hlc := hCD.len
    have hpa := hCD.dr.par fD.toNat oM
    have hou := hCD.dr.outs fD.toNat oM
    have hla := hCD.la
    have hlb := hCD.lb
    have hft : ((fD.toNat : Nat) : Int) = fD := by omega
    have hvp := okP_vpr hCD.dr.ok
    have har0 := ar_ok hCD.dr.ok oM hla.1 hla.2
    have hli0 := li_ok (d := aD) hCD.dr.ok oM hla.1 hla.2 hla.1 hla.2
    refine lw_tv 1 rfl (q_extract (vs := [(.agg #[vD]), (.int .i64 fD), (.int .i64 kD), vaD, vbD]) (.agg #[vD]) rfl rfl zN (q_extract (vs := [(.agg #[vD]), (.int .i64 fD), (.int .i64 kD), vaD, vbD]) (.int .i64 fD) rfl rfl zN (q_extract (vs := [(.agg #[vD]), (.int .i64 fD), (.int .i64 kD), vaD, vbD]) (.int .i64 kD) rfl rfl zN (q_extract (vs := [(.agg #[vD]), (.int .i64 fD), (.int .i64 kD), vaD, vbD]) vaD rfl rfl zN (q_extract (vs := [(.agg #[vD]), (.int .i64 fD), (.int .i64 kD), vaD, vbD]) vbD rfl rfl zN (r_allocA (z := .agg #[.slice none 0 0]) zr37 zN fun w4 hX4 hz4 hB4 => ?_))))))
    have hzs4 : w3.heap.size ≤ w4.heap.size := hX4.size
    have hE4 : Ext w w4 := hE3.trans hX4
    have hODx4 := hOD.ext ((good_owS (good_oFn 31 6))) hX4
    have haDx4 := haD.ext (o1) hX4
    have hbDx4 := hbD.ext (o1) hX4
    replace hB4 : BX w4.heap w3.heap.size [(.slice none 0 0)] := hB4
    refine e_setA (vs := [vD]) agg37 rfl rfl (by intro u hu; simp only [List.mem_cons, List.not_mem_nil, or_false] at hu; rcases hu with rfl <;> first | exact ⟨rfl, rfl⟩ | exact isSl_one hODx4.isSlS) hB4 rfl rfl zN fun w5 hC5 hz5 hB5 => ?_
    replace hB5 : BX w5.heap w3.heap.size [vD] := hB5
    have hzs5 : w4.heap.size ≤ w5.heap.size := hC5.size
    have hE5 : Ext w w5 := hC5.below hE4 (fun c hc => by have := List.mem_singleton.1 hc; omega) hE4.size
    have hF6 := hODx4.chg ((good_owS (good_oFn 31 6))) hC5 (fun c hc => by have := List.mem_singleton.1 hc; omega)
    have hF7 := haDx4.chg (o1) hC5 (fun c hc => by have := List.mem_singleton.1 hc; omega)
    have hF8 := hbDx4.chg (o1) hC5 (fun c hc => by have := List.mem_singleton.1 hc; omega)
    refine lw_tvn 4 rfl (wp_seq (wp_plain _ [0, 0, 0, 3, 0] rfl (lw_tv 2 rfl (q_len (v := vaD) u25 rfl hF7.isSl zN (lw_call 32 [] [] [vd, (.int .i64 ((aD.length : Nat) : Int))] rfl rfl cf32 zN (c_spec_A2List _ _ _ _ (hds.ext good_u hE5) oM oM) ?_)))))
    rintro e9 w9 ⟨v9_0, x9_0, rfl, hX9, hO9_0, hp9_0⟩
    refine ⟨_, rfl, hX9, ?_⟩
    have hzs9 : w5.heap.size ≤ w9.heap.size := hX9.size
    have hE9 : Ext w w9 := hE5.trans hX9
    have hF6x9 := hF6.ext ((good_owS (good_oFn 31 6))) hX9
    have hF7x9 := hF7.ext (o1) hX9
    have hF8x9 := hF8.ext (o1) hX9
    have hB5x9 := hB5.ext hX9
    refine lw_tvn 1 rfl (wp_seq (wp_plain _ [2, 0, 0, 3, 0, 0, 0, 0, 0, 0, 0] rfl ?_))
    have hot : x9_0.length = aD.length ∧ allN x9_0 = true := ⟨by have h9 := ‹_ ∧ allN x9_0 = true›.1; omega, ‹_ ∧ allN x9_0 = true›.2⟩
    refine q_loadA (p := (.pointer (some ⟨w3.heap.size, 0, none⟩))) (.inr rfl) [vD] agg37 rfl (fun wq9 hw9 => LD.of_box (BX.ext (w := w9) hB5x9 hw9)) rfl zN (lw_tv 2 rfl (lw_call 27 [] [] [(.agg #[vD]), (.int .i64 fD), vaD] rfl rfl cf27 zN (c_spec_Evaluate _ 6 vD (pD) _ _ _ (RN.of_frF hF6x9 (fun b hb => by cases hb)) oM hF7x9.rd1 z6_0) ?_))
    rintro e10 w10 ⟨v10_0, rfl, hX10, hO10_0⟩
    refine ⟨_, rfl, hX10, ?_⟩
    have hzs10 : w9.heap.size ≤ w10.heap.size := hX10.size
    have hE10 : Ext w w10 := hE9.trans hX10
    have hF6x10 := hF6x9.ext ((good_owS (good_oFn 31 6))) hX10
    have hF7x10 := hF7x9.ext (o1) hX10
    have hF8x10 := hF8x9.ext (o1) hX10
    have hB5x10 := hB5x9.ext hX10
    have hO9_0x10 := hO9_0.ext (o1) hX10
    refine lw_tv 1 rfl (q_extract (vs := [v10_0, (.int .i64 ((euT pD fD aD : Nat) : Int)), (.int .i64 (euC pD fD aD))]) v10_0 rfl rfl zN (q_extract (vs := [v10_0, (.int .i64 ((euT pD fD aD : Nat) : Int)), (.int .i64 (euC pD fD aD))]) (.int .i64 ((euT pD fD aD : Nat) : Int)) rfl rfl zN (q_extract (vs := [v10_0, (.int .i64 ((euT pD fD aD : Nat) : Int)), (.int .i64 (euC pD fD aD))]) (.int .i64 (euC pD fD aD)) rfl rfl zN (lw_tvn 3 rfl (wp_seq (wp_plain _ [2, 0, 0, 3, 0, 0, 0, 0, 0] rfl (q_loadA (p := (.pointer (some ⟨w3.heap.size, 0, none⟩))) (.inr rfl) [vD] agg37 rfl (fun wq9 hw9 => LD.of_box (BX.ext (w := w10) hB5x10 hw9)) rfl zN (lw_tv 2 rfl ?_))))))))
    refine lw_call 28 [] [] [(.agg #[vD]), (.int .i64 fD), vaD] rfl rfl cf28 zN (c_JacG _ 6 vD (pD) _ _ _ (RN.of_frF hF6x10 (fun b hb => by cases hb)) oM hF7x10.rd1 z6_0 (by exact hli0) (by exact har0)) ?_
    rintro e11 w11 ⟨v11_0, rfl, hX11, hO11_0⟩
    refine ⟨_, rfl, hX11, ?_⟩
    have hzs11 : w10.heap.size ≤ w11.heap.size := hX11.size
    have hE11 : Ext w w11 := hE10.trans hX11
    have hF6x11 := hF6x10.ext ((good_owS (good_oFn 31 6))) hX11
    have hF7x11 := hF7x10.ext (o1) hX11
    have hF8x11 := hF8x10.ext (o1) hX11
    have hB5x11 := hB5x10.ext hX11
    have hO9_0x11 := hO9_0x10.ext (o1) hX11
    have hO10_0x11 := hO10_0.ext (o1) hX11
    refine lw_tv 1 rfl (q_extract (vs := [v11_0, (.int .i64 (euC pD fD aD))]) v11_0 rfl rfl zN (q_extract (vs := [v11_0, (.int .i64 (euC pD fD aD))]) (.int .i64 (euC pD fD aD)) rfl rfl zN (lw_tvn 2 rfl (wp_seq (wp_plain _ [2, 0, 0, 0, 3, 0, 0, 0, 0, 0, 0, 0] rfl (q_loadA (p := (.pointer (some ⟨w3.heap.size, 0, none⟩))) (.inr rfl) [vD] agg37 rfl (fun wq9 hw9 => LD.of_box (BX.ext (w := w11) hB5x11 hw9)) rfl zN (lw_tv 3 rfl (lw_call 33 [] [] [(.agg #[vD]), (.int .i64 fD), vaD, vbD] rfl rfl cf33 zN (c_DirG _ 6 vD (pD) _ _ _ _ _ (RN.of_frF hF6x11 (fun b hb => by cases hb)) oM hF7x11.rd1 hF8x11.rd1 z6_0 (by exact li_ok hCD.dr.ok oM hla.1 hla.2 oM hlb.2) (by exact har0)) ?_))))))))
    rintro e12 w12 ⟨v12_0, v12_1, rfl, hX12, hO12_0, hO12_1, hP12_0⟩
    refine ⟨_, rfl, hX12, ?_⟩
    have hzs12 : w11.heap.size ≤ w12.heap.size := hX12.size
    have hE12 : Ext w w12 := hE11.trans hX12
    have hF6x12 := hF6x11.ext ((good_owS (good_oFn 31 6))) hX12
    have hF7x12 := hF7x11.ext (o1) hX12
    have hF8x12 := hF8x11.ext (o1) hX12
    have hB5x12 := hB5x11.ext hX12
    have hO9_0x12 := hO9_0x11.ext (o1) hX12
    have hO10_0x12 := hO10_0x11.ext (o1) hX12
    have hO11_0x12 := hO11_0.ext (o2) hX12
    refine lw_tv 1 rfl (q_extract (vs := [v12_0, v12_1, (.int .i64 (euC pD fD aD))]) v12_0 rfl rfl zN (q_extract (vs := [v12_0, v12_1, (.int .i64 (euC pD fD aD))]) v12_1 rfl rfl zN (q_extract (vs := [v12_0, v12_1, (.int .i64 (euC pD fD aD))]) (.int .i64 (euC pD fD aD)) rfl rfl zN (lw_tvn 3 rfl (wp_seq (wp_plain _ [2, 0, 0, 0, 3, 0, 0, 0, 0, 0, 0, 0] rfl (q_loadA (p := (.pointer (some ⟨w3.heap.size, 0, none⟩))) (.inr rfl) [vD] agg37 rfl (fun wq9 hw9 => LD.of_box (BX.ext (w := w12) hB5x12 hw9)) rfl zN (lw_tv 3 rfl ?_))))))))
    refine lw_call 33 [] [] [(.agg #[vD]), (.int .i64 fD), vaD, v9_0] rfl rfl cf33 zN (c_DirG _ 6 vD (pD) _ _ _ _ _ (RN.of_frF hF6x12 (fun b hb => by cases hb)) oM hF7x12.rd1 hO9_0x12.rd1 z6_0 (by exact li_ok hCD.dr.ok oM hla.1 hla.2 oM hot.2) (by exact har0)) ?_
    rintro e13 w13 ⟨v13_0, v13_1, rfl, hX13, hO13_0, hO13_1, hP13_0⟩
    refine ⟨_, rfl, hX13, ?_⟩
    have hzs13 : w12.heap.size ≤ w13.heap.size := hX13.size
    have hE13 : Ext w w13 := hE12.trans hX13
    have hF6x13 := hF6x12.ext ((good_owS (good_oFn 31 6))) hX13
    have hF7x13 := hF7x12.ext (o1) hX13
    have hF8x13 := hF8x12.ext (o1) hX13
    have hB5x13 := hB5x12.ext hX13
    have hO9_0x13 := hO9_0x12.ext (o1) hX13
    have hO10_0x13 := hO10_0x12.ext (o1) hX13
    have hO11_0x13 := hO11_0x12.ext (o2) hX13
    have hO12_0x13 := hO12_0.ext (o1) hX13
    have hO12_1x13 := hO12_1.ext (o1) hX13
    refine lw_tv 1 rfl (q_extract (vs := [v13_0, v13_1, (.int .i64 (euC pD fD aD))]) v13_0 rfl rfl zN (q_extract (vs := [v13_0, v13_1, (.int .i64 (euC pD fD aD))]) v13_1 rfl rfl zN (q_extract (vs := [v13_0, v13_1, (.int .i64 (euC pD fD aD))]) (.int .i64 (euC pD fD aD)) rfl rfl zN (lw_tvn 3 rfl (wp_seq (wp_draw _ [1, 0, 0, 0, 0, 3, 3, 0, 0, 0, 0, 0, 0, 0] mixed (by kernel_rfl) (q_loadA (p := (.pointer (some ⟨w3.heap.size, 0, none⟩))) (.inl rfl) [vD] agg37 rfl (fun wq9 hw9 => LD.of_box (BX.ext (w := w13.drew) hB5x13 hw9)) rfl zN (lw_tv 4 rfl (lw_call 34 [] [] [vbD, v9_0] rfl rfl cf34 zN (c_laws_a2Add _ _ _ _ _ hF8x13.rd1 hO9_0x13.rd1 oM oM) ?_)))))))))
    rintro e14 w14 ⟨v14_0, rfl, hX14, hO14_0⟩
    refine ⟨_, rfl, hX14, ?_⟩
    replace hX14 := hX14.of_drew
    have hzs14 : w13.heap.size ≤ w14.heap.size := hX14.size
    have hE14 : Ext w w14 := hE13.trans hX14
    have hF6x14 := hF6x13.ext ((good_owS (good_oFn 31 6))) hX14
    have hF7x14 := hF7x13.ext (o1) hX14
    have hF8x14 := hF8x13.ext (o1) hX14
    have hB5x14 := hB5x13.ext hX14
    have hO9_0x14 := hO9_0x13.ext (o1) hX14
    have hO10_0x14 := hO10_0x13.ext (o1) hX14
    have hO11_0x14 := hO11_0x13.ext (o2) hX14
    have hO12_0x14 := hO12_0x13.ext (o1) hX14
    have hO12_1x14 := hO12_1x13.ext (o1) hX14
    have hO13_0x14 := hO13_0.ext (o1) hX14
    have hO13_1x14 := hO13_1.ext (o1) hX14
    replace hO14_0 := hO14_0.low (B' := w13.heap.size) (Nat.le_refl _)
    refine lw_call 33 [] [] [(.agg #[vD]), (.int .i64 fD), vaD, v14_0] rfl rfl cf33 zN (c_DirG _ 6 vD (pD) _ _ _ _ _ (RN.of_frF hF6x14 (fun b hb => by cases hb)) oM hF7x14.rd1 hO14_0.rd1 z6_0 (by exact li_ok hCD.dr.ok oM hla.1 hla.2 (by rw [addS_len]; omega) (addS_num _ _)) (by exact har0)) ?_
    rintro e15 w15 ⟨v15_0, v15_1, rfl, hX15, hO15_0, hO15_1, hP15_0⟩
    refine ⟨_, rfl, hX15, ?_⟩
    have hzs15 : w14.heap.size ≤ w15.heap.size := hX15.size
    have hE15 : Ext w w15 := hE14.trans hX15
    have hF6x15 := hF6x14.ext ((good_owS (good_oFn 31 6))) hX15
    have hF7x15 := hF7x14.ext (o1) hX15
    have hF8x15 := hF8x14.ext (o1) hX15
    have hB5x15 := hB5x14.ext hX15
    have hO9_0x15 := hO9_0x14.ext (o1) hX15
    have hO10_0x15 := hO10_0x14.ext (o1) hX15
    have hO11_0x15 := hO11_0x14.ext (o2) hX15
    have hO12_0x15 := hO12_0x14.ext (o1) hX15
    have hO12_1x15 := hO12_1x14.ext (o1) hX15
    have hO13_0x15 := hO13_0x14.ext (o1) hX15
    have hO13_1x15 := hO13_1x14.ext (o1) hX15
    have hO14_0x15 := hO14_0.ext (o1) hX15
    refine lw_tv 1 rfl (q_extract (vs := [v15_0, v15_1, (.int .i64 (euC pD fD aD))]) v15_0 rfl rfl zN (q_extract (vs := [v15_0, v15_1, (.int .i64 (euC pD fD aD))]) v15_1 rfl rfl zN (q_extract (vs := [v15_0, v15_1, (.int .i64 (euC pD fD aD))]) (.int .i64 (euC pD fD aD)) rfl rfl zN (lw_tvn 3 rfl (wp_seq (wp_seq (wp_plain _ [0, 0, 0, 0, 0, 0, 0, 0, 0, 0, 0, 0, 0, 0, 0, 0, 0, 0] rfl (lw_tv 2 rfl (q_neq false rfl rfl sM zN (lw_tv 3 rfl (q_neq false rfl rfl sM (zS (e := 91) rfl rfl rfl) (lw_tv 4 rfl (q_neq false rfl rfl sM (zS (e := 96) rfl rfl rfl) (lw_tv 4 rfl (q_neq false rfl rfl sM (zS (e := 101) rfl rfl rfl) (lw_tvn 1 rfl (c_cond_f rfl (wp_skip (wp_seq (wp_seq ?_))))))))))))))))))))
    refine wp_plain _ [0, 0] rfl (lw_tv 1 rfl ?_)
    by_cases hc16 : euC pD fD aD ≠ ((0 : Nat) : Int)
    ·
      exact q_neq true rfl rfl (decide_eq_true hc16) zN (lw_nil (c_cond_t rfl (wp_seq (wp_plain _ [0] rfl (lw_tvn 1 rfl (wp_ret (t_ret (post_ret [4] rfl (.bool true) rfl ⟨rfl, hE15⟩))))))))
    ·
      refine q_neq false rfl rfl (decide_eq_false hc16) zN (lw_nil (c_cond_f rfl (wp_skip (wp_seq (wp_seq (wp_plain _ [0, 0, 0, 0, 0, 3, 0, 0, 0, 0, 3, 0, 0, 0, 0, 0, 0, 0, 0, 0, 0, 0, 0, 3, 0, 3, 0, 0] rfl ?_))))))
      have h00 : euC pD fD aD = 0 := by omega
      have hJL := jac_law (d := bD) (e := x9_0) ⟨hvp, by omega, hla.1, hla.2, by rw [← euC_0 har0]; exact h00⟩ har0 ⟨by omega, hlb.2⟩ hot
      have hJl := hJL.len
      have hrw := hO11_0x15
      rw [if_pos h00] at hrw
      refine lw_tv 2 rfl (q_len (v := v10_0) u25 rfl hO10_0x15.isSl zN (lw_tv 1 rfl (q_len (v := vaD) u25 rfl hF7x15.isSl zN (lw_call 13 [] [] [v11_0, (.int .i64 (((euR pD fD aD).length : Nat) : Int)), (.int .i64 ((aD.length : Nat) : Int))] rfl rfl cf13 zN (c_wide_g _ _ _ _ _ hrw.rd2 oM oM (by rw [jaT_len, hJL.len.2.2]) (by intro k hk; rw [hJL.wide k hk])) ?_))))
      rintro e17 w17 ⟨rfl, hX17⟩
      refine ⟨_, rfl, hX17, ?_⟩
      have hzs17 : w15.heap.size ≤ w17.heap.size := hX17.size
      have hE17 : Ext w w17 := hE15.trans hX17
      have hF6x17 := hF6x15.ext ((good_owS (good_oFn 31 6))) hX17
      have hF7x17 := hF7x15.ext (o1) hX17
      have hF8x17 := hF8x15.ext (o1) hX17
      have hB5x17 := hB5x15.ext hX17
      have hO9_0x17 := hO9_0x15.ext (o1) hX17
      have hO10_0x17 := hO10_0x15.ext (o1) hX17
      have hrwx17 := hrw.ext (o2) hX17
      have hO12_0x17 := hO12_0x15.ext (o1) hX17
      have hO12_1x17 := hO12_1x15.ext (o1) hX17
      have hO13_0x17 := hO13_0x15.ext (o1) hX17
      have hO13_1x17 := hO13_1x15.ext (o1) hX17
      have hO14_0x17 := hO14_0x15.ext (o1) hX17
      have hO15_0x17 := hO15_0.ext (o1) hX17
      have hO15_1x17 := hO15_1.ext (o1) hX17
      refine q_not false rfl rfl zN (lw_tv 3 rfl (lw_call 18 [] [] [v12_0, v10_0] rfl rfl cf18 (zS (e := 115) rfl rfl rfl) (c_laws_a2Same _ _ _ _ _ hO12_0x17.rd1 hO10_0x17.rd1) ?_))
      rintro e18 w18 ⟨rfl, hX18⟩
      refine ⟨_, rfl, hX18, ?_⟩
      have hzs18 : w17.heap.size ≤ w18.heap.size := hX18.size
      have hE18 : Ext w w18 := hE17.trans hX18
      have hF6x18 := hF6x17.ext ((good_owS (good_oFn 31 6))) hX18
      have hF7x18 := hF7x17.ext (o1) hX18
      have hF8x18 := hF8x17.ext (o1) hX18
      have hB5x18 := hB5x17.ext hX18
      have hO9_0x18 := hO9_0x17.ext (o1) hX18
      have hO10_0x18 := hO10_0x17.ext (o1) hX18
      have hrwx18 := hrwx17.ext (o2) hX18
      have hO12_0x18 := hO12_0x17.ext (o1) hX18
      have hO12_1x18 := hO12_1x17.ext (o1) hX18
      have hO13_0x18 := hO13_0x17.ext (o1) hX18
      have hO13_1x18 := hO13_1x17.ext (o1) hX18
      have hO14_0x18 := hO14_0x17.ext (o1) hX18
      have hO15_0x18 := hO15_0x17.ext (o1) hX18
      have hO15_1x18 := hO15_1x17.ext (o1) hX18
      rw [show (decide (((drR pD fD.toNat aD bD).map (fun s : Sr => s.getD 0 0)) = (euR pD fD aD))) = true from decide_eq_true hJL.val]
      refine q_not false rfl rfl (zS (e := 115) rfl rfl rfl) (lw_tv 3 rfl (q_len (v := v12_1) u25 rfl hO12_1x18.isSl (zS (e := 121) rfl rfl rfl) (lw_tv 1 rfl (q_len (v := v10_0) u25 rfl hO10_0x18.isSl (zS (e := 121) rfl rfl rfl) ?_))))
      have hc19 : ¬ (((((drR pD fD.toNat aD bD).map (fun s : Sr => s.getD 1 0)).length : Nat) : Int) ≠ (((euR pD fD aD).length : Nat) : Int)) := (by rw [List.length_map]; have := hJL.len; omega)
      refine q_neq false rfl rfl (decide_eq_false hc19) (zS (e := 121) rfl rfl rfl) (lw_tv 4 rfl (lw_call 34 [] [] [v12_1, v13_1] rfl rfl cf34 (zS (e := 128) rfl rfl rfl) (c_laws_a2Add _ _ _ _ _ hO12_1x18.rd1 hO13_1x18.rd1 (by rw [List.length_map]; have := hJL.len; omega) (by rw [List.length_map, List.length_map]; have := hJL.len; omega)) ?_))
      rintro e20 w20 ⟨v20_0, rfl, hX20, hO20_0⟩
      refine ⟨_, rfl, hX20, ?_⟩
      have hzs20 : w18.heap.size ≤ w20.heap.size := hX20.size
      have hE20 : Ext w w20 := hE18.trans hX20
      have hF6x20 := hF6x18.ext ((good_owS (good_oFn 31 6))) hX20
      have hF7x20 := hF7x18.ext (o1) hX20
      have hF8x20 := hF8x18.ext (o1) hX20
      have hB5x20 := hB5x18.ext hX20
      have hO9_0x20 := hO9_0x18.ext (o1) hX20
      have hO10_0x20 := hO10_0x18.ext (o1) hX20
      have hrwx20 := hrwx18.ext (o2) hX20
      have hO12_0x20 := hO12_0x18.ext (o1) hX20
      have hO12_1x20 := hO12_1x18.ext (o1) hX20
      have hO13_0x20 := hO13_0x18.ext (o1) hX20
      have hO13_1x20 := hO13_1x18.ext (o1) hX20
      have hO14_0x20 := hO14_0x18.ext (o1) hX20
      have hO15_0x20 := hO15_0x18.ext (o1) hX20
      have hO15_1x20 := hO15_1x18.ext (o1) hX20
      refine lw_tv 1 rfl (lw_call 18 [] [] [v20_0, v15_1] rfl rfl cf18 (zS (e := 128) rfl rfl rfl) (c_laws_a2Same _ _ _ _ _ hO20_0.rd1 hO15_1x20.rd1) ?_)
      rintro e21 w21 ⟨rfl, hX21⟩
      refine ⟨_, rfl, hX21, ?_⟩
      have hzs21 : w20.heap.size ≤ w21.heap.size := hX21.size
      have hE21 : Ext w w21 := hE20.trans hX21
      have hF6x21 := hF6x20.ext ((good_owS (good_oFn 31 6))) hX21
      have hF7x21 := hF7x20.ext (o1) hX21
      have hF8x21 := hF8x20.ext (o1) hX21
      have hB5x21 := hB5x20.ext hX21
      have hO9_0x21 := hO9_0x20.ext (o1) hX21
      have hO10_0x21 := hO10_0x20.ext (o1) hX21
      have hrwx21 := hrwx20.ext (o2) hX21
      have hO12_0x21 := hO12_0x20.ext (o1) hX21
      have hO12_1x21 := hO12_1x20.ext (o1) hX21
      have hO13_0x21 := hO13_0x20.ext (o1) hX21
      have hO13_1x21 := hO13_1x20.ext (o1) hX21
      have hO14_0x21 := hO14_0x20.ext (o1) hX21
      have hO15_0x21 := hO15_0x20.ext (o1) hX21
      have hO15_1x21 := hO15_1x20.ext (o1) hX21
      have hO20_0x21 := hO20_0.ext (o1) hX21
      rw [show (decide ((addS ((drR pD fD.toNat aD bD).map (fun s : Sr => s.getD 1 0)) ((drR pD fD.toNat aD x9_0).map (fun s : Sr => s.getD 1 0))) = ((drR pD fD.toNat aD (addS bD x9_0)).map (fun s : Sr => s.getD 1 0)))) = true from decide_eq_true hJL.sum]
      refine q_not false rfl rfl (zS (e := 128) rfl rfl rfl) (lw_tvn 1 rfl (c_cond_f rfl (wp_skip (wp_seq (wp_seq (wp_plain _ [0] rfl (lw_tvn 1 rfl (wp_block ?_))))))))
      refine c_loop (S := Nat) (fun (i : Nat) => ([(25, (.int .i64 ((i : Nat) : Int))), (5, (.pointer (some ⟨w3.heap.size, 0, none⟩))), (6, (.int .i64 fD)), (8, vaD), (9, vbD), (14, v11_0), (17, v12_1)] : List (Nat × Value))) (fun (i : Nat) (W : World) => Ext w W ∧ Fr (owS 3 (oFn 31 6) 34) w1.heap.size w3.heap.size W.heap vD pD ∧ Fr (owL rI 2) w1.heap.size w3.heap.size W.heap vaD aD ∧ Fr (owL rI 2) w1.heap.size w3.heap.size W.heap vbD bD ∧ Fr (owL (owL rI 2) 25) w10.heap.size w11.heap.size W.heap v11_0 (jaT pD fD.toNat aD (pD.getD fD.toNat Fn.zero).outs.length aD.length) ∧ Fr (owL rI 2) w11.heap.size w12.heap.size W.heap v12_1 ((drR pD fD.toNat aD bD).map (fun s : Sr => s.getD 1 0)) ∧ BX W.heap w3.heap.size [vD] ∧ i ≤ (jaT pD fD.toNat aD (pD.getD fD.toNat Fn.zero).outs.length aD.length).length ∧ w1.heap.size ≤ W.heap.size) (fun (i : Nat) => (jaT pD fD.toNat aD (pD.getD fD.toNat Fn.zero).outs.length aD.length).length - i) 0 ⟨rfl, rfl, rfl, rfl, rfl, rfl, rfl, trivial⟩ ⟨hE21, hF6x21, hF7x21, hF8x21, hrwx21, hO12_1x21, hB5x21, oM, oM⟩ ?_
      clear hE0 hX1 hX3 hz4 hX4 hzs4 hE4 hz5 hC5 hzs5 hE5 hF6 hF7 hF8 hO9_0 hX9 hzs9 hE9 hF6x9 hF7x9 hF8x9 hO10_0 hX10 hF6x10 hF7x10 hF8x10 hO9_0x10 hO11_0 hX11 hF6x11 hF7x11 hF8x11 hO9_0x11 hO10_0x11 hO12_1 hO12_0 hX12 hF6x12 hF7x12 hF8x12 hO9_0x12 hO10_0x12 hO11_0x12 hO13_1 hO13_0 hX13 hzs13 hE13 hF6x13 hF7x13 hF8x13 hO9_0x13 hO10_0x13 hO11_0x13 hO12_0x13 hO12_1x13 hO14_0 hX14 hzs14 hE14 hF6x14 hF7x14 hF8x14 hO9_0x14 hO10_0x14 hO11_0x14 hO12_0x14 hO12_1x14 hO13_0x14 hO13_1x14 hO15_1 hO15_0 hX15 hzs15 hE15 hF6x15 hF7x15 hF8x15 hO9_0x15 hO10_0x15 hO11_0x15 hO12_0x15 hO12_1x15 hO13_0x15 hO13_1x15 hO14_0x15 hX17 hzs17 hE17 hF6x17 hF7x17 hF8x17 hO9_0x17 hO10_0x17 hO12_0x17 hO12_1x17 hO13_0x17 hO13_1x17 hO14_0x17 hO15_0x17 hO15_1x17 hX18 hzs18 hE18 hF6x18 hF7x18 hF8x18 hO9_0x18 hO10_0x18 hO12_0x18 hO12_1x18 hO13_0x18 hO13_1x18 hO14_0x18 hO15_0x18 hO15_1x18 hO20_0 hX20 hzs20 hE20 hF6x20 hF7x20 hF8x20 hO9_0x20 hO10_0x20 hO12_0x20 hO12_1x20 hO13_0x20 hO13_1x20 hO14_0x20 hO15_0x20 hO15_1x20 hX21 hzs21 hE21 hF6x21 hF7x21 hF8x21 hO9_0x21 hO10_0x21 hO12_0x21 hO12_1x21 hO13_0x21 hO13_1x21 hO14_0x21 hO15_0x21 hO15_1x21 hO20_0x21
      rintro i ρ22 w22 ⟨hE22, hL22_0, hL22_1, hL22_2, hL22_3, hL22_4, hL22_5, hp22_0, hkB23⟩
      have hzs22 : w.heap.size ≤ w22.heap.size := hE22.size
      have hq24 := hL22_5.lt
      refine wp_seq (wp_seq (wp_plain _ [0, 0, 0, 0] rfl (lw_tv 2 rfl (q_len (v := v11_0) u24 rfl hL22_3.isSl zN ?_))))
      by_cases hc25 : ((i : Nat) : Int) < (((jaT pD fD.toNat aD (pD.getD fD.toNat Fn.zero).outs.length aD.length).length : Nat) : Int)
      ·
        refine q_lss true rfl rfl (decide_eq_true hc25) zN (lw_nil (c_cond_t rfl (wp_skip (wp_seq (wp_block (wp_seq (wp_draw _ [0, 0, 0, 1, 0, 3, 0, 0, 0, 1, 0] mixed (by kernel_rfl) (lw_tv 2 rfl (q_idx (v := v11_0) i u24 ti25 rfl rfl hL22_3.isSl rfl oM zN ?_)))))))))
        obtain ⟨ue26, hl26, hd26⟩ := hL22_3.rd2.get (k := i) [] oM
        have hln26 := hd26.lenle
        refine q_load (p := eptr v11_0 i 1) (.inl rfl) ue26 one25 rfl hl26 zN (lw_tv 1 rfl (lw_call 29 [] [] [ue26, vbD] rfl rfl cf29 zN (c_laws_a2Dot _ _ _ _ _ hd26 hL22_2.rd1 (by rw [hJL.wide i oM]; omega)) ?_))
        rintro e27 w27 ⟨rfl, hX27⟩
        refine ⟨_, rfl, hX27, ?_⟩
        replace hX27 := hX27.of_drew
        have hzs27 : w22.heap.size ≤ w27.heap.size := hX27.size
        have hE27 : Ext w w27 := hE22.trans hX27
        have hL22_0x27 := hL22_0.ext ((good_owS (good_oFn 31 6))) hX27
        have hL22_1x27 := hL22_1.ext (o1) hX27
        have hL22_2x27 := hL22_2.ext (o1) hX27
        have hL22_3x27 := hL22_3.ext (o2) hX27
        have hL22_4x27 := hL22_4.ext (o1) hX27
        have hL22_5x27 := hL22_5.ext hX27
        have hd26x27 := hd26.ext g1 hX27
        have hlx28 := ldH_ext hX27 hl26
        refine lw_tv 2 rfl (q_idx (v := v12_1) i u25 ti2 rfl rfl hL22_4x27.isSl rfl (by rw [List.length_map, hJL.len.1]; rw [jaT_len] at *; omega) zN (q_load (p := eptr v12_1 i 1) (.inl rfl) (.int .i64 (((drR pD fD.toNat aD bD).map (fun s : Sr => s.getD 1 0)).getD i 0)) one2 rfl (hL22_4.rd1.getI (by rw [List.length_map, hJL.len.1]; rw [jaT_len] at *; omega)).1 zN ?_))
        have hc29 : ¬ (dotG ((jaT pD fD.toNat aD (pD.getD fD.toNat Fn.zero).outs.length aD.length).getD i []) bD ((jaT pD fD.toNat aD (pD.getD fD.toNat Fn.zero).outs.length aD.length).getD i []).length ≠ ((drR pD fD.toNat aD bD).map (fun s : Sr => s.getD 1 0)).getD i 0) := (fun h9 => h9 (hJL.dot i (by rw [jaT_len] at *; omega)))
        exact q_neq false rfl rfl (decide_eq_false hc29) zN (lw_nil (c_cond_f rfl (wp_skip (wp_plain _ [0, 0, 0] rfl (lw_tv 1 rfl (q_add ((i + 1 : Nat) : Int) rfl rfl (w64n oM (by rw [jaT_len] at *; omega)) zN (lw_tvn 1 rfl ⟨(i + 1), _, rfl, ⟨rfl, rfl, rfl, rfl, rfl, rfl, rfl, trivial⟩, ⟨hE27, hL22_0x27, hL22_1x27, hL22_2x27, hL22_3x27, hL22_4x27, hL22_5x27, oM, oM⟩, by first | omega | (dsimp only; omega)⟩)))))))
      ·
        refine q_lss false rfl rfl (decide_eq_false hc25) zN (lw_nil (c_cond_f rfl (wp_exit (t_exit (t_exit (c_exit_here (wp_seq (wp_seq (wp_plain _ [0] rfl (lw_tvn 1 rfl (wp_block ?_)))))))))))
        refine c_loop (S := Nat) (fun (k : Nat) => ([(26, (.int .i64 ((k : Nat) : Int))), (5, (.pointer (some ⟨w3.heap.size, 0, none⟩))), (6, (.int .i64 fD)), (8, vaD), (14, v11_0)] : List (Nat × Value))) (fun (k : Nat) (W : World) => Ext w W ∧ Fr (owS 3 (oFn 31 6) 34) w1.heap.size w3.heap.size W.heap vD pD ∧ Fr (owL rI 2) w1.heap.size w3.heap.size W.heap vaD aD ∧ Fr (owL (owL rI 2) 25) w10.heap.size w11.heap.size W.heap v11_0 (jaT pD fD.toNat aD (pD.getD fD.toNat Fn.zero).outs.length aD.length) ∧ BX W.heap w3.heap.size [vD] ∧ k ≤ aD.length ∧ w1.heap.size ≤ W.heap.size) (fun (k : Nat) => aD.length - k) 0 ⟨rfl, rfl, rfl, rfl, rfl, trivial⟩ ⟨hE22, hL22_0, hL22_1, hL22_3, hL22_5, oM, oM⟩ ?_
        clear hzs12 hE12 hL22_5 hL22_4 hL22_3 hL22_2 hL22_1 hL22_0 hE22 hzs22
        rintro k ρ30 w30 ⟨hE30, hL30_0, hL30_1, hL30_2, hL30_3, hp30_0, hkB31⟩
        have hzs30 : w.heap.size ≤ w30.heap.size := hE30.size
        have hq32 := hL30_3.lt
        refine wp_seq (wp_seq (wp_plain _ [0, 0, 0, 0] rfl (lw_tv 2 rfl (q_len (v := vaD) u25 rfl hL30_1.isSl zN ?_))))
        by_cases hc33 : ((k : Nat) : Int) < ((aD.length : Nat) : Int)
        ·
          refine q_lss true rfl rfl (decide_eq_true hc33) zN (lw_nil (c_cond_t rfl (wp_skip (wp_seq (wp_block (wp_seq (wp_plain _ [2, 0, 0, 0, 3, 0, 0, 0, 0, 0] rfl (q_loadA (p := (.pointer (some ⟨w3.heap.size, 0, none⟩))) (.inr rfl) [vD] agg37 rfl (fun wq9 hw9 => LD.of_box (BX.ext (w := w30) hL30_3 hw9)) rfl zN (lw_tv 3 rfl (lw_call 35 [] [] [(.agg #[vD]), (.int .i64 fD), (.int .i64 ((k : Nat) : Int)), vaD] rfl rfl cf35 zN (c_ParG _ 6 vD (pD) _ _ _ _ (RN.of_frF hL30_0 (fun b hb => by cases hb)) oM oM hL30_1.rd1 (by exact hli0) z6_0 oM (by exact har0)) ?_))))))))))
          rintro e34 w34 ⟨v34_0, rfl, hX34, hO34_0, hP34_0⟩
          refine ⟨_, rfl, hX34, ?_⟩
          have hzs34 : w30.heap.size ≤ w34.heap.size := hX34.size
          have hE34 : Ext w w34 := hE30.trans hX34
          have hL30_0x34 := hL30_0.ext ((good_owS (good_oFn 31 6))) hX34
          have hL30_1x34 := hL30_1.ext (o1) hX34
          have hL30_2x34 := hL30_2.ext (o2) hX34
          have hL30_3x34 := hL30_3.ext hX34
          refine lw_tv 1 rfl (q_extract (vs := [v34_0, (.int .i64 (euC pD fD aD))]) v34_0 rfl rfl zN (q_extract (vs := [v34_0, (.int .i64 (euC pD fD aD))]) (.int .i64 (euC pD fD aD)) rfl rfl zN (lw_tvn 2 rfl (wp_seq (wp_plain _ [0, 0, 0, 0, 0, 0, 3, 3, 0, 0] rfl (lw_tv 1 rfl ?_))))))
          have hc35 : ¬ (euC pD fD aD ≠ ((0 : Nat) : Int)) := oM
          refine q_neq false rfl rfl (decide_eq_false hc35) zN (lw_tv 4 rfl (lw_call 30 [] [] [v11_0, (.int .i64 ((k : Nat) : Int))] rfl rfl cf30 (zS (e := 169) rfl rfl rfl) (c_laws_a2Column _ _ _ (k) hL30_2x34.rd2 sD (by rw [jaT_len]; omega) (by intro r hr; rw [hJL.wide r hr]; omega)) ?_))
          rintro e36 w36 ⟨v36_0, rfl, hX36, hO36_0⟩
          refine ⟨_, rfl, hX36, ?_⟩
          have hzs36 : w34.heap.size ≤ w36.heap.size := hX36.size
          have hE36 : Ext w w36 := hE34.trans hX36
          have hL30_0x36 := hL30_0x34.ext ((good_owS (good_oFn 31 6))) hX36
          have hL30_1x36 := hL30_1x34.ext (o1) hX36
          have hL30_2x36 := hL30_2x34.ext (o2) hX36
          have hL30_3x36 := hL30_3x34.ext hX36
          have hO34_0x36 := hO34_0.ext (o1) hX36
          refine lw_call 18 [] [] [v34_0, v36_0] rfl rfl cf18 (zS (e := 169) rfl rfl rfl) (c_laws_a2Same _ _ _ _ _ hO34_0x36.rd1 hO36_0.rd1) ?_
          rintro e37 w37 ⟨rfl, hX37⟩
          refine ⟨_, rfl, hX37, ?_⟩
          have hzs37 : w36.heap.size ≤ w37.heap.size := hX37.size
          have hE37 : Ext w w37 := hE36.trans hX37
          have hL30_0x37 := hL30_0x36.ext ((good_owS (good_oFn 31 6))) hX37
          have hL30_1x37 := hL30_1x36.ext (o1) hX37
          have hL30_2x37 := hL30_2x36.ext (o2) hX37
          have hL30_3x37 := hL30_3x36.ext hX37
          have hO34_0x37 := hO34_0x36.ext (o1) hX37
          have hO36_0x37 := hO36_0.ext (o1) hX37
          rw [show (decide (((drR pD fD.toNat aD (uniG aD.length [((k : Nat) : Int)] 1)).map (fun s : Sr => s.getD 1 0)) = ((jaT pD fD.toNat aD (pD.getD fD.toNat Fn.zero).outs.length aD.length).map (fun r => r.getD k 0)))) = true from decide_eq_true (hJL.col k oM)]
          exact q_not false rfl rfl (zS (e := 169) rfl rfl rfl) (lw_tvn 1 rfl (c_cond_f rfl (wp_skip (wp_plain _ [0, 0, 0] rfl (lw_tv 1 rfl (q_add ((k + 1 : Nat) : Int) rfl rfl (w64n oM oM) zN (lw_tvn 1 rfl ⟨(k + 1), _, rfl, ⟨rfl, rfl, rfl, rfl, rfl, trivial⟩, ⟨hE37, hL30_0x37, hL30_1x37, hL30_2x37, hL30_3x37, oM, oM⟩, by first | omega | (dsimp only; omega)⟩)))))))
        ·
          exact q_lss false rfl rfl (decide_eq_false hc33) zN (lw_nil (c_cond_f rfl (wp_exit (t_exit (t_exit (c_exit_here (wp_seq (wp_plain _ [0] rfl (lw_tvn 1 rfl (wp_ret (post_ret [4] rfl (.bool true) rfl ⟨rfl, hE30⟩)))))))))))
  ·
    exact c_cond_t (by first | rfl | (show Value.bool _ = _; rw [hb2])) (wp_seq (wp_plain _ [0] rfl (lw_tvn 1 rfl (wp_ret (t_ret (post_ret [4] rfl (.bool true) rfl ⟨rfl, hE1⟩))))))
end Go.Proofs.Ytnokbaiemimhjaa
