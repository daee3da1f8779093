/- Wa, Vm, Wb, Wc, FwZ: texts of this claim, joined; what the claim does not come to is left out. -/
import Derived.Test.YtnofbmdpabcjaaaGreatQD4
import Derived.Test.YtnofbmdpabcjaaaGreatProg
import Derived.Deep.Strs
set_option linter.unusedVariables false
set_option linter.unusedSimpArgs false
namespace Go.Proofs.YtnofbmdpabcjaaaGreat
open Go Go.RowKit
set_option linter.unusedVariables false
set_option linter.unusedSimpArgs false
set_option maxHeartbeats 4000000
set_option maxRecDepth 100000
attribute [local irreducible] LW
theorem drv_step {a : Sr} {k : Nat} (hk : k + 1 < a.length) : mix (k + 1) (drv a) (List.replicate a.length 0) = (mix k (drv a) (List.replicate a.length 0)).set k (md (((k + 1 : Nat) : Int) * a.getD (k + 1) 0)) := by
  have h := mix_set (k := k) (t := drv a) (z := List.replicate a.length 0) 0 (by simp) (by simp; omega)
  rw [drv_at hk] at h; exact h.symm
theorem drv_done {a : Sr} {k : Nat} (hk : a.length ≤ k + 1) (hk2 : k ≤ a.length) : mix k (drv a) (List.replicate a.length 0) = drv a := by
  refine ext0 (by simp) fun j hj => ?_
  rw [mix_len _ _ _ (by simp), List.length_replicate] at hj
  by_cases h : j < k
  · rw [mix_lt 0 h (by simp; omega)]
  · rw [mix_ge 0 (by simp) (by omega) (by simp; omega)]
    unfold drv; rw [tab_get _ hj, if_neg (by omega)]; simp [hj]
theorem z52_0 {p : Prop} (h : p := by first | omega | assumption | (simp only [List.length_nil, List.length_cons, List.length_append, List.length_set, List.length_replicate, drv_len, cst_len]; omega) | (simp [List.length_nil, List.length_cons, List.length_append, List.length_set, List.length_replicate, drv_len, cst_len]; done) | (simp [List.length_nil, List.length_cons, List.length_append, List.length_set, List.length_replicate, drv_len, cst_len]; omega)) : p := h
theorem c_spec_l01Derive (w : World) (va : Value) (a : List Int) (ha : Rd (rdL rI) w.heap va a) (hla : a.length ≤ 1000000000) (hqa : allN a = true) :
    Calls Tryz.prog 52 #[va] w (fun e w' => ∃ v0 : Value, e = .returned (v0) ∧ Ext w w' ∧ Fr (owL rI 2) w.heap.size w'.heap.size w'.heap v0 (drv a)) := by
  refine calls_mk [va] 27 Tryz.func52 rfl rfl sM ?_
  have hE0 : Ext w w := Ext.refl w
  have hl_va := ha.lenle
  refine wp_seq (wp_plain _ [0] rfl (lw_tvn 1 rfl (wp_seq (wp_plain _ [0, 0, 3, 0] rfl (lw_tv 1 rfl (q_len (v := va) u25 rfl ha.isSl zN (lw_call 93 [] [] [(.int .i64 ((0 : Nat) : Int)), (.int .i64 ((a.length : Nat) : Int))] rfl rfl cf93 zN (c_spec_l01Const _ _ (a.length) oM z52_0 oM) ?_)))))))
  rintro e1 w1 ⟨v1_0, rfl, hX1, hO1_0⟩
  refine ⟨_, rfl, hX1, ?_⟩
  have hzs1 : w.heap.size ≤ w1.heap.size := hX1.size
  have hE1 : Ext w w1 := hE0.trans hX1
  refine lw_tvn 1 rfl (wp_seq (wp_seq (wp_plain _ [0] rfl (lw_tvn 1 rfl (wp_block (c_loop (S := Nat) (fun (k : Nat) => ([(4, (.int .i64 ((k : Nat) : Int))), (0, va), (3, v1_0)] : List (Nat × Value))) (fun (k : Nat) (W : World) => Ext w W ∧ Fr (owL rI 2) w.heap.size W.heap.size W.heap v1_0 (mix k (drv a) (List.replicate a.length 0)) ∧ k ≤ a.length) (fun (k : Nat) => a.length - k) 0 ⟨rfl, rfl, rfl, trivial⟩ ⟨hE1, (by have h := hO1_0.up o1; rw [show cst a.length ((0 : Nat) : Int) = List.replicate a.length 0 from cst_zero _] at h; rw [mix_zero]; exact h), oM⟩ ?_))))))
  clear hE0 hO1_0 hX1 hzs1 hE1
  rintro k ρ2 w2 ⟨hE2, hL2_0, hp2_0⟩
  have hzs2 : w.heap.size ≤ w2.heap.size := hE2.size
  have hml := mix_len k (drv a) (List.replicate a.length 0) sM
  rw [List.length_replicate] at hml
  refine wp_seq (wp_seq (wp_plain _ [0, 0, 0, 0, 0] rfl (lw_tv 1 rfl (q_add ((k + 1 : Nat) : Int) rfl rfl (w64n oM z52_0) zN (lw_tv 1 rfl (q_len (v := va) u25 rfl ha.isSl zN ?_))))))
  by_cases hc3 : ((k + 1 : Nat) : Int) < ((a.length : Nat) : Int)
  ·
    refine q_lss true rfl rfl (decide_eq_true hc3) zN (lw_nil (c_cond_t rfl (wp_skip (wp_seq (wp_block (wp_plain _ [0, 0, 0, 0, 0, 0, 0, 0, 2, 0, 0, 4] rfl (lw_tv 3 rfl (q_add ((k + 1 : Nat) : Int) rfl rfl (w64n oM oM) zN (lw_tv 2 rfl (q_add ((k + 1 : Nat) : Int) rfl rfl (w64n oM z52_0) zN ?_))))))))))
    refine q_idx (v := va) (k + 1) u25 ti2 rfl rfl ha.isSl rfl z52_0 zN ?_
    refine q_load (p := eptr va (k + 1) 1) (.inr rfl) (.int .i64 (a.getD (k + 1) 0)) one2 rfl (ldH_ext hE2 (ha.getI z52_0).1) zN ?_
    refine lw_callq 94 [] [] [(.int .i64 ((k + 1 : Nat) : Int)), (.int .i64 (a.getD (k + 1) 0))] rfl rfl cf94 zN (.int .i64 (md (((k + 1 : Nat) : Int) * (a.getD (k + 1) 0)))) (fun wq => c_spec_Times wq _ _ oM (ha.getI z52_0).2) ?_
    refine q_idx (v := v1_0) k u25 ti2 rfl rfl hL2_0.isSl rfl z52_0 zN ?_
    refine e_setI (v := v1_0) (w := w2) sz2 rfl rfl (md_rng _) hL2_0 z52_0 zN fun w5 F5 hC5 hz5 hF5 hO5 => ?_
    have hE5 : Ext w w5 := hC5.below hE2 (fun c hc => Nat.le_trans (Nat.le_refl _) (hF5 c hc).1) hE2.size
    have hzs5 : w2.heap.size ≤ w5.heap.size := hC5.size
    exact lw_nil (wp_plain _ [0, 0, 0] rfl (lw_tv 1 rfl (q_add ((k + 1 : Nat) : Int) rfl rfl (w64n oM z52_0) zN (lw_tvn 1 rfl ⟨(k + 1), _, rfl, ⟨rfl, rfl, rfl, trivial⟩, ⟨hE5, (by rw [drv_step oM]; exact hO5.up o1), oM⟩, by first | omega | (dsimp only; omega)⟩))))
  ·
    exact q_lss false rfl rfl (decide_eq_false hc3) zN (lw_nil (c_cond_f rfl (wp_exit (t_exit (t_exit (c_exit_here (wp_seq (wp_plain _ [0, 0] rfl (lw_tvn 2 rfl (wp_ret (post_ret [2] rfl v1_0 rfl ⟨v1_0, rfl, hE2, (by have h := hL2_0.up o1; rwa [drv_done oM oM] at h)⟩)))))))))))
/-- What a check of a flow returns. -/
def ckR (p : List Fn) (f : Int) (y : List Sr) : Bool := if psC p f y = 0 then ckB (alR p f y) y else false
theorem ck_bad {v y : List Sr} {i k : Nat} (hi : i < y.length) (hk : k + 1 < (y.getD i []).length) (h : (drv (y.getD i [])).getD k 0 ≠ (v.getD i []).getD k 0) : ckB v y = false := by
  unfold ckB; exact allR_fail hi (allR_fail (by omega) (decide_eq_false h))
theorem z22_0 {p : Prop} (h : p := by first | omega | assumption | (simp only [List.length_nil, List.length_cons, List.length_append, List.length_set, List.length_replicate, drv_len]; omega) | (simp [List.length_nil, List.length_cons, List.length_append, List.length_set, List.length_replicate, drv_len]; done) | (simp [List.length_nil, List.length_cons, List.length_append, List.length_set, List.length_replicate, drv_len]; omega)) : p := h
theorem c_spec_CheckFlow (w : World) (dp : Nat) (vp : Value) (p : List Fn) (f : Int) (vy : Value) (y : List (List Int)) (hp : RP [] dp w.heap vp p) (_hf : -9223372036854775808 ≤ f ∧ f ≤ 9223372036854775807) (hy : RN [] (rdL (rdL rI)) w.heap vy y) (hqy : CapS vy) (hz : SzP p) :
    Calls Tryz.prog 22 #[(.agg #[vp]), .int .i64 f, vy] w (fun e w' => e = .returned (.tuple #[.bool (ckR p f y), .int .i64 (psC p f y)]) ∧ Ext w w') := by
  refine calls_mk [(.agg #[vp]), .int .i64 f, vy] 52 Tryz.func22 rfl rfl sM ?_
  have hE0 : Ext w w := Ext.refl w
  have hl_vp := hp.lenle
  unfold maxLen at hl_vp
  have hl_vy := hy.lenL
  unfold maxLen at hl_vy
  refine wp_seq (wp_plain _ [3, 0, 0] rfl (r_boxA (cs := #[vp]) rfl zN fun w1 hX1 hz1 hB1 => ?_))
  have hzs1 : w.heap.size ≤ w1.heap.size := hX1.size
  have hE1 : Ext w w1 := hE0.trans hX1
  replace hB1 : BX w1.heap w.heap.size [vp] := hB1
  refine lw_tvn 2 rfl (wp_seq (wp_plain _ [0, 0, 3, 0, 0, 0, 0, 0] rfl (lw_tv 2 rfl (lw_call 51 [] [] [(.pointer (some ⟨w.heap.size, 0, none⟩)), (.int .i64 f), vy] rfl rfl cf51 zN (c_spec_l07Along _ dp ((.pointer (some ⟨w.heap.size, 0, none⟩))) (p) _ vy (y) (RN.box hB1 (RP.mk' (hp.ext (good_rdS (good_rFn dp)) hE1)) sM) _hf (hy.ext g2 hE1) hqy (by exact hz)) ?_))))
  rintro e2 w2 ⟨v2_0, rfl, hX2, hO2_0, hP2_0, hP2_1⟩
  refine ⟨_, rfl, hX2, ?_⟩
  have hzs2 : w1.heap.size ≤ w2.heap.size := hX2.size
  have hE2 : Ext w w2 := hE1.trans hX2
  have hB1x2 := hB1.ext hX2
  refine lw_tv 1 rfl (q_extract (vs := [v2_0, (.int .i64 (psC p f y))]) v2_0 rfl rfl zN (q_extract (vs := [v2_0, (.int .i64 (psC p f y))]) (.int .i64 (psC p f y)) rfl rfl zN (lw_tvn 2 rfl (wp_seq (wp_seq (wp_plain _ [0, 0] rfl (lw_tv 1 rfl ?_)))))))
  by_cases hc3 : psC p f y ≠ ((0 : Nat) : Int)
  ·
    exact q_neq true rfl rfl (decide_eq_true hc3) zN (lw_nil (c_cond_t rfl (wp_seq (wp_plain _ [0, 0, 0] rfl (lw_tvn 3 rfl (wp_ret (t_ret (post_ret [6, 7] rfl (.tuple #[(.bool false), (.int .i64 (psC p f y))]) rfl ⟨(by unfold ckR; rw [if_neg oM]), hE2⟩))))))))
  ·
    refine q_neq false rfl rfl (decide_eq_false hc3) zN (lw_nil (c_cond_f rfl (wp_skip (wp_seq (wp_seq (wp_plain _ [0] rfl ?_))))))
    have hpc0 : psC p f y = 0 := by omega
    have hg0 : gvC p f y = 0 := Decidable.byContradiction fun h9 => h9 (by have := psC_n h9; omega)
    have hEV := (‹gvC p f y = 0 → EvP p (oOf y + 1) f.toNat y› hg0)
    have hq0 := gvC_0 hg0
    have hse := hq0.2.2.2.2.1
    have hal : alR p f y = evR p (oOf y + 1) f.toNat y := if_pos hg0
    have hes := hEV.ser
    rw [← hal] at hes
    have hel := hEV.len ((psC_0 hg0).symm.trans hpc0)
    rw [← hal] at hel
    refine lw_tvn 1 rfl (wp_block ?_)
    refine c_loop (S := Nat) (fun (i : Nat) => ([(10, (.int .i64 ((i : Nat) : Int))), (2, vy), (8, v2_0)] : List (Nat × Value))) (fun (i : Nat) (W : World) => Ext w W ∧ Fr (owL (owL rI 2) 25) w1.heap.size w2.heap.size W.heap v2_0 (alR p f y) ∧ i ≤ y.length ∧ (List.range i).all (fun i => (List.range ((y.getD i []).length - 1)).all fun k => decide ((drv (y.getD i [])).getD k 0 = ((alR p f y).getD i []).getD k 0)) = true) (fun (i : Nat) => y.length - i) 0 ⟨rfl, rfl, rfl, trivial⟩ ⟨hE2, hO2_0, z22_0, (by rfl)⟩ ?_
    clear hE0 hz1 hX1 hO2_0 hX2
    rintro i ρ4 w4 ⟨hE4, hL4_0, hp4_0, hqi⟩
    have hzs4 : w.heap.size ≤ w4.heap.size := hE4.size
    refine wp_seq (wp_seq (wp_plain _ [0, 0, 0, 0] rfl (lw_tv 2 rfl (q_len (v := vy) u27 rfl hy.slL zN ?_))))
    by_cases hc5 : ((i : Nat) : Int) < ((y.length : Nat) : Int)
    ·
      refine q_lss true rfl rfl (decide_eq_true hc5) zN (lw_nil (c_cond_t rfl (wp_skip (wp_seq (wp_block (wp_seq (wp_plain _ [0, 0, 0, 2, 3, 0] rfl ?_)))))))
      have hyk := hse i oM
      have hyl := hyk.1
      have hdl := drv_len (y.getD i [])
      refine lw_tv 2 rfl (q_idx (v := vy) i u27 ti25 rfl rfl hy.slL rfl z22_0 zN ?_)
      obtain ⟨ue6, hl6, hr6⟩ := RN.getL (w := w) g1 [] (k := i) hy z22_0
      have hln6 := hr6.lenL
      unfold maxLen at hln6
      refine q_load (p := eptr vy i 1) (.inr rfl) ue6 one25 rfl (hl6 _ (Chg.of_ext [] hE4)) zN (lw_call 52 [] [] [ue6] rfl rfl cf52 zN (c_spec_l01Derive _ _ _ ((hr6.ext g1 hE4)).rd oM (by exact hyk.2)) ?_)
      rintro e7 w7 ⟨v7_0, rfl, hX7, hO7_0⟩
      refine ⟨_, rfl, hX7, ?_⟩
      have hzs7 : w4.heap.size ≤ w7.heap.size := hX7.size
      have hE7 : Ext w w7 := hE4.trans hX7
      have hL4_0x7 := hL4_0.ext (o2) hX7
      refine lw_tvn 1 rfl (wp_seq (wp_plain _ [0] rfl (lw_tvn 1 rfl (wp_block (c_loop (S := Nat) (fun (k : Nat) => ([(12, (.int .i64 ((k : Nat) : Int))), (2, vy), (8, v2_0), (10, (.int .i64 ((i : Nat) : Int))), (11, v7_0)] : List (Nat × Value))) (fun (k : Nat) (W : World) => Ext w W ∧ Fr (owL (owL rI 2) 25) w1.heap.size w2.heap.size W.heap v2_0 (alR p f y) ∧ Fr (owL rI 2) w4.heap.size w7.heap.size W.heap v7_0 (drv (y.getD i [])) ∧ k + 1 ≤ (y.getD i []).length ∧ (List.range k).all (fun k => decide ((drv (y.getD i [])).getD k 0 = ((alR p f y).getD i []).getD k 0)) = true) (fun (k : Nat) => (y.getD i []).length - k) 0 ⟨rfl, rfl, rfl, rfl, rfl, trivial⟩ ⟨hE7, hL4_0x7, hO7_0, oM, (by rfl)⟩ ?_)))))
      clear hL4_0 hln6 hO7_0 hX7 hL4_0x7
      rintro k ρ8 w8 ⟨hE8, hL8_0, hL8_1, hp8_0, hqk⟩
      have hzs8 : w.heap.size ≤ w8.heap.size := hE8.size
      refine wp_seq (wp_seq (wp_plain _ [0, 0, 0, 0, 0] rfl (lw_tv 1 rfl (q_add ((k + 1 : Nat) : Int) rfl rfl (w64n oM z22_0) zN (lw_tv 1 rfl (q_len (v := v7_0) u25 rfl hL8_1.isSl zN ?_))))))
      by_cases hc9 : ((k + 1 : Nat) : Int) < (((drv (y.getD i [])).length : Nat) : Int)
      ·
        refine q_lss true rfl rfl (decide_eq_true hc9) zN (lw_nil (c_cond_t rfl (wp_skip (wp_seq (wp_block (wp_seq (wp_draw _ [0, 0, 0, 1, 0, 0, 0, 1, 0, 0, 1, 0] mixed (by kernel_rfl) ?_)))))))
        have hvk := (hes i oM).1
        refine lw_tv 2 rfl (q_idx (v := v7_0) k u25 ti2 rfl rfl hL8_1.isSl rfl z22_0 zN ?_)
        refine q_load (p := eptr v7_0 k 1) (.inl rfl) (.int .i64 ((drv (y.getD i [])).getD k 0)) one2 rfl (hL8_1.rd1.getI z22_0).1 zN (lw_tv 2 rfl ?_)
        refine q_idx (v := v2_0) i u27 ti25 rfl rfl hL8_0.isSl rfl z22_0 zN ?_
        obtain ⟨ue10, hl10, hd10⟩ := hL8_0.rd2.get (k := i) [] z22_0
        have hln10 := hd10.lenle
        refine q_load (p := eptr v2_0 i 1) (.inl rfl) ue10 one25 rfl hl10 zN (lw_tv 1 rfl (q_idx (v := ue10) k u25 ti2 rfl rfl hd10.isSl rfl z22_0 zN ?_))
        refine q_load (p := eptr ue10 k 1) (.inl rfl) (.int .i64 (((alR p f y).getD i []).getD k 0)) one2 rfl (hd10.getI z22_0).1 zN ?_
        by_cases hc11 : (drv (y.getD i [])).getD k 0 ≠ ((alR p f y).getD i []).getD k 0
        ·
          exact q_neq true rfl rfl (decide_eq_true hc11) zN (lw_nil (c_cond_t rfl (wp_seq (wp_plain _ [0, 0] rfl (lw_tvn 2 rfl (wp_ret (b_ret (t_ret (t_ret (b_ret (b_ret (t_ret (t_ret (b_ret (t_ret (post_ret [6, 7] rfl (.tuple #[(.bool false), (.int .i64 ((0 : Nat) : Int))]) rfl ⟨(by unfold ckR; rw [if_pos hpc0, hpc0, ck_bad (v := alR p f y) (i := i) (k := k) oM oM oM]; rfl), hE8.drew⟩))))))))))))))))
        ·
          exact q_neq false rfl rfl (decide_eq_false hc11) zN (lw_nil (c_cond_f rfl (wp_skip (wp_plain _ [0, 0, 0] rfl (lw_tv 1 rfl (q_add ((k + 1 : Nat) : Int) rfl rfl (w64n oM z22_0) zN (lw_tvn 1 rfl ⟨(k + 1), _, rfl, ⟨rfl, rfl, rfl, rfl, rfl, trivial⟩, ⟨hE8.drew, hL8_0, hL8_1, oM, (by exact allR_succ hqk (decide_eq_true oM))⟩, by first | omega | (dsimp only; omega)⟩)))))))
      ·
        refine q_lss false rfl rfl (decide_eq_false hc9) zN (lw_nil (c_cond_f rfl (wp_exit (t_exit (t_exit (c_exit_here (wp_plain _ [0, 0, 0] rfl (lw_tv 1 rfl (q_add ((i + 1 : Nat) : Int) rfl rfl (w64n oM z22_0) zN (lw_tvn 1 rfl ?_))))))))))
        exact ⟨(i + 1), _, rfl, ⟨rfl, rfl, rfl, trivial⟩, ⟨hE8, hL8_0, z22_0, (by exact allR_succ hqi (by rw [show (y.getD i []).length - 1 = k from by omega]; exact hqk))⟩, by first | omega | (dsimp only; omega)⟩
    ·
      exact q_lss false rfl rfl (decide_eq_false hc5) zN (lw_nil (c_cond_f rfl (wp_exit (t_exit (t_exit (c_exit_here (wp_seq (wp_plain _ [0, 0] rfl (lw_tvn 2 rfl (wp_ret (post_ret [6, 7] rfl (.tuple #[(.bool true), (.int .i64 ((0 : Nat) : Int))]) rfl ⟨(by unfold ckR ckB; rw [if_pos hpc0, hpc0, show y.length = i from by omega, hqi]; rfl), hE4⟩)))))))))))
end Go.Proofs.YtnofbmdpabcjaaaGreat
namespace Go.Proofs.YtnofbmdpabcjaaaGreat
open Go Go.RowKit
set_option linter.unusedVariables false
set_option linter.unusedSimpArgs false
set_option maxHeartbeats 4000000
set_option maxRecDepth 100000
attribute [local irreducible] LW
theorem z131_0 {p : Prop} (h : p := by unfold okS; first | (rw [‹(decide (((1 : Nat) : Int) ≤ ((a.length : Nat) : Int)) && decide (((a.length : Nat) : Int) ≤ ((13 : Nat) : Int))) = false›]; rfl) | (rw [‹(decide (((1 : Nat) : Int) ≤ ((a.length : Nat) : Int)) && decide (((a.length : Nat) : Int) ≤ ((13 : Nat) : Int))) = true›]; simp)) : p := h
theorem c_impl_ValidSeries (w : World) (va : Value) (a : List Int) (ha : Rd (rdL rI) w.heap va a)  :
  Calls Tryz.prog 131 #[va] w (fun e w' => e = .returned (.bool (okS a)) ∧ Ext w w') := by
 refine calls_mk [va] 12 Tryz.func131 rfl rfl sM ?_
 have hE0 : Ext w w := Ext.refl w
 have hl_va := ha.lenle
 refine wp_seq (wp_plain _ [0] rfl (lw_tvn 1 rfl (wp_seq (wp_plain _ [0,0,0,0,0,0,0,3,0,0] rfl (lw_tv 1 rfl (q_len (v := va) u25 rfl ha.isSl zN (lw_callq 68 [] [] [(.int .i64 ((a.length :Nat):Int)),(.int .i64 ((1 :Nat):Int)),(.int .i64 ((13 :Nat):Int))] rfl rfl cf68 zN (.bool (decide (((1 :Nat):Int) ≤ ((a.length :Nat):Int)) && decide (((a.length :Nat):Int) ≤ ((13 :Nat):Int)))) (fun wq => c_impl_within wq _ _ _ oM oM oM) (lw_tv 1 rfl ?_))))))))
 cases hb2 : (decide (((1 :Nat):Int) ≤ ((a.length :Nat):Int)) && decide (((a.length :Nat):Int) ≤ ((13 :Nat):Int)))
 ·
  exact lw_tvn 6 rfl (wp_ret (post_ret [2] rfl (.bool false) rfl ⟨(ret_bool z131_0),hE0⟩))
 ·
  refine lw_tv 2 rfl (q_len (v := va) u25 rfl ha.isSl (zS (e := 6) rfl rfl rfl) (lw_call 85 [] [] [va,(.int .i64 ((a.length :Nat):Int))] rfl rfl cf85 (zS (e := 6) rfl rfl rfl) (c_impl_areNumbers _ _ _ _ (ha.ext g1 hE0) oM) ?_))
  rintro e3 w3 ⟨rfl,hX3⟩
  refine ⟨_,rfl,hX3,?_⟩
  have hzs3:=hX3.size
  have hE3:=hE0.trans hX3
  exact lw_tvn 2 rfl (wp_ret (post_ret [2] rfl (.bool (decide (((a.length :Nat):Int) = ((a.length :Nat):Int)) && allN a)) rfl ⟨(ret_bool z131_0),hE3⟩))
theorem c_impl_areArgs (w : World) (va : Value) (a : List (List Int)) (n : Int) (ha : Rd (rdL (rdL rI)) w.heap va a) (_hn : -9223372036854775808 ≤ n ∧ n ≤ 9223372036854775807)  :
  Calls Tryz.prog 96 #[va,.int .i64 n] w (fun e w' => e = .returned (.bool (argB a && decide (((a.length :Nat):Int) = n))) ∧ Ext w w') := by
 refine calls_mk [va,.int .i64 n] 30 Tryz.func96 rfl rfl sM ?_
 have hE0 : Ext w w := Ext.refl w
 have hl_va := ha.lenle
 refine wp_seq (wp_plain _ [0] rfl (lw_tvn 1 rfl (wp_seq (wp_seq (wp_plain _ [0,0,0] rfl (lw_tv 1 rfl (q_len (v := va) u27 rfl ha.isSl zN (lw_tvn 1 rfl (wp_block ?_)))))))))
 refine c_loop (S := Nat) (fun (k : Nat) => ([(9,(.int .i64 ((k :Nat):Int))),(0,va),(1,(.int .i64 n)),(7,va),(8,(.int .i64 ((a.length :Nat):Int)))] : List (Nat × Value))) (fun (k : Nat) (W : World) => Ext w W ∧ k ≤ a.length ∧ ((a.take k).all (serB (a.getD 0 []).length) = true)) (fun (k : Nat) => a.length - k) 0 ⟨rfl,rfl,rfl,rfl,rfl,trivial⟩ ⟨hE0,sD,(by exact rfl)⟩ ?_
 clear hE0
 rintro k ρ1 w1 ⟨hE1,hp1_0,hq⟩
 have hzs1 : w.heap.size ≤ w1.heap.size := hE1.size
 refine wp_seq (wp_plain _ [0] rfl ?_)
 by_cases hc2 : ((k :Nat):Int) < ((a.length :Nat):Int)
 ·
  refine q_lss true rfl rfl (decide_eq_true hc2) zN (lw_nil (wp_seq (c_cond_t rfl (wp_skip (wp_seq (wp_block (wp_seq (wp_plain _ [0,2,0] rfl (q_idx (v := va) k u27 ti25 rfl rfl ha.isSl rfl sD zN ?_)))))))))
  obtain ⟨ue3,hl3,hd3⟩ := ha.get (k := k) [] sD
  have hln3 := hd3.lenle
  refine q_load (p := eptr va k 1) (.inr rfl) ue3 one25 rfl (ldH_ext hE1 hl3) zN (lw_tvn 1 rfl (wp_seq (wp_plain _ [0,3,0,0,0,0,0,0,2,0,0,0] rfl (lw_tv 1 rfl (lw_call 131 [] [] [ue3] rfl rfl cf131 zN (c_impl_ValidSeries _ _ _ (hd3.ext g1 hE1)) ?_)))))
  rintro e4 w4 ⟨rfl,hX4⟩
  refine ⟨_,rfl,hX4,?_⟩
  have hzs4:=hX4.size
  have hE4:=hE1.trans hX4
  refine q_not (!(okS (a.getD k []))) rfl rfl zN (lw_tv 1 rfl ?_)
  cases hb5 : (!(okS (a.getD k [])))
  ·
   refine lw_tv 1 rfl (q_len (v := ue3) u25 rfl hd3.isSl (zS (e := 16) rfl rfl rfl) (lw_tv 1 rfl (q_idx (v := va) 0 u27 ti25 rfl rfl ha.isSl rfl sD (zS (e := 16) rfl rfl rfl) ?_)))
   obtain ⟨ue6,hl6,hd6⟩ := ha.get (k := 0) [] sD
   have hln6 := hd6.lenle
   refine q_load (p := eptr va 0 1) (.inr rfl) ue6 one25 rfl (ldH_ext hE4 hl6) (zS (e := 16) rfl rfl rfl) (q_len (v := ue6) u25 rfl hd6.isSl (zS (e := 16) rfl rfl rfl) ?_)
   by_cases hc7 : (((a.getD k []).length :Nat):Int) ≠ (((a.getD 0 []).length :Nat):Int)
   ·
    exact q_neq true rfl rfl (decide_eq_true hc7) (zS (e := 16) rfl rfl rfl) (lw_tvn 1 rfl (c_cond_t rfl (wp_seq (wp_plain _ [0] rfl (lw_tvn 1 rfl (wp_ret (b_ret (t_ret (t_ret (b_ret (t_ret (post_ret [4] rfl (.bool false) rfl ⟨(ret_bool (by unfold argB; rw [all_fail (f := serB (a.getD 0 []).length) (k := k) [] oM (by unfold serB; rw [Bool.and_eq_false_iff]; right; exact decide_eq_false oM)]; rfl)),hE4⟩))))))))))))
   ·
    refine q_neq false rfl rfl (decide_eq_false hc7) (zS (e := 16) rfl rfl rfl) (lw_tvn 1 rfl (c_cond_f rfl (wp_skip (wp_plain _ [0,0] rfl (q_add ((k + 1 :Nat):Int) rfl rfl (w64n oM sD) zN (lw_tvn 1 rfl ?_))))))
    exact ⟨(k + 1),_,rfl,⟨rfl,rfl,rfl,rfl,rfl,trivial⟩,⟨hE4,sD,(by exact all_succ (f := serB (a.getD 0 []).length) [] hq oM (by unfold serB; simp only [Bool.and_eq_true,decide_eq_true_eq]; exact ⟨by simpa using ‹(!okS (a.getD k [])) = false›,by omega⟩))⟩,by first | omega | (dsimp only; omega)⟩
  ·
   exact lw_tvn 8 rfl (c_cond_t rfl (wp_seq (wp_plain _ [0] rfl (lw_tvn 1 rfl (wp_ret (b_ret (t_ret (t_ret (b_ret (t_ret (post_ret [4] rfl (.bool false) rfl ⟨(ret_bool (by unfold argB; rw [all_fail (f := serB (a.getD 0 []).length) (k := k) [] oM (by unfold serB; rw [Bool.and_eq_false_iff]; left; simpa using ‹(!okS (a.getD k [])) = true›)]; rfl)),hE4⟩)))))))))))
 ·
  exact q_lss false rfl rfl (decide_eq_false hc2) zN (lw_nil (wp_seq (c_cond_f rfl (wp_exit (t_exit (t_exit (c_exit_here (wp_seq (wp_plain _ [0,0,0,0,0] rfl (lw_tv 1 rfl (q_len (v := va) u27 rfl ha.isSl zN (lw_tv 1 rfl (q_eql (decide (((a.length :Nat):Int) = n)) rfl rfl rfl zN (lw_tvn 1 rfl (wp_ret (post_ret [4] rfl (.bool (decide (((a.length :Nat):Int) = n))) rfl ⟨(ret_bool (by unfold argB; rw [all_done hq oM,Bool.true_and])),hE1⟩))))))))))))))))
theorem z53_0 {p : Prop} (h : p := by first | exact ret_int (gv_n oM) | exact ret_int (gv_2 oM (bn_t (by assumption))) | exact ret_int (gv_3 oM (bn_f (by assumption)))) : p := h
theorem c_impl_isGiven (w : World) (dp : Nat) (vp : Value) (p : List Fn) (f : Int) (vy : Value) (y : List (List Int)) (hp : RP [] dp w.heap vp p) (_hf : -9223372036854775808 ≤ f ∧ f ≤ 9223372036854775807) (hy : RN [] (rdL (rdL rI)) w.heap vy y) (hqy : CapS vy) (hz : SzP p) :
  Calls Tryz.prog 53 #[(.agg #[vp]),.int .i64 f,vy] w (fun e w' => e = .returned (.int .i64 (gvC p f y)) ∧ Ext w w') := by
 refine calls_mk [(.agg #[vp]),.int .i64 f,vy] 25 Tryz.func53 rfl rfl sM ?_
 have hE0 : Ext w w := Ext.refl w
 have hl_vp := hp.lenle
 unfold maxLen at hl_vp
 have hl_vy := hy.lenL
 unfold maxLen at hl_vy
 refine wp_seq (wp_plain _ [3,0] rfl (r_boxA (cs := #[vp]) rfl zN fun w1 hX1 hz1 hB1 => ?_))
 have hzs1:=hX1.size
 have hE1:=hE0.trans hX1
 replace hB1 : BX w1.heap w.heap.size [vp] := hB1
 refine lw_tvn 1 rfl (wp_seq (wp_plain _ [2,0,3,0] rfl (q_loadA (p := (.pointer (some ⟨w.heap.size,0,none⟩))) (.inr rfl) [vp] agg32 rfl (fun w9 hw9 => LD.of_box (BX.ext (w := w1) hB1 hw9)) rfl zN (lw_tv 1 rfl (lw_call 95 [] [] [(.agg #[vp]),(.int .i64 f)] rfl rfl cf95 zN (c_impl_isField _ dp vp (p) _ (hp.ext (good_rdS (good_rFn dp)) hE1) _hf (by exact hz)) ?_)))))
 rintro e2 w2 ⟨rfl,hX2⟩
 refine ⟨_,rfl,hX2,?_⟩
 have hzs2:=hX2.size
 have hE2:=hE1.trans hX2
 have hB1x2 := hB1.ext hX2
 refine lw_tvn 1 rfl (wp_seq (wp_seq (wp_plain _ [0,0,0,0,0,2,0,0,0,2,3,0,0] rfl (lw_tv 1 rfl ?_))))
 by_cases hc3 : shF p f fldB = ((0 :Nat):Int)
 ·
  refine q_eql true rfl rfl (decide_eq_true hc3) zN (lw_tv 2 rfl ?_)
  have hi0 := fld_0 (p := p) (f := f) oM
  refine q_fldP (p := (.pointer (some ⟨w.heap.size,0,none⟩))) (b := w.heap.size) (o := 0) 0 fd32_0 rfl rfl (zS (e := 13) rfl rfl rfl) (q_load (p := (padd (.pointer (some ⟨w.heap.size,0,none⟩)) 0)) (.inr rfl) vp one30 rfl (hB1x2.ldp (i := 0) sM) (zS (e := 13) rfl rfl rfl) (lw_tv 1 rfl (q_idx (v := vp) ((f).toNat) u30 tiS80 rfl rfl hp.isSl oM sD (zS (e := 13) rfl rfl rfl) ?_)))
  obtain ⟨cs4,hr4,hl4⟩ := hp.get (good_rFn dp) Fn.zero (k := ((f).toNat)) sD
  obtain ⟨ve4,rfl,hx4⟩ := RF.of hr4
  have hln4 := hx4.rn.lenle
  unfold maxLen at hln4
  refine q_fldL (p := eptr vp ((f).toNat) 3) 1 fd80_1 rfl (hl4 _ (Chg.of_ext [] hE2)) (zS (e := 13) rfl rfl rfl) (q_load (p := (padd (eptr vp ((f).toNat) 3) 1)) (.inr rfl) (.int .i64 ((p.getD ((f).toNat) Fn.zero).params)) one2 rfl ((hl4 _ (Chg.of_ext [] hE2)).ld (i := 1) (by simp [exC,fnC])) (zS (e := 13) rfl rfl rfl) (lw_call 96 [] [] [vy,(.int .i64 ((p.getD ((f).toNat) Fn.zero).params))] rfl rfl cf96 (zS (e := 13) rfl rfl rfl) (c_impl_areArgs _ _ _ _ ((hy.ext g2 hE2)).rd hx4.rng) ?_))
  rintro e5 w5 ⟨rfl,hX5⟩
  refine ⟨_,rfl,hX5,?_⟩
  have hzs5:=hX5.size
  have hE5:=hE2.trans hX5
  have hB1x5 := hB1x2.ext hX5
  refine q_not (!(argB y && decide (((y.length :Nat):Int) = ((p.getD ((f).toNat) Fn.zero).params)))) rfl rfl (zS (e := 13) rfl rfl rfl) (lw_tvn 1 rfl ?_)
  cases hb6 : (!(argB y && decide (((y.length :Nat):Int) = ((p.getD ((f).toNat) Fn.zero).params))))
  ·
   exact c_cond_f (by first | rfl | (show Value.bool _ = _; rw [hb6])) (wp_skip (wp_seq (wp_plain _ [0,0] rfl (lw_tvn 2 rfl (wp_ret (post_ret [6] rfl (.int .i64 (shF p f fldB)) rfl ⟨z53_0,hE5⟩))))))
  ·
   exact c_cond_t (by first | rfl | (show Value.bool _ = _; rw [hb6])) (wp_plain _ [0] rfl (lw_tvn 1 rfl (wp_seq (wp_plain _ [0,0] rfl (lw_tvn 2 rfl (wp_ret (post_ret [6] rfl (.int .i64 ((2 :Nat):Int)) rfl ⟨z53_0,hE5⟩)))))))
 ·
  exact q_eql false rfl rfl (decide_eq_false hc3) zN (lw_tvn 11 rfl (c_cond_f rfl (wp_skip (wp_seq (wp_plain _ [0,0] rfl (lw_tvn 2 rfl (wp_ret (post_ret [6] rfl (.int .i64 (shF p f fldB)) rfl ⟨z53_0,hE2⟩))))))))
end Go.Proofs.YtnofbmdpabcjaaaGreat
namespace Go.Proofs.YtnofbmdpabcjaaaGreat
open Go Go.RowKit
set_option linter.unusedVariables false
set_option linter.unusedSimpArgs false
set_option maxHeartbeats 4000000
set_option maxRecDepth 100000
attribute [local irreducible] LW
theorem c_slices_Equal___int64_int64_ (w : World) (va : Value) (a : List Int) (vb : Value) (b : List Int) (ha : Rd (rdL rI) w.heap va a) (hb : Rd (rdL rI) w.heap vb b)  :
    Calls Tryz.prog 59 #[va, vb] w (fun e w' => e = .returned (.bool (decide (a = b))) ∧ Ext w w') := by
  refine calls_mk [va, vb] 26 Tryz.func59 rfl rfl sM ?_
  have hE0 : Ext w w := Ext.refl w
  have hl_va := ha.lenle
  have hl_vb := hb.lenle
  refine wp_seq (wp_plain _ [0] rfl (lw_tvn 1 rfl (wp_seq (wp_seq (wp_plain _ [0, 0, 0, 0, 0] rfl (lw_tv 1 rfl (q_len (v := va) u25 rfl ha.isSl zN (lw_tv 1 rfl (q_len (v := vb) u25 rfl hb.isSl zN ?_)))))))))
  by_cases hc1 : ((a.length : Nat) : Int) ≠ ((b.length : Nat) : Int)
  ·
    exact q_neq true rfl rfl (decide_eq_true hc1) zN (lw_nil (c_cond_t rfl (wp_seq (wp_plain _ [0] rfl (lw_tvn 1 rfl (wp_ret (t_ret (post_ret [4] rfl (.bool false) rfl ⟨(ret_bool (decide_eq_false (leq_len oM)).symm), hE0⟩))))))))
  ·
    refine q_neq false rfl rfl (decide_eq_false hc1) zN (lw_nil (c_cond_f rfl (wp_skip (wp_seq (wp_seq (wp_plain _ [0, 0, 0] rfl (lw_tv 1 rfl (q_len (v := va) u25 rfl ha.isSl zN (lw_tvn 1 rfl (wp_block ?_))))))))))
    refine c_loop (S := Nat) (fun (k : Nat) => ([(13, (.int .i64 ((k : Nat) : Int))), (0, va), (1, vb), (12, (.int .i64 ((a.length : Nat) : Int)))] : List (Nat × Value))) (fun (k : Nat) (W : World) => Ext w W ∧ k ≤ a.length ∧ (∀ j, j < k → a.getD j 0 = b.getD j 0)) (fun (k : Nat) => a.length - k) 0 ⟨rfl, rfl, rfl, rfl, trivial⟩ ⟨hE0, sD, (by intro j hj; omega)⟩ ?_
    clear hE0
    rintro k ρ2 w2 ⟨hE2, hp2_0, hq⟩
    have hzs2 : w.heap.size ≤ w2.heap.size := hE2.size
    refine wp_seq (wp_plain _ [0] rfl ?_)
    by_cases hc3 : ((k : Nat) : Int) < ((a.length : Nat) : Int)
    ·
      refine q_lss true rfl rfl (decide_eq_true hc3) zN (lw_nil (wp_seq (c_cond_t rfl (wp_skip (wp_seq (wp_block (wp_seq (wp_plain _ [0, 0] rfl (lw_tvn 2 rfl (wp_seq (wp_draw _ [0, 0, 0, 1, 0, 0, 0, 1, 0] mixed (by kernel_rfl) (lw_tv 2 rfl (q_idx (v := va) k u25 ti2 rfl rfl ha.isSl rfl sD zN ?_)))))))))))))
      refine q_load (p := eptr va k 1) (.inl rfl) (.int .i64 (a.getD k 0)) one2 rfl (ldH_ext hE2.drew (ha.getI sD).1) zN (lw_tv 2 rfl ?_)
      refine q_idx (v := vb) k u25 ti2 rfl rfl hb.isSl rfl sD zN ?_
      refine q_load (p := eptr vb k 1) (.inl rfl) (.int .i64 (b.getD k 0)) one2 rfl (ldH_ext hE2.drew (hb.getI sD).1) zN ?_
      by_cases hc4 : a.getD k 0 ≠ b.getD k 0
      ·
        exact q_neq true rfl rfl (decide_eq_true hc4) zN (lw_nil (c_cond_t rfl (wp_seq (wp_plain _ [0] rfl (lw_tvn 1 rfl (wp_ret (b_ret (t_ret (t_ret (b_ret (t_ret (post_ret [4] rfl (.bool false) rfl ⟨(ret_bool (decide_eq_false (leq_fail (d := 0) (k := k) oM)).symm), hE2.drew⟩))))))))))))
      ·
        refine q_neq false rfl rfl (decide_eq_false hc4) zN (lw_nil (c_cond_f rfl (wp_skip (wp_plain _ [0, 0] rfl (q_add ((k + 1 : Nat) : Int) rfl rfl (w64n oM sD) zN (lw_tvn 1 rfl ?_))))))
        exact ⟨(k + 1), _, rfl, ⟨rfl, rfl, rfl, rfl, trivial⟩, ⟨hE2.drew, sD, (by exact leq_step hq oM)⟩, by first | omega | (dsimp only; omega)⟩
    ·
      exact q_lss false rfl rfl (decide_eq_false hc3) zN (lw_nil (wp_seq (c_cond_f rfl (wp_exit (t_exit (t_exit (c_exit_here (wp_seq (wp_plain _ [0] rfl (lw_tvn 1 rfl (wp_ret (post_ret [4] rfl (.bool true) rfl ⟨(ret_bool (decide_eq_true (leq_done hq oM oM)).symm), hE2⟩))))))))))))
theorem c_impl_CheckFlow_1 (w : World) (va : Value) (a : List Int) (vb : Value) (b : List Int) (ha : Rd (rdL rI) w.heap va a) (hb : Rd (rdL rI) w.heap vb b)  :
    Calls Tryz.prog 58 #[va, vb] w (fun e w' => e = .returned (.bool (decide (a = b))) ∧ Ext w w') := by
  refine calls_mk [va, vb] 8 Tryz.func58 rfl rfl sM ?_
  have hE0 : Ext w w := Ext.refl w
  have hl_va := ha.lenle
  have hl_vb := hb.lenle
  refine wp_seq (wp_plain _ [0] rfl (lw_tvn 1 rfl (wp_seq (wp_plain _ [0, 0, 3, 0] rfl (lw_tv 2 rfl (lw_call 59 [] [] [va, vb] rfl rfl cf59 zN (c_slices_Equal___int64_int64_ _ _ _ _ _ (ha.ext g1 hE0) (hb.ext g1 hE0)) ?_))))))
  rintro e1 w1 ⟨rfl, hX1⟩
  refine ⟨_, rfl, hX1, ?_⟩
  have hzs1 : w.heap.size ≤ w1.heap.size := hX1.size
  have hE1 : Ext w w1 := hE0.trans hX1
  exact lw_tvn 1 rfl (wp_ret (post_ret [4] rfl (.bool (decide (a = b))) rfl ⟨rfl, hE1⟩))
theorem c_slices_EqualFunc_____int64_____int64___int64___int64_ (w : World) (va : Value) (a : List (List Int)) (vb : Value) (b : List (List Int)) (q : Nat) (qf qc : List Value) (pr : List Int → List Int → Bool) (ha : Rd (rdL (rdL rI)) w.heap va a) (hb : Rd (rdL (rdL rI)) w.heap vb b) (hcf_q : ((Tryz.prog.funcs[q]?).map fun fn => (fn.name != "runtime.NumGoroutine") && fn.body.isSome) = some true) (hpr : ∀ (u1 : Value) (x1 : List Int) (u2 : Value) (x2 : List Int) w1, Rd (rdL rI) w1.heap u1 x1 → Rd (rdL rI) w1.heap u2 x2 → Ext w w1 → Calls Tryz.prog q (qf ++ [u1, u2] ++ qc).toArray w1 (fun e w2 => e = .returned (.bool (pr x1 x2)) ∧ Ext w1 w2))  :
    Calls Tryz.prog 57 #[va, vb, .func (.func q) qf.toArray qc.toArray] w (fun e w' => e = .returned (.bool (eqL pr a b)) ∧ Ext w w') := by
  refine calls_mk [va, vb, .func (.func q) qf.toArray qc.toArray] 32 Tryz.func57 rfl rfl sM ?_
  have hE0 : Ext w w := Ext.refl w
  have hl_va := ha.lenle
  have hl_vb := hb.lenle
  refine wp_seq (wp_plain _ [0] rfl (lw_tvn 1 rfl (wp_seq (wp_seq (wp_plain _ [0, 0, 0, 0, 0] rfl (lw_tv 1 rfl (q_len (v := va) u27 rfl ha.isSl zN (lw_tv 1 rfl (q_len (v := vb) u27 rfl hb.isSl zN ?_)))))))))
  by_cases hc1 : ((a.length : Nat) : Int) ≠ ((b.length : Nat) : Int)
  ·
    exact q_neq true rfl rfl (decide_eq_true hc1) zN (lw_nil (c_cond_t rfl (wp_seq (wp_plain _ [0] rfl (lw_tvn 1 rfl (wp_ret (t_ret (post_ret [6] rfl (.bool false) rfl ⟨(ret_bool (by unfold eqL; rw [decide_eq_false oM]; rfl)), hE0⟩))))))))
  ·
    refine q_neq false rfl rfl (decide_eq_false hc1) zN (lw_nil (c_cond_f rfl (wp_skip (wp_seq (wp_seq (wp_plain _ [0, 0, 0] rfl (lw_tv 1 rfl (q_len (v := va) u27 rfl ha.isSl zN (lw_tvn 1 rfl (wp_block ?_))))))))))
    refine c_loop (S := Nat) (fun (k : Nat) => ([(17, (.int .i64 ((k : Nat) : Int))), (1, vb), (2, (.func (.func q) qf.toArray qc.toArray)), (15, va), (16, (.int .i64 ((a.length : Nat) : Int)))] : List (Nat × Value))) (fun (k : Nat) (W : World) => Ext w W ∧ k ≤ a.length ∧ (List.range k).all (fun i => pr (a.getD i []) (b.getD i [])) = true) (fun (k : Nat) => a.length - k) 0 ⟨rfl, rfl, rfl, rfl, rfl, trivial⟩ ⟨hE0, sD, (by rfl)⟩ ?_
    clear hE0
    rintro k ρ2 w2 ⟨hE2, hp2_0, hq⟩
    have hzs2 : w.heap.size ≤ w2.heap.size := hE2.size
    refine wp_seq (wp_plain _ [0] rfl ?_)
    by_cases hc3 : ((k : Nat) : Int) < ((a.length : Nat) : Int)
    ·
      refine q_lss true rfl rfl (decide_eq_true hc3) zN (lw_nil (wp_seq (c_cond_t rfl (wp_skip (wp_seq (wp_block (wp_seq (wp_plain _ [0, 0, 2, 0, 0] rfl (lw_tv 1 rfl (q_idx (v := va) k u27 ti25 rfl rfl ha.isSl rfl sD zN ?_))))))))))
      obtain ⟨ue4, hl4, hd4⟩ := ha.get (k := k) [] sD
      have hln4 := hd4.lenle
      refine q_load (p := eptr va k 1) (.inr rfl) ue4 one25 rfl (ldH_ext hE2 hl4) zN (lw_tvn 2 rfl (wp_seq (wp_plain _ [0, 0, 0, 2, 0] rfl (lw_tv 2 rfl (q_idx (v := vb) k u27 ti25 rfl rfl hb.isSl rfl sD zN ?_)))))
      obtain ⟨ue5, hl5, hd5⟩ := hb.get (k := k) [] sD
      have hln5 := hd5.lenle
      refine q_load (p := eptr vb k 1) (.inr rfl) ue5 one25 rfl (ldH_ext hE2 hl5) zN (lw_tvn 1 rfl (wp_seq (wp_plain _ [0, 0, 0, 3, 0] rfl (lw_tv 3 rfl (lw_call q qf qc _ rfl rfl hcf_q zN (hpr _ _ _ _ _ (hd4.ext g1 hE2) (hd5.ext g1 hE2) hE2) ?_)))))
      rintro e6 w6 ⟨rfl, hX6⟩
      refine ⟨_, rfl, hX6, ?_⟩
      have hzs6 : w2.heap.size ≤ w6.heap.size := hX6.size
      have hE6 : Ext w w6 := hE2.trans hX6
      cases hc6 : pr (a.getD k []) (b.getD k [])
      ·
        exact q_not true rfl rfl zN (lw_nil (c_cond_t rfl (wp_seq (wp_plain _ [0] rfl (lw_tvn 1 rfl (wp_ret (b_ret (t_ret (t_ret (b_ret (t_ret (post_ret [6] rfl (.bool false) rfl ⟨(ret_bool (by unfold eqL; rw [allR_fail (f := fun i => pr (a.getD i []) (b.getD i [])) (k := k) oM (by assumption), Bool.and_false])), hE6⟩))))))))))))
      ·
        refine q_not false rfl rfl zN (lw_nil (c_cond_f rfl (wp_skip (wp_plain _ [0, 0] rfl (q_add ((k + 1 : Nat) : Int) rfl rfl (w64n oM sD) zN (lw_tvn 1 rfl ?_))))))
        exact ⟨(k + 1), _, rfl, ⟨rfl, rfl, rfl, rfl, rfl, trivial⟩, ⟨hE6, sD, (by exact allR_succ hq (by assumption))⟩, by first | omega | (dsimp only; omega)⟩
    ·
      exact q_lss false rfl rfl (decide_eq_false hc3) zN (lw_nil (wp_seq (c_cond_f rfl (wp_exit (t_exit (t_exit (c_exit_here (wp_seq (wp_plain _ [0] rfl (lw_tvn 1 rfl (wp_ret (post_ret [6] rfl (.bool true) rfl ⟨(ret_bool (by unfold eqL; rw [show a.length = k from by omega, hq, decide_eq_true oM]; rfl)), hE2⟩))))))))))))
theorem ck_fld {p : List Fn} {f : Int} {y : List Sr} (h : gvC p f y = 0) : Fld p f.toNat (y.map (fun s => s.getD 0 0)) := by
  obtain ⟨q1, q2, q3, q4, q5, q6⟩ := gvC_0 h
  exact ⟨okP_vpr q1, by omega, by rw [List.length_map]; exact q4.2, q4.1, by rw [List.length_map]; omega, firsts_num q5⟩
theorem ck_code {p : List Fn} {f : Int} {y : List Sr} (h : gvC p f y = 0) : flC p f.toNat (extS (y.map (fun s => s.getD 0 0)) (oOf y + 1)) (oOf y + 1) = psC p f y := by
  have hq := gvC_0 h
  have hf := ck_fld h
  rw [psC_0 h]
  obtain ⟨r1, r2, _⟩ := pic_P hf hq.2.2.2.2.1 (by rw [List.length_map]) ag_firsts
  unfold picC; rw [r2, fl_code hf]
theorem ck_eq {p : List Fn} {f : Int} {y : List Sr} (h : gvC p f y = 0) (hc : psC p f y = 0) : eqL (fun x y => decide (x = y)) (flR p f.toNat (extS (y.map (fun s => s.getD 0 0)) (oOf y + 1)) (oOf y + 1)) y = ckR p f y := by
  have hq := gvC_0 h
  have hf := ck_fld h
  have hc2 := ck_code h
  have hnx : nxC p f.toNat (y.map (fun s => s.getD 0 0)) = 0 := by rw [← fl_code hf (oOf y), hc2, hc]
  rw [eqL_eq]
  unfold ckR alR flR
  rw [if_pos hc, if_pos h, if_pos (by rw [hc2, hc]), ck_flow hf hnx hq.2.2.2.2.2 hq.2.2.2.2.1 (by rw [List.length_map]) ag_firsts]
theorem z24_0 {p : Prop} (h : p := by first | (have h9 : psC p f y = gvC p f y := psC_n oM; unfold ckR; rw [if_neg oM, h9]) | (have h9 : psC p f y ≠ 0 := oM; unfold ckR; rw [if_neg h9, ← hfc]) | (have h9 : psC p f y = 0 := oM; rw [h9, ← ck_eq hg0 h9]; try rfl)) : p := h
theorem c_impl_CheckFlow (w : World) (dp : Nat) (vp : Value) (p : List Fn) (f : Int) (vy : Value) (y : List (List Int)) (hp : RP [] dp w.heap vp p) (_hf : -9223372036854775808 ≤ f ∧ f ≤ 9223372036854775807) (hy : RN [] (rdL (rdL rI)) w.heap vy y) (hqy : CapS vy) (hz : SzP p) :
    Calls Tryz.prog 24 #[(.agg #[vp]), .int .i64 f, vy] w (fun e w' => e = .returned (.tuple #[.bool (ckR p f y), .int .i64 (psC p f y)]) ∧ Ext w w') := by
  refine calls_mk [(.agg #[vp]), .int .i64 f, vy] 34 Tryz.func24 rfl rfl sM ?_
  have hE0 : Ext w w := Ext.refl w
  have hl_vp := hp.lenle
  unfold maxLen at hl_vp
  have hl_vy := hy.lenL
  unfold maxLen at hl_vy
  refine wp_seq (wp_plain _ [3, 0, 0] rfl (r_boxA (cs := #[vp]) rfl zN fun w1 hX1 hz1 hB1 => ?_))
  have hzs1 : w.heap.size ≤ w1.heap.size := hX1.size
  have hE1 : Ext w w1 := hE0.trans hX1
  replace hB1 : BX w1.heap w.heap.size [vp] := hB1
  refine lw_tvn 2 rfl (wp_seq (wp_seq (wp_plain _ [2, 0, 0, 3, 0] rfl (q_loadA (p := (.pointer (some ⟨w.heap.size, 0, none⟩))) (.inr rfl) [vp] agg32 rfl (fun w9 hw9 => LD.of_box (BX.ext (w := w1) hB1 hw9)) rfl zN (lw_tv 2 rfl (lw_call 53 [] [] [(.agg #[vp]), (.int .i64 f), vy] rfl rfl cf53 zN (c_impl_isGiven _ dp vp (p) _ vy (y) (hp.ext (good_rdS (good_rFn dp)) hE1) _hf (hy.ext g2 hE1) hqy (by exact hz)) ?_))))))
  rintro e2 w2 ⟨rfl, hX2⟩
  refine ⟨_, rfl, hX2, ?_⟩
  have hzs2 : w1.heap.size ≤ w2.heap.size := hX2.size
  have hE2 : Ext w w2 := hE1.trans hX2
  have hB1x2 := hB1.ext hX2
  refine lw_tvn 1 rfl (wp_seq (wp_plain _ [0, 0] rfl ?_))
  have hgr := gvC_rng p f y
  refine lw_tv 1 rfl ?_
  by_cases hc3 : gvC p f y ≠ ((0 : Nat) : Int)
  ·
    exact q_neq true rfl rfl (decide_eq_true hc3) zN (lw_nil (c_cond_t rfl (wp_seq (wp_plain _ [0, 0, 0] rfl (lw_tvn 3 rfl (wp_ret (t_ret (post_ret [6, 7] rfl (.tuple #[(.bool false), (.int .i64 (gvC p f y))]) rfl ⟨z24_0, hE2⟩))))))))
  ·
    refine q_neq false rfl rfl (decide_eq_false hc3) zN (lw_nil (c_cond_f rfl (wp_skip (wp_seq (wp_draw2 _ [1, 0, 0, 3, 0, 3, 3, 0, 0, 0, 0, 0] 3 5 [0, 1, 2, 4, 5, 3, 6, 7, 8, 9, 10, 11] [_, _, _, _, _, _, _, _, _, _, _, _] [1, 0, 0, 0, 3, 3, 3, 0, 0, 0, 0, 0] mixed (by kernel_rfl) rfl ⟨rfl, rfl, ⟨rfl, rfl, ⟨rfl, rfl, ⟨rfl, rfl, ⟨rfl, rfl, ⟨rfl, rfl, ⟨rfl, rfl, ⟨rfl, rfl, ⟨rfl, rfl, ⟨rfl, rfl, ⟨rfl, rfl, ⟨rfl, rfl, trivial⟩⟩⟩⟩⟩⟩⟩⟩⟩⟩⟩⟩ ?_ ?_)))))
    ·
      have hg0 : gvC p f y = 0 := by omega
      have hq0 := gvC_0 hg0
      have hfl := ck_fld hg0
      have hfc : flC p f.toNat (extS (y.map (fun s => s.getD 0 0)) (((oOf y : Nat) : Int).toNat + 1)) (((oOf y : Nat) : Int).toNat + 1) = psC p f y := ck_code hg0
      have hy1 := (hq0.2.2.2.2.1 0 oM).1
      have hot : (((oOf y : Nat) : Int)).toNat = oOf y := rfl
      refine q_loadA (p := (.pointer (some ⟨w.heap.size, 0, none⟩))) (.inl rfl) [vp] agg32 rfl (fun w9 hw9 => LD.of_box (BX.ext (w := w2.drew) hB1x2 hw9)) rfl zN (lw_tv 2 rfl (lw_call 55 [] [] [vy] rfl rfl cf55 zN (c_impl_firsts _ _ _ ((hy.ext g2 hE2.drew)).rd oM (by intro k9 hk9; have := (hq0.2.2.2.2.1 k9 hk9).1; omega)) ?_))
      rintro e4 w4 ⟨v4_0, rfl, hX4, hO4_0⟩
      refine ⟨_, rfl, hX4, ?_⟩
      replace hX4 := hX4.of_drew
      have hzs4 : w2.heap.size ≤ w4.heap.size := hX4.size
      have hE4 : Ext w w4 := hE2.trans hX4
      have hB1x4 := hB1x2.ext hX4
      replace hO4_0 := hO4_0.low (B' := w2.heap.size) (Nat.le_refl _)
      refine lw_tv 1 rfl (lw_call 56 [] [] [vy] rfl rfl cf56 zN (c_impl_orderOf _ vy (y) (hy.ext g2 hE4) hqy (by intro _; omega)) ?_)
      rintro e5 w5 ⟨rfl, hX5⟩
      refine ⟨_, rfl, hX5, ?_⟩
      have hzs5 : w4.heap.size ≤ w5.heap.size := hX5.size
      have hE5 : Ext w w5 := hE4.trans hX5
      have hB1x5 := hB1x4.ext hX5
      have hO4_0x5 := hO4_0.ext (o1) hX5
      refine lw_call 54 [] [] [(.agg #[vp]), (.int .i64 f), v4_0, (.int .i64 ((oOf y : Nat) : Int))] rfl rfl cf54 zN (c_impl_Program_flow _ dp vp (p) _ _ _ _ (hp.ext (good_rdS (good_rFn dp)) hE5) _hf hO4_0x5.rd1 (by unfold oOf; omega) (by exact hfl.hv) oM (by exact hfl.hl) (by exact hfl.ho) (by exact hfl.h0) (by exact hfl.hn) oM) ?_
      rintro e6 w6 ⟨v6_0, rfl, hX6, hO6_0, hP6_0⟩
      refine ⟨_, rfl, hX6, ?_⟩
      have hzs6 : w5.heap.size ≤ w6.heap.size := hX6.size
      have hE6 : Ext w w6 := hE5.trans hX6
      have hB1x6 := hB1x5.ext hX6
      have hO4_0x6 := hO4_0x5.ext (o1) hX6
      refine lw_tv 1 rfl (q_extract (vs := [v6_0, (.int .i64 (flC p f.toNat (extS (y.map (fun s => s.getD 0 0)) (((oOf y : Nat) : Int).toNat + 1)) (((oOf y : Nat) : Int).toNat + 1)))]) v6_0 rfl rfl zN (q_extract (vs := [v6_0, (.int .i64 (flC p f.toNat (extS (y.map (fun s => s.getD 0 0)) (((oOf y : Nat) : Int).toNat + 1)) (((oOf y : Nat) : Int).toNat + 1)))]) (.int .i64 (flC p f.toNat (extS (y.map (fun s => s.getD 0 0)) (((oOf y : Nat) : Int).toNat + 1)) (((oOf y : Nat) : Int).toNat + 1))) rfl rfl zN (lw_tvn 2 rfl (wp_seq (wp_seq (wp_plain _ [0, 0] rfl (lw_tv 1 rfl ?_)))))))
      by_cases hc7 : flC p f.toNat (extS (y.map (fun s => s.getD 0 0)) (((oOf y : Nat) : Int).toNat + 1)) (((oOf y : Nat) : Int).toNat + 1) ≠ ((0 : Nat) : Int)
      ·
        exact q_neq true rfl rfl (decide_eq_true hc7) zN (lw_nil (c_cond_t rfl (wp_seq (wp_plain _ [0, 0, 0] rfl (lw_tvn 3 rfl (wp_ret (t_ret (post_ret [6, 7] rfl (.tuple #[(.bool false), (.int .i64 (flC p f.toNat (extS (y.map (fun s => s.getD 0 0)) (((oOf y : Nat) : Int).toNat + 1)) (((oOf y : Nat) : Int).toNat + 1)))]) rfl ⟨z24_0, hE6⟩))))))))
      ·
        refine q_neq false rfl rfl (decide_eq_false hc7) zN (lw_nil (c_cond_f rfl (wp_skip (wp_seq (wp_plain _ [0, 0, 3, 0, 0] rfl (lw_tv 2 rfl (lw_call 57 [] [] [v6_0, vy, (.func (.func 58) #[] #[])] rfl rfl cf57 zN (c_slices_EqualFunc_____int64_____int64___int64___int64_ _ _ _ _ _ 58 [] [] (fun x y => decide (x = y)) hO6_0.rd2 ((hy.ext g2 hE6)).rd cf58 (fun u1 x1 u2 x2 w1 h1 h2 hw => c_impl_CheckFlow_1 w1 u1 x1 u2 x2 h1 h2)) ?_)))))))
        rintro e8 w8 ⟨rfl, hX8⟩
        refine ⟨_, rfl, hX8, ?_⟩
        have hzs8 : w6.heap.size ≤ w8.heap.size := hX8.size
        have hE8 : Ext w w8 := hE6.trans hX8
        have hB1x8 := hB1x6.ext hX8
        have hO4_0x8 := hO4_0x6.ext (o1) hX8
        have hO6_0x8 := hO6_0.ext (o2) hX8
        exact lw_tvn 2 rfl (wp_ret (post_ret [6, 7] rfl (.tuple #[(.bool (eqL (fun x y => decide (x = y)) (flR p f.toNat (extS (y.map (fun s => s.getD 0 0)) (((oOf y : Nat) : Int).toNat + 1)) (((oOf y : Nat) : Int).toNat + 1)) y)), (.int .i64 ((0 : Nat) : Int))]) rfl ⟨z24_0, hE8⟩))
    ·
      have hg0 : gvC p f y = 0 := by omega
      have hq0 := gvC_0 hg0
      have hfl := ck_fld hg0
      have hfc : flC p f.toNat (extS (y.map (fun s => s.getD 0 0)) (((oOf y : Nat) : Int).toNat + 1)) (((oOf y : Nat) : Int).toNat + 1) = psC p f y := ck_code hg0
      have hy1 := (hq0.2.2.2.2.1 0 oM).1
      have hot : (((oOf y : Nat) : Int)).toNat = oOf y := rfl
      refine q_loadA (p := (.pointer (some ⟨w.heap.size, 0, none⟩))) (.inl rfl) [vp] agg32 rfl (fun w9 hw9 => LD.of_box (BX.ext (w := w2.drew) hB1x2 hw9)) rfl zN (lw_tv 3 rfl (lw_call 56 [] [] [vy] rfl rfl cf56 zN (c_impl_orderOf _ vy (y) (hy.ext g2 hE2.drew) hqy (by intro _; omega)) ?_))
      rintro e9 w9 ⟨rfl, hX9⟩
      refine ⟨_, rfl, hX9, ?_⟩
      replace hX9 := hX9.of_drew
      have hzs9 : w2.heap.size ≤ w9.heap.size := hX9.size
      have hE9 : Ext w w9 := hE2.trans hX9
      have hB1x9 := hB1x2.ext hX9
      refine lw_call 55 [] [] [vy] rfl rfl cf55 zN (c_impl_firsts _ _ _ ((hy.ext g2 hE9)).rd oM (by intro k9 hk9; have := (hq0.2.2.2.2.1 k9 hk9).1; omega)) ?_
      rintro e10 w10 ⟨v10_0, rfl, hX10, hO10_0⟩
      refine ⟨_, rfl, hX10, ?_⟩
      have hzs10 : w9.heap.size ≤ w10.heap.size := hX10.size
      have hE10 : Ext w w10 := hE9.trans hX10
      have hB1x10 := hB1x9.ext hX10
      refine lw_call 54 [] [] [(.agg #[vp]), (.int .i64 f), v10_0, (.int .i64 ((oOf y : Nat) : Int))] rfl rfl cf54 zN (c_impl_Program_flow _ dp vp (p) _ _ _ _ (hp.ext (good_rdS (good_rFn dp)) hE10) _hf hO10_0.rd1 (by unfold oOf; omega) (by exact hfl.hv) oM (by exact hfl.hl) (by exact hfl.ho) (by exact hfl.h0) (by exact hfl.hn) oM) ?_
      rintro e11 w11 ⟨v11_0, rfl, hX11, hO11_0, hP11_0⟩
      refine ⟨_, rfl, hX11, ?_⟩
      have hzs11 : w10.heap.size ≤ w11.heap.size := hX11.size
      have hE11 : Ext w w11 := hE10.trans hX11
      have hB1x11 := hB1x10.ext hX11
      have hO10_0x11 := hO10_0.ext (o1) hX11
      refine lw_tv 1 rfl (q_extract (vs := [v11_0, (.int .i64 (flC p f.toNat (extS (y.map (fun s => s.getD 0 0)) (((oOf y : Nat) : Int).toNat + 1)) (((oOf y : Nat) : Int).toNat + 1)))]) v11_0 rfl rfl zN (q_extract (vs := [v11_0, (.int .i64 (flC p f.toNat (extS (y.map (fun s => s.getD 0 0)) (((oOf y : Nat) : Int).toNat + 1)) (((oOf y : Nat) : Int).toNat + 1)))]) (.int .i64 (flC p f.toNat (extS (y.map (fun s => s.getD 0 0)) (((oOf y : Nat) : Int).toNat + 1)) (((oOf y : Nat) : Int).toNat + 1))) rfl rfl zN (lw_tvn 2 rfl (wp_seq (wp_seq (wp_plain _ [0, 0] rfl (lw_tv 1 rfl ?_)))))))
      by_cases hc12 : flC p f.toNat (extS (y.map (fun s => s.getD 0 0)) (((oOf y : Nat) : Int).toNat + 1)) (((oOf y : Nat) : Int).toNat + 1) ≠ ((0 : Nat) : Int)
      ·
        exact q_neq true rfl rfl (decide_eq_true hc12) zN (lw_nil (c_cond_t rfl (wp_seq (wp_plain _ [0, 0, 0] rfl (lw_tvn 3 rfl (wp_ret (t_ret (post_ret [6, 7] rfl (.tuple #[(.bool false), (.int .i64 (flC p f.toNat (extS (y.map (fun s => s.getD 0 0)) (((oOf y : Nat) : Int).toNat + 1)) (((oOf y : Nat) : Int).toNat + 1)))]) rfl ⟨z24_0, hE11⟩))))))))
      ·
        refine q_neq false rfl rfl (decide_eq_false hc12) zN (lw_nil (c_cond_f rfl (wp_skip (wp_seq (wp_plain _ [0, 0, 3, 0, 0] rfl (lw_tv 2 rfl (lw_call 57 [] [] [v11_0, vy, (.func (.func 58) #[] #[])] rfl rfl cf57 zN (c_slices_EqualFunc_____int64_____int64___int64___int64_ _ _ _ _ _ 58 [] [] (fun x y => decide (x = y)) hO11_0.rd2 ((hy.ext g2 hE11)).rd cf58 (fun u1 x1 u2 x2 w1 h1 h2 hw => c_impl_CheckFlow_1 w1 u1 x1 u2 x2 h1 h2)) ?_)))))))
        rintro e13 w13 ⟨rfl, hX13⟩
        refine ⟨_, rfl, hX13, ?_⟩
        have hzs13 : w11.heap.size ≤ w13.heap.size := hX13.size
        have hE13 : Ext w w13 := hE11.trans hX13
        have hB1x13 := hB1x11.ext hX13
        have hO10_0x13 := hO10_0x11.ext (o1) hX13
        have hO11_0x13 := hO11_0.ext (o2) hX13
        exact lw_tvn 2 rfl (wp_ret (post_ret [6, 7] rfl (.tuple #[(.bool (eqL (fun x y => decide (x = y)) (flR p f.toNat (extS (y.map (fun s => s.getD 0 0)) (((oOf y : Nat) : Int).toNat + 1)) (((oOf y : Nat) : Int).toNat + 1)) y)), (.int .i64 ((0 : Nat) : Int))]) rfl ⟨z24_0, hE13⟩))
end Go.Proofs.YtnofbmdpabcjaaaGreat
namespace Go.Proofs.YtnofbmdpabcjaaaGreat
open Go Go.RowKit
set_option linter.unusedVariables false
set_option linter.unusedSimpArgs false
set_option maxHeartbeats 4000000
set_option maxRecDepth 100000
attribute [local irreducible] LW
theorem z4_0 {p : Prop} (h : p := by first | rfl | (exfalso; omega) | simp_all) : p := h
theorem c_laws_FnExactCheckFlow (w : World) (dp : Nat) (vp : Value) (p : List Fn) (f : Int) (va : Value) (y : List (List Int)) (hp : RP [] dp w.heap vp p) (_hf : -9223372036854775808 ≤ f ∧ f ≤ 9223372036854775807) (hy : Rd (rdL (rdL rI)) w.heap va y) (hnm : ∀ k, k < p.length → (p.getD k Fn.zero).name.size ≤ 9223372036854775807) :
    Calls Tryz.prog 4 #[(.agg #[vp]), .int .i64 f, va] w (fun e w' => e = .returned (.bool true) ∧ Ext w w') := by
  refine calls_mk [(.agg #[vp]), .int .i64 f, va] 62 Tryz.func4 rfl rfl sM ?_
  have hE0 : Ext w w := Ext.refl w
  have hl_vp := hp.lenle
  unfold maxLen at hl_vp
  have hl_va := hy.lenle
  refine wp_seq (wp_plain _ [3, 0] rfl (r_boxA (cs := #[vp]) rfl zN fun w1 hX1 hz1 hB1 => ?_))
  have hzs1 : w.heap.size ≤ w1.heap.size := hX1.size
  have hE1 : Ext w w1 := hE0.trans hX1
  replace hB1 : BX w1.heap w.heap.size [vp] := hB1
  refine lw_tvn 1 rfl (wp_seq (wp_plain _ [0] rfl (lw_tvn 1 rfl (wp_seq (wp_plain _ [2, 0, 3, 0] rfl (q_loadA (p := (.pointer (some ⟨w.heap.size, 0, none⟩))) (.inr rfl) [vp] agg24 rfl (fun w9 hw9 => LD.of_box (BX.ext (w := w1) hB1 hw9)) rfl zN (lw_tv 1 rfl (lw_call 9 [] [] [(.agg #[vp]), (.int .i64 ((1048576 : Nat) : Int))] rfl rfl cf9 zN (c_laws_szProgram _ dp vp (p) _ (hp.ext (good_rdS (good_rFn dp)) hE1) oM oM (by exact hnm)) ?_))))))))
  rintro e2 w2 ⟨rfl, hX2⟩
  refine ⟨_, rfl, hX2, ?_⟩
  have hzs2 : w1.heap.size ≤ w2.heap.size := hX2.size
  have hE2 : Ext w w2 := hE1.trans hX2
  have hB1x2 := hB1.ext hX2
  refine lw_tvn 1 rfl (wp_seq (wp_seq (wp_plain _ [0, 0] rfl (lw_tv 1 rfl ?_))))
  by_cases hc3 : szV (szP p) ((1048576 : Nat) : Int) < ((0 : Nat) : Int)
  ·
    exact q_lss true rfl rfl (decide_eq_true hc3) zN (lw_nil (c_cond_t rfl (wp_seq (wp_plain _ [0] rfl (lw_tvn 1 rfl (wp_ret (t_ret (post_ret [6] rfl (.bool true) rfl ⟨z4_0, hE2⟩))))))))
  ·
    refine q_lss false rfl rfl (decide_eq_false hc3) zN (lw_nil (c_cond_f rfl (wp_skip (wp_seq (wp_plain _ [0, 0, 3, 0] rfl ?_)))))
    have hzv := szV_pos (t := szP p) (x := ((1048576 : Nat) : Int)) oM
    have hz0 : szP p ≤ 1048576 := by omega
    have hz := szP_ok hz0
    refine lw_tv 2 rfl (lw_call 21 [] [] [va, (.int .i64 (szV (szP p) ((1048576 : Nat) : Int)))] rfl rfl cf21 zN (c_laws_szInt64SS _ _ _ _ (hy.ext g2 hE2) (by have := szV_rng (szP p) (x := ((1048576 : Nat) : Int)) oM; omega) oM) ?_)
    rintro e4 w4 ⟨rfl, hX4⟩
    refine ⟨_, rfl, hX4, ?_⟩
    have hzs4 : w2.heap.size ≤ w4.heap.size := hX4.size
    have hE4 : Ext w w4 := hE2.trans hX4
    have hB1x4 := hB1x2.ext hX4
    refine lw_tvn 1 rfl (wp_seq (wp_seq (wp_plain _ [0, 0] rfl (lw_tv 1 rfl ?_))))
    by_cases hc5 : szM y (szV (szP p) ((1048576 : Nat) : Int)) < ((0 : Nat) : Int)
    ·
      exact q_lss true rfl rfl (decide_eq_true hc5) zN (lw_nil (c_cond_t rfl (wp_seq (wp_plain _ [0] rfl (lw_tvn 1 rfl (wp_ret (t_ret (post_ret [6] rfl (.bool true) rfl ⟨z4_0, hE4⟩))))))))
    ·
      refine q_lss false rfl rfl (decide_eq_false hc5) zN (lw_nil (c_cond_f rfl (wp_skip (wp_seq (wp_plain _ [2, 3, 0, 0, 3, 3, 0, 0, 0, 0, 0] rfl ?_)))))
      have hB := (szM_le (a := y) (l := szV (szP p) ((1048576 : Nat) : Int)) oM oM)
      have hB1 := hB.2.1
      refine q_loadA (p := (.pointer (some ⟨w.heap.size, 0, none⟩))) (.inr rfl) [vp] agg24 rfl (fun w9 hw9 => LD.of_box (BX.ext (w := w4) hB1x4 hw9)) rfl zN (lw_call 11 [] [] [(.agg #[vp])] rfl rfl cf11 zN (c_laws_toProgram _ dp vp (p) (hp.ext (good_rdS (good_rFn dp)) hE4) oM) ?_)
      rintro e6 w6 ⟨v6, rfl, hX6, hO6⟩
      refine ⟨_, rfl, hX6, ?_⟩
      have hzs6 : w4.heap.size ≤ w6.heap.size := hX6.size
      have hE6 : Ext w w6 := hE4.trans hX6
      have hB1x6 := hB1x4.ext hX6
      refine lw_tv 2 rfl (lw_call 23 [] [] [va] rfl rfl cf23 zN (c_laws_toInt64SS _ _ _ (hy.ext g2 hE6) oM (by intro k; have := hB.2.2 k; omega)) ?_)
      rintro e7 w7 ⟨v7_0, rfl, hX7, hO7_0⟩
      refine ⟨_, rfl, hX7, ?_⟩
      have hzs7 : w6.heap.size ≤ w7.heap.size := hX7.size
      have hE7 : Ext w w7 := hE6.trans hX7
      have hB1x7 := hB1x6.ext hX7
      have hO6x7 := hO6.ext ((good_owS (good_oFn 94 dp))) hX7
      refine lw_call 22 [] [] [(.agg #[v6]), (.int .i64 f), v7_0] rfl rfl cf22 zN (c_spec_CheckFlow _ dp v6 (p) _ v7_0 (y) (RN.of_frF hO6x7 (fun b hb => by cases hb)) _hf (RN.of_fr2 hO7_0 (fun b hb => by cases hb)) hO7_0.cap (by exact hz)) ?_
      rintro e8 w8 ⟨rfl, hX8⟩
      refine ⟨_, rfl, hX8, ?_⟩
      have hzs8 : w7.heap.size ≤ w8.heap.size := hX8.size
      have hE8 : Ext w w8 := hE7.trans hX8
      have hB1x8 := hB1x7.ext hX8
      have hO6x8 := hO6x7.ext ((good_owS (good_oFn 94 dp))) hX8
      have hO7_0x8 := hO7_0.ext (o2) hX8
      refine lw_tv 1 rfl (q_extract (vs := [(.bool (ckR p f y)), (.int .i64 (psC p f y))]) (.bool (ckR p f y)) rfl rfl zN (q_extract (vs := [(.bool (ckR p f y)), (.int .i64 (psC p f y))]) (.int .i64 (psC p f y)) rfl rfl zN (lw_tvn 2 rfl (wp_seq (wp_plain _ [2, 3, 3, 4] rfl (q_loadA (p := (.pointer (some ⟨w.heap.size, 0, none⟩))) (.inr rfl) [vp] agg24 rfl (fun w9 hw9 => LD.of_box (BX.ext (w := w8) hB1x8 hw9)) rfl zN (lw_call 11 [] [] [(.agg #[vp])] rfl rfl cf11 zN (c_laws_toProgram _ dp vp (p) (hp.ext (good_rdS (good_rFn dp)) hE8) oM) ?_)))))))
      rintro e9 w9 ⟨v9, rfl, hX9, hO9⟩
      refine ⟨_, rfl, hX9, ?_⟩
      have hzs9 : w8.heap.size ≤ w9.heap.size := hX9.size
      have hE9 : Ext w w9 := hE8.trans hX9
      have hB1x9 := hB1x8.ext hX9
      have hO6x9 := hO6x8.ext ((good_owS (good_oFn 94 dp))) hX9
      have hO7_0x9 := hO7_0x8.ext (o2) hX9
      have hq11 := hB1x9.lt
      refine r_allocA (z := .agg #[.slice none 0 0]) zr32 zN fun w10 hX10 hz10 hB10 => ?_
      have hzs10 : w9.heap.size ≤ w10.heap.size := hX10.size
      have hE10 : Ext w w10 := hE9.trans hX10
      have hB1x10 := hB1x9.ext hX10
      have hO6x10 := hO6x9.ext ((good_owS (good_oFn 94 dp))) hX10
      have hO7_0x10 := hO7_0x9.ext (o2) hX10
      have hO9x10 := hO9.ext ((good_owS (good_oFn 94 dp))) hX10
      replace hB10 : BX w10.heap w9.heap.size [(.slice none 0 0)] := hB10
      refine e_setA (vs := [v9]) agg32 rfl rfl (by intro u hu; simp only [List.mem_cons, List.not_mem_nil, or_false] at hu; rcases hu with rfl <;> first | exact ⟨rfl, rfl⟩ | exact isSl_one hO9x10.isSlS) hB10 rfl rfl zN fun w12 hC12 hz12 hB12 => ?_
      replace hB12 : BX w12.heap w9.heap.size [v9] := hB12
      have hE12 : Ext w w12 := hC12.below hE10 (fun c hc => by have := List.mem_singleton.1 hc; omega) hE10.size
      have hzs12 : w10.heap.size ≤ w12.heap.size := hC12.size
      have hF13 := hB1x10.chg hC12 (fun hm => by have := List.mem_singleton.1 hm; omega)
      have hF14 := hO6x10.chg ((good_owS (good_oFn 94 dp))) hC12 (fun c hc => by have := List.mem_singleton.1 hc; omega)
      have hF15 := hO7_0x10.chg (o2) hC12 (fun c hc => by have := List.mem_singleton.1 hc; omega)
      have hF16 := hO9x10.chg ((good_owS (good_oFn 94 dp))) hC12 (fun c hc => by have := List.mem_singleton.1 hc; omega)
      refine lw_nil (wp_seq (wp_plain _ [0, 3, 0] rfl (lw_tv 1 rfl (lw_call 23 [] [] [va] rfl rfl cf23 zN (c_laws_toInt64SS _ _ _ (hy.ext g2 hE12) oM (by intro k; have := hB.2.2 k; omega)) ?_))))
      rintro e17 w17 ⟨v17_0, rfl, hX17, hO17_0⟩
      refine ⟨_, rfl, hX17, ?_⟩
      have hzs17 : w12.heap.size ≤ w17.heap.size := hX17.size
      have hE17 : Ext w w17 := hE12.trans hX17
      have hF13x17 := hF13.ext hX17
      have hF14x17 := hF14.ext ((good_owS (good_oFn 94 dp))) hX17
      have hF15x17 := hF15.ext (o2) hX17
      have hF16x17 := hF16.ext ((good_owS (good_oFn 94 dp))) hX17
      have hB12x17 := hB12.ext hX17
      refine lw_tvn 1 rfl (wp_seq (wp_plain _ [2, 0, 0, 3, 0, 0, 0, 0, 0] rfl (q_loadA (p := (.pointer (some ⟨w9.heap.size, 0, none⟩))) (.inr rfl) [v9] agg32 rfl (fun w9 hw9 => LD.of_box (BX.ext (w := w17) hB12x17 hw9)) rfl zN (lw_tv 2 rfl (lw_call 24 [] [] [(.agg #[v9]), (.int .i64 f), v17_0] rfl rfl cf24 zN (c_impl_CheckFlow _ dp v9 (p) _ v17_0 (y) (RN.of_frF hF16x17 (fun b hb => by cases hb)) _hf (RN.of_fr2 hO17_0 (fun b hb => by cases hb)) hO17_0.cap (by exact hz)) ?_)))))
      rintro e18 w18 ⟨rfl, hX18⟩
      refine ⟨_, rfl, hX18, ?_⟩
      have hzs18 : w17.heap.size ≤ w18.heap.size := hX18.size
      have hE18 : Ext w w18 := hE17.trans hX18
      have hF13x18 := hF13x17.ext hX18
      have hF14x18 := hF14x17.ext ((good_owS (good_oFn 94 dp))) hX18
      have hF15x18 := hF15x17.ext (o2) hX18
      have hF16x18 := hF16x17.ext ((good_owS (good_oFn 94 dp))) hX18
      have hB12x18 := hB12x17.ext hX18
      have hO17_0x18 := hO17_0.ext (o2) hX18
      refine lw_tv 1 rfl (q_extract (vs := [(.bool (ckR p f y)), (.int .i64 (psC p f y))]) (.bool (ckR p f y)) rfl rfl zN (q_extract (vs := [(.bool (ckR p f y)), (.int .i64 (psC p f y))]) (.int .i64 (psC p f y)) rfl rfl zN (lw_tvn 2 rfl (wp_seq (wp_seq (wp_plain _ [0, 0, 0, 0, 0, 0, 0, 0] rfl (lw_tv 2 rfl ?_)))))))
      cases hc19 : (!((ckR p f y) == (ckR p f y)))
      ·
        refine q_neqb false u4 rfl rfl hc19 zN (lw_tv 3 rfl (q_neq false rfl rfl sM (zS (e := 47) rfl rfl rfl) (lw_tvn 1 rfl (c_cond_f rfl (wp_skip (wp_seq (wp_seq (wp_draw _ [1, 1, 3, 3, 0] mixed (by kernel_rfl) (q_loadA (p := (.pointer (some ⟨w9.heap.size, 0, none⟩))) (.inl rfl) [v9] agg32 rfl (fun w9 hw9 => LD.of_box (BX.ext (w := w18.drew) hB12x18 hw9)) rfl zN (q_loadA (p := (.pointer (some ⟨w.heap.size, 0, none⟩))) (.inl rfl) [vp] agg24 rfl (fun w9 hw9 => LD.of_box (BX.ext (w := w18.drew) hF13x18 hw9)) rfl zN (lw_call 11 [] [] [(.agg #[vp])] rfl rfl cf11 zN (c_laws_toProgram _ dp vp (p) (hp.ext (good_rdS (good_rFn dp)) hE18.drew) oM) ?_)))))))))))
        rintro e20 w20 ⟨v20, rfl, hX20, hO20⟩
        refine ⟨_, rfl, hX20, ?_⟩
        replace hX20 := hX20.of_drew
        have hzs20 : w18.heap.size ≤ w20.heap.size := hX20.size
        have hE20 : Ext w w20 := hE18.trans hX20
        have hF13x20 := hF13x18.ext hX20
        have hF14x20 := hF14x18.ext ((good_owS (good_oFn 94 dp))) hX20
        have hF15x20 := hF15x18.ext (o2) hX20
        have hF16x20 := hF16x18.ext ((good_owS (good_oFn 94 dp))) hX20
        have hB12x20 := hB12x18.ext hX20
        have hO17_0x20 := hO17_0x18.ext (o2) hX20
        replace hO20 := hO20.low (B' := w18.heap.size) (Nat.le_refl _)
        refine lw_call 15 [] [] [(.agg #[v9]), (.agg #[v20])] rfl rfl cf15 zN (c_laws_eqProgram _ dp v9 (p) dp v20 (p) (RN.of_frF hF16x20 (fun b hb => by cases hb)) (RN.of_frF hO20 (fun b hb => by cases hb)) (by rfl)) ?_
        rintro e21 w21 ⟨rfl, hX21⟩
        refine ⟨_, rfl, hX21, ?_⟩
        have hzs21 : w20.heap.size ≤ w21.heap.size := hX21.size
        have hE21 : Ext w w21 := hE20.trans hX21
        have hF13x21 := hF13x20.ext hX21
        have hF14x21 := hF14x20.ext ((good_owS (good_oFn 94 dp))) hX21
        have hF15x21 := hF15x20.ext (o2) hX21
        have hF16x21 := hF16x20.ext ((good_owS (good_oFn 94 dp))) hX21
        have hB12x21 := hB12x20.ext hX21
        have hO17_0x21 := hO17_0x20.ext (o2) hX21
        have hO20x21 := hO20.ext ((good_owS (good_oFn 94 dp))) hX21
        refine q_not false rfl rfl zN (lw_nil (c_cond_f rfl (wp_skip (wp_seq (wp_seq (wp_plain _ [0, 0, 3, 3, 0] rfl (lw_tv 2 rfl (lw_call 23 [] [] [va] rfl rfl cf23 zN (c_laws_toInt64SS _ _ _ (hy.ext g2 hE21) oM (by intro k; have := hB.2.2 k; omega)) ?_))))))))
        rintro e22 w22 ⟨v22_0, rfl, hX22, hO22_0⟩
        refine ⟨_, rfl, hX22, ?_⟩
        have hzs22 : w21.heap.size ≤ w22.heap.size := hX22.size
        have hE22 : Ext w w22 := hE21.trans hX22
        have hF13x22 := hF13x21.ext hX22
        have hF14x22 := hF14x21.ext ((good_owS (good_oFn 94 dp))) hX22
        have hF15x22 := hF15x21.ext (o2) hX22
        have hF16x22 := hF16x21.ext ((good_owS (good_oFn 94 dp))) hX22
        have hB12x22 := hB12x21.ext hX22
        have hO17_0x22 := hO17_0x21.ext (o2) hX22
        have hO20x22 := hO20x21.ext ((good_owS (good_oFn 94 dp))) hX22
        refine lw_call 14 [] [] [v17_0, v22_0] rfl rfl cf14 zN (c_laws_eqInt64SS _ _ _ _ _ hO17_0x22.rd2 hO22_0.rd2) ?_
        rintro e23 w23 ⟨rfl, hX23⟩
        refine ⟨_, rfl, hX23, ?_⟩
        have hzs23 : w22.heap.size ≤ w23.heap.size := hX23.size
        have hE23 : Ext w w23 := hE22.trans hX23
        have hF13x23 := hF13x22.ext hX23
        have hF14x23 := hF14x22.ext ((good_owS (good_oFn 94 dp))) hX23
        have hF15x23 := hF15x22.ext (o2) hX23
        have hF16x23 := hF16x22.ext ((good_owS (good_oFn 94 dp))) hX23
        have hB12x23 := hB12x22.ext hX23
        have hO17_0x23 := hO17_0x22.ext (o2) hX23
        have hO20x23 := hO20x22.ext ((good_owS (good_oFn 94 dp))) hX23
        have hO22_0x23 := hO22_0.ext (o2) hX23
        refine q_not (!(decide (y = y))) rfl rfl zN (lw_nil ?_)
        cases hb24 : (!(decide (y = y)))
        ·
          exact c_cond_f (by first | rfl | (show Value.bool _ = _; rw [hb24])) (wp_skip (wp_seq (wp_plain _ [0] rfl (lw_tvn 1 rfl (wp_ret (post_ret [6] rfl (.bool true) rfl ⟨z4_0, hE23⟩))))))
        ·
          exact c_cond_t (by first | rfl | (show Value.bool _ = _; rw [hb24])) (wp_seq (wp_plain _ [0] rfl (lw_tvn 1 rfl (wp_ret (t_ret (post_ret [6] rfl (.bool false) rfl ⟨z4_0, hE23⟩))))))
      ·
        exact q_neqb true u4 rfl rfl hc19 zN (lw_tvn 5 rfl (c_cond_t rfl (wp_seq (wp_plain _ [0] rfl (lw_tvn 1 rfl (wp_ret (t_ret (post_ret [6] rfl (.bool false) rfl ⟨z4_0, hE18⟩))))))))
end Go.Proofs.YtnofbmdpabcjaaaGreat
namespace Go.Proofs.YtnofbmdpabcjaaaGreat
open Go Go.RowKit Go.ChangeShapes Go.WideShapes Go.Deep
set_option linter.unusedVariables false
set_option linter.unusedSimpArgs false
theorem flat_get {s : Nat} : ∀ {css : List (List Value)} (k : Nat) {j : Nat}, (∀ c ∈ css, c.length = s) → j < s → css.flatten[k * s + j]? = (css[k]?).bind fun c => c[j]?
  | [], k, j, _, _ => by simp
  | c :: css, 0, j, h, hj => by
    have hc := h c (List.mem_cons_self ..)
    rw [Nat.zero_mul, Nat.zero_add, List.flatten_cons, List.getElem?_append_left (by omega)]
    simp
  | c :: css, k + 1, j, h, hj => by
    have hc := h c (List.mem_cons_self ..)
    rw [List.flatten_cons, List.getElem?_append_right (by rw [Nat.succ_mul]; omega), show (k + 1) * s + j - c.length = k * s + j from by rw [Nat.succ_mul]; omega,
      flat_get k (fun c hc => h c (List.mem_cons_of_mem _ hc)) hj]
    simp
theorem elsN_of {α : Type} {E : StandN α} {H : Array Obj} (U : Nat → List Value) (X : Nat → α) : ∀ (n : Nat), (∀ i, i < n → ∃ F, E H (U i) (X i) F) → ∃ F, elsN E H ((List.range n).map U) ((List.range n).map X) F
  | 0, _ => ⟨[], rfl⟩
  | n + 1, h => by
    obtain ⟨F, hF⟩ := elsN_of U X n fun i hi => h i (by omega)
    obtain ⟨G, hG⟩ := h n (by omega)
    rw [List.range_succ, List.map_append, List.map_append]
    exact ⟨F ++ (G ++ []), hF.append ⟨G, [], rfl, hG, rfl⟩⟩
theorem rdS_row {α : Type} {E : StandN α} {s : Nat} (hE : GoodN s E) (hs : 0 < s) {W : World} {a : Addr} {n cap : Nat} (hn : n ≤ maxLen) (hnc : n ≤ cap) (U : Nat → List Value) (X : Nat → α)
    (hc : ∀ i, i < n → ∀ j, j < s → W.cell? (a.add (i * s + j)) = (U i)[j]?) (hX : ∀ i, i < n → ∃ F, E W.heap (U i) (X i) F) : ∃ F, rdS s E W.heap (.slice (some a) n cap) ((List.range n).map X) F := by
  by_cases h0 : n = 0
  · subst h0
    exact ⟨[], .inl ⟨some a, cap, rfl, rfl, rfl⟩⟩
  · obtain ⟨F, hF⟩ := elsN_of U X n hX
    have hlU : ∀ i, i < n → (U i).length = s := fun i hi => by obtain ⟨G, hG⟩ := hX i hi; exact hE.len hG
    obtain ⟨g, off, spot⟩ := a
    have h1 := hc 0 (by omega) 0 hs
    rw [List.getElem?_eq_getElem (by rw [hlU 0 (by omega)]; exact hs)] at h1
    have hsp : spot = none := by simpa [Addr.add] using World.cell?_spot h1
    subst hsp
    have hcell : ∀ i, i < n → ∀ j, j < s → cellH W.heap g (off + (i * s + j)) = (U i)[j]? := fun i hi j hj => by
      have := hc i hi j hj
      rw [add_plain, cell_cellH] at this
      exact this
    have h2 := hcell 0 (by omega) 0 hs
    rw [List.getElem?_eq_getElem (by rw [hlU 0 (by omega)]; exact hs)] at h2
    unfold cellH at h2
    cases hg : W.heap[g]? with
    | none => rw [hg] at h2; cases h2
    | some o =>
      cases o with
      | cells cur e fr =>
        refine ⟨g :: F, .inr ⟨(List.range n).map U, g, off, cap, cur, e, fr, F, hF, by simp, hg, ?_, ⟨by simpa using hn, by simpa using hnc⟩, rfl⟩⟩
        have hlen : ∀ c ∈ (List.range n).map U, c.length = s := fun c hc => by
          obtain ⟨i, hi, rfl⟩ := List.mem_map.1 hc
          exact hlU i (List.mem_range.1 hi)
        have hfl := hF.flen hE
        apply List.ext_getElem?
        intro q
        rw [List.getElem?_take, List.getElem?_drop]
        simp only [List.length_map, List.length_range] at hfl ⊢
        by_cases hq : q < n * s
        · have e1 : q = q / s * s + q % s := by rw [Nat.mul_comm, Nat.div_add_mod]
          have hj : q % s < s := Nat.mod_lt _ hs
          have hi : q / s < n := (Nat.div_lt_iff_lt_mul hs).2 hq
          have h3 := hcell (q / s) hi (q % s) hj
          unfold cellH at h3
          rw [hg, ← e1] at h3
          have h4 := flat_get (css := (List.range n).map U) (q / s) hlen hj
          rw [← e1] at h4
          rw [if_pos hq, h4]
          simp only [Array.getElem?_toList] at *
          rw [h3]
          simp [hi]
        · rw [if_neg hq, List.getElem?_eq_none (by omega)]
      | _ => rw [hg] at h2; cases h2
/-- What the table of types says of a struct: places and types. -/
def stTy (P : Program) (t : TypeId) (l : List (Nat × TypeId)) : Bool :=
  match P.underlying t with
  | some (.struct fs) => decide (fs.toList.map (fun f => (f.offset, f.type)) = l)
  | _ => false
section
variable {H : Type} {enc : TypeId × Value → H} {P : Program} {W : World} {base : Nat} {held : Bool} {sp : Nat → Bool}
theorem st_field {t : TypeId} {l : List (Nat × TypeId)} {fuel : Nat} {cs : List Value} {x : DataW H × List MemPlace} (ht : stTy P t l = true) (h : DataW.trod enc P W base sp held fuel t cs = some x) :
    ∃ n, fuel = n + 1 ∧ cs.length = P.cellsOf t ∧ ∀ (i o : Nat) (ty : TypeId), l[i]? = some (o, ty) → ∃ y, DataW.trod enc P W base sp held n ty ((cs.drop o).take (P.cellsOf ty)) = some y := by
  unfold stTy at ht
  split at ht
  · rename_i fs hfs
    have hl := of_decide_eq_true ht
    obtain ⟨xs, n, hfu, _, hlen, hxl, hf⟩ := DataW.trod_struct hfs h
    refine ⟨n, hfu, hlen, fun i o ty hi => ?_⟩
    rw [← hl, List.getElem?_map] at hi
    obtain ⟨f, hf1, hf2⟩ := Option.map_eq_some_iff.1 hi
    have hf3 : fs[i]? = some f := by simpa using hf1
    have hil : i < xs.length := by
      rw [hxl]
      exact (Array.getElem?_eq_some_iff.1 hf3).1
    have h2 := hf i f hf3
    injection hf2 with e1 e2
    rw [← e1, ← e2, h2]
    exact ⟨xs[i], List.getElem?_eq_getElem hil⟩
  · cases ht
theorem rEx_up : ∀ {d : Nat} {H : Array Obj} {cs : List Value} {x : Ex} {F : List Nat}, rEx d H cs x F → rEx (d + 1) H cs x F
  | 0, _, _, _, _, h => h.elim
  | d + 1, _, _, _, _, ⟨v, h1, h2, h3⟩ => ⟨v, h1, h2, h3.imp fun h => rEx_up h⟩
/-- A slice of structs, opened. -/
theorem open_rdS {α : Type} [Inhabited α] {E : StandN α} {t e : TypeId} {s fuel : Nat} {u : Value} {x : DataW H × List MemPlace} (hE : GoodN s E) (hs : 0 < s) (ht : P.underlying t = some (.slice e)) (ce : P.cellsOf e = s)
    (hel : ∀ {n : Nat} {cs : List Value} {x : DataW H × List MemPlace}, fuel = n + 1 → DataW.trod enc P W base (fun _ => true) held n e cs = some x → ∃ (y : α) (F : List Nat), E W.heap cs y F)
    (hf : DataW.trod enc P W base (fun _ => true) held fuel t [u] = some x) : ∃ (zs : List α) (F : List Nat), rdS s E W.heap u zs F := by
  rcases DataW.trod_slice ht hf with ⟨hcs, _⟩ | ⟨a, len, cap, elems, rest, n, hfu, hcs, _, _, hl, hm, hlen, helm, _, _⟩
  · simp only [List.cons.injEq, and_true] at hcs
    subst hcs
    exact ⟨[], [], .inl ⟨none, 0, rfl, rfl, rfl⟩⟩
  · simp only [List.cons.injEq, and_true] at hcs
    subst hcs
    have h1 : ∀ i, i < len → ∃ c : List Value × α, (∀ j, j < s → W.cell? (a.add (i * s + j)) = c.1[j]?) ∧ ∃ F, E W.heap c.1 c.2 F := by
      intro i hi
      have h2 := helm i hi
      rw [List.getElem?_eq_getElem (by omega)] at h2
      obtain ⟨cs', q1, q2⟩ := Option.bind_eq_some_iff.1 h2
      obtain ⟨_, ql, qc⟩ := World.cells?_some q1
      obtain ⟨y, F, hy⟩ := hel hfu q2
      refine ⟨(cs', y), fun j hj => ?_, F, hy⟩
      have := qc j (by rw [ce]; exact hj)
      rwa [add_add, ce] at this
    obtain ⟨C, hC⟩ := choose_lt (α := List Value × α) (n := len) h1
    obtain ⟨F, hF⟩ := rdS_row hE hs (W := W) (a := a) (n := len) (cap := cap) (by omega) hl (fun i => (C i).1) (fun i => (C i).2) (fun i hi => (hC i hi).1) (fun i hi => (hC i hi).2)
    exact ⟨_, F, hF⟩
instance : Inhabited Ex := ⟨Ex.zero⟩
instance : Inhabited Fn := ⟨Fn.zero⟩
/-- Expressions, opened. -/
theorem open_exs {tS tE ti : TypeId} (hS : P.underlying tS = some (.slice tE)) (hE : stTy P tE [(0, ti), (1, ti), (2, ti), (3, ti), (4, tS)] = true) (hi : P.underlying ti = some (.int .i64)) (cE : P.cellsOf tE = 5) (ci : P.cellsOf ti = 1) (cS : P.cellsOf tS = 1) :
    ∀ (fuel : Nat) (u : Value) (x : DataW H × List MemPlace), DataW.trod enc P W base (fun _ => true) held fuel tS [u] = some x → ∃ (zs : List Ex) (F : List Nat), rdS 5 (rEx fuel) W.heap u zs F := by
  intro fuel
  induction fuel using Nat.strongRecOn with
  | _ fuel ih =>
    intro u x hf
    refine open_rdS (good_rEx fuel) (by decide) hS cE ?_ hf
    intro n cs y hfu hy
    obtain ⟨m, hm, hlen, hfd⟩ := st_field hE hy
    have num : ∀ o, o < 4 → ∃ z : Int, (cs.drop o).take 1 = [.int .i64 z] ∧ i64 z := by
      intro o ho
      obtain ⟨y', hy'⟩ := hfd o o ti (by match o, ho with | 0, _ => rfl | 1, _ => rfl | 2, _ => rfl | 3, _ => rfl)
      rw [ci] at hy'
      obtain ⟨z, hz, _, hw⟩ := DataW.trod_int hi hy'
      exact ⟨z, hz, wf_i64 hw⟩
    obtain ⟨y4, hy4⟩ := hfd 4 4 tS rfl
    rw [cS] at hy4
    rw [cE] at hlen
    match cs, hlen with
    | [c0, c1, c2, c3, c4], _ =>
      obtain ⟨z0, e0, r0⟩ := num 0 (by decide)
      obtain ⟨z1, e1, r1⟩ := num 1 (by decide)
      obtain ⟨z2, e2, r2⟩ := num 2 (by decide)
      obtain ⟨z3, e3, r3⟩ := num 3 (by decide)
      have q0 : c0 = .int .i64 z0 := by simpa using e0
      have q1 : c1 = .int .i64 z1 := by simpa using e1
      have q2 : c2 = .int .i64 z2 := by simpa using e2
      have q3 : c3 = .int .i64 z3 := by simpa using e3
      subst q0; subst q1; subst q2; subst q3
      obtain ⟨zs, F, hz⟩ := ih m (by omega) c4 y4 hy4
      subst hm
      subst hfu
      exact ⟨.mk z0 z1 z2 z3 zs, F, rEx_up (d := m + 1) ⟨c4, rfl, ⟨r0, r1, r2, r3⟩, hz⟩⟩
/-- A program, opened. -/
theorem open_prog {t tF tN tS tE ti tz : TypeId} {d : DataW H} {ps : List MemPlace} {v : Value} {b0 : Nat} {r : Reach} (hP : stTy P t [(0, tF)] = true) (hF : P.underlying tF = some (.slice tN)) (hN : stTy P tN [(0, tz), (1, ti), (2, tS)] = true)
    (hS : P.underlying tS = some (.slice tE)) (hE : stTy P tE [(0, ti), (1, ti), (2, ti), (3, ti), (4, tS)] = true) (hi : P.underlying ti = some (.int .i64)) (hz : P.underlying tz = some .string)
    (cP : P.cellsOf t = 1) (cF : P.cellsOf tF = 1) (cN : P.cellsOf tN = 3) (cE : P.cellsOf tE = 5) (ci : P.cellsOf ti = 1) (cS : P.cellsOf tS = 1) (cz : P.cellsOf tz = 1)
    (hval : Value.okWide P W r b0 t v) (hd : DataW.Trod enc P W base (fun _ => true) held t v d ps) :
    ∃ (u : Value) (dp : Nat) (p : List Fn), v = .agg #[u] ∧ RP [] dp W.heap u p ∧ ∀ k, k < p.length → (p.getD k Fn.zero).name.size ≤ 9223372036854775807 := by
  have hstr : ∃ fs, P.underlying t = some (.struct fs) := by
    unfold stTy at hP
    split at hP
    · rename_i fs hfs; exact ⟨fs, hfs⟩
    · cases hP
  obtain ⟨fs, hfs⟩ := hstr
  obtain ⟨cs, rfl, hcs⟩ := okWide_struct hfs hval
  obtain ⟨fuel, hf⟩ := hd
  obtain ⟨n, hfu, hlen, hfd⟩ := st_field hP hf
  obtain ⟨y, hy⟩ := hfd 0 0 tF rfl
  rw [cF] at hy
  rw [cP] at hlen
  have hlen' : cs.toList.length = 1 := hlen
  match hcl : cs.toList, hlen' with
  | [u], _ =>
    have hcu : cs = #[u] := by apply Array.ext'; simpa using hcl
    subst hcu
    have hy' : DataW.trod enc P W base (fun _ => true) held n tF [u] = some y := hy
    obtain ⟨zs, F, hzs⟩ := open_rdS (E := fun H cs f F => rFn n H cs f F ∧ f.name.size ≤ 9223372036854775807) (s := 3)
      ⟨fun h => (good_rFn n).len h.1, fun h => (good_rFn n).one h.1, fun h => (good_rFn n).lt h.1, fun h hb => ⟨(good_rFn n).stable h.1 hb, h.2⟩⟩ (by decide) hF cN (by
        intro m cs y hm hy
        obtain ⟨q, hq, hlen, hfd⟩ := st_field hN hy
        rw [cN] at hlen
        obtain ⟨y0, h0⟩ := hfd 0 0 tz rfl
        obtain ⟨y1, h1⟩ := hfd 1 1 ti rfl
        obtain ⟨y2, h2⟩ := hfd 2 2 tS rfl
        rw [cz] at h0
        rw [ci] at h1
        rw [cS] at h2
        match cs, hlen with
        | [c0, c1, c2], _ =>
          obtain ⟨s, e0, _, hs⟩ := DataW.trod_string hz h0
          obtain ⟨z, e1, _, hw⟩ := DataW.trod_int hi h1
          have q0 : c0 = .string s := by simpa using e0
          have q1 : c1 = .int .i64 z := by simpa using e1
          subst q0; subst q1
          obtain ⟨es, F, hes⟩ := open_exs (enc := enc) (W := W) (base := base) (held := held) hS hE hi cE ci cS q c2 y2 h2
          have hup : ∀ k, rdS 5 (rEx (q + k)) W.heap c2 es F := by
            intro k
            induction k with
            | zero => exact hes
            | succ k ih => exact ih.imp fun h => rEx_up h
          have hn : rdS 5 (rEx n) W.heap c2 es F := by
            have := hup (n - q)
            rwa [show q + (n - q) = n from by omega] at this
          exact ⟨⟨s, z, es⟩, F, ⟨c2, rfl, wf_i64 hw, hn⟩, by unfold maxLen at hs; exact hs⟩) hy'
    refine ⟨u, n, zs, rfl, ⟨F, hzs.imp fun h => h.1, fun b hb hm => by cases hm⟩, fun k hk => ?_⟩
    obtain ⟨cs, G, hg, _⟩ := rdS.get (E := fun H cs f F => rFn n H cs f F ∧ f.name.size ≤ 9223372036854775807) (s := 3) ⟨fun h => (good_rFn n).len h.1, fun h => (good_rFn n).one h.1, fun h => (good_rFn n).lt h.1, fun h hb => ⟨(good_rFn n).stable h.1 hb, h.2⟩⟩ Fn.zero hzs hk
    exact hg.2
end
end Go.Proofs.YtnofbmdpabcjaaaGreat
