/- Xm, Xl, Xn: texts of this claim, joined; what the claim does not come to is left out. -/
import Derived.Test.YtnokbaiemimhjaaQB5
import Derived.Test.YtnokbaiemimhjaaProg
set_option linter.unusedVariables false
set_option linter.unusedSimpArgs false
namespace Go.Proofs.Ytnokbaiemimhjaa
open Go Go.RowKit
set_option linter.unusedVariables false
set_option linter.unusedSimpArgs false
set_option maxHeartbeats 4000000
set_option maxRecDepth 100000
attribute [local irreducible] LW
theorem z26_0 {p : Prop} (h : p := by exact (FOk.fn (s := ⟨#[99]⟩) (i := i) (f := ⟨(⟨#[99]⟩ ++ dig k), (cn.getD (2 * k) 0), xs⟩) hdp hdn oM ⟨by show 1 ≤ (cn.getD (2 * k) 0); omega, by show (cn.getD (2 * k) 0) ≤ 3; omega⟩ ⟨by omega, by omega⟩ hff (by unfold four; simp) (by show _ = _ ++ dig ps.length; rw [hpk])).1) : p := h
theorem z26_1 {p : Prop} (h : p := by exact (FOk.fn (s := ⟨#[99]⟩) (i := i) (f := ⟨(⟨#[99]⟩ ++ dig k), (cn.getD (2 * k) 0), xs⟩) hdp hdn oM ⟨by show 1 ≤ (cn.getD (2 * k) 0); omega, by show (cn.getD (2 * k) 0) ≤ 3; omega⟩ ⟨by omega, by omega⟩ hff (by unfold four; simp) (by show _ = _ ++ dig ps.length; rw [hpk])).2) : p := h
theorem z26_2 {p : Prop} (h : p := by intro j hj; by_cases e : j = k; (subst e; rw [gd_r hpk.symm]; exact ⟨rfl, by show ((xs.length : Nat) : Int) = _; rw [hff.len]; omega⟩); (rw [gd_l oM]; exact hfn j oM)) : p := h
theorem z26_3 {p : Prop} (h : p := by intro u hu; simp only [List.mem_cons, List.not_mem_nil, or_false] at hu; rcases hu with rfl | rfl | rfl <;> first | exact ⟨rfl, rfl⟩) : p := h
theorem z26_4 {p : Prop} (h : p := by exact (hff.snoc (funcs := ((k : Nat) : Int)) (d := 4) (l0 := 7) oM oM oM (GOk.npl (by assumption)))) : p := h
theorem z26_5 {p : Prop} (h : p := by simp only [List.map_toArray, List.map_cons, List.map_nil]; rfl) : p := h
theorem z26_6 {p : Prop} (h : p := by decide) : p := h
theorem c_spec_A2Chain (w : World) (vc : Value) (cs : List UInt8) (hcs : Rd (rdL rU) w.heap vc cs)  :
    Calls Try.prog 26 #[vc] w (fun e w' => ∃ (v va : Value) (p : List Fn) (a : List Int), e = .returned (.tuple #[.agg #[v], va]) ∧ Ext w w' ∧ Fr (owS 3 (oFn 31 6) 34) w.heap.size w'.heap.size w'.heap v p ∧ Fr (owL rI 2) w.heap.size w'.heap.size w'.heap va a ∧ ChnD p a) := by
  refine calls_mk [vc] 131 Try.func26 rfl rfl sM ?_
  have hE0 : Ext w w := Ext.refl w
  have hl_vc := hcs.lenle
  have hs5 := stp4
  have hn5 := nds4
  refine wp_seq (wp_plain _ [3, 0] rfl (r_allocA (z := .agg #[.slice none 0 0]) zr37 zN fun w1 hX1 hz1 hB1 => ?_))
  have hzs1 : w.heap.size ≤ w1.heap.size := hX1.size
  have hE1 : Ext w w1 := hE0.trans hX1
  replace hB1 : BX w1.heap w.heap.size [(.slice none 0 0)] := hB1
  refine lw_tvn 1 rfl (wp_seq (wp_plain _ [0, 3, 0] rfl (lw_tv 1 rfl (lw_call 36 [] [] [vc] rfl rfl cf36 zN (c_spec_l00From _ _ _ (hcs.ext good_u hE1)) ?_))))
  rintro e2 w2 ⟨gB2, rfl, hX2, hs2, hg2⟩
  refine ⟨_, rfl, hX2, ?_⟩
  have hzs2 : w1.heap.size ≤ w2.heap.size := hX2.size
  have hE2 : Ext w w2 := hE1.trans hX2
  have hB1x2 := hB1.ext hX2
  refine lw_tvn 1 rfl (wp_seq (wp_plain _ [0, 3, 4] rfl ?_))
  have hgl := hs2.lt
  have hbd3 : ∀ (wq : World), (Instr.build 37 #[]).run Try.prog wq = .ok (.agg #[(.slice none 0 0)]) wq := by intro wq; kernel_rfl
  refine q_build (ps := #[]) (.agg #[(.slice none 0 0)]) (by simp only [List.map_toArray, List.map_cons, List.map_nil]) (fun wq => hbd3  wq) zN ?_
  have hq5 := hB1x2.lt
  refine r_allocA (z := .agg #[.slice none 0 0]) zr37 zN fun w4 hX4 hz4 hB4 => ?_
  have hzs4 : w2.heap.size ≤ w4.heap.size := hX4.size
  have hE4 : Ext w w4 := hE2.trans hX4
  have hB1x4 := hB1x2.ext hX4
  have hs2x4 := hs2.ext hX4
  replace hB4 : BX w4.heap w2.heap.size [(.slice none 0 0)] := hB4
  refine e_setA (vs := [(.slice none 0 0)]) agg37 rfl rfl (by intro u hu; simp only [List.mem_cons, List.not_mem_nil, or_false] at hu; rcases hu with rfl <;> first | exact ⟨rfl, rfl⟩) hB4 rfl rfl zN fun w6 hC6 hz6 hB6 => ?_
  replace hB6 : BX w6.heap w2.heap.size [(.slice none 0 0)] := hB6
  have hzs6 : w4.heap.size ≤ w6.heap.size := hC6.size
  have hE6 : Ext w w6 := hC6.below hE4 (fun c hc => by have := List.mem_singleton.1 hc; omega) hE4.size
  have hF7 := hB1x4.chg hC6 (fun hm => by have := List.mem_singleton.1 hm; omega)
  have hF8 := hs2x4.chg hC6 (fun c hc => by have := List.mem_singleton.1 hc; omega)
  refine lw_nil (wp_seq (wp_plain _ [0, 4, 0, 0] rfl (lw_tv 1 rfl (lw_callE 37 [] [] [(.pointer (some ⟨gB2, 0, none⟩)), (.int .i64 ((3 : Nat) : Int))] rfl rfl cf37 zN (c_spec_l00Src_pick _ gB2 _ _ _ (((3 : Nat) : Int)) hF8 oM oM oM) ?_))))
  rintro e9 w9 ⟨x9_0, n9, rfl, hC9, hs9, hb9, hp9_0⟩
  refine ⟨_, rfl, ?_⟩
  have hzs9 : w6.heap.size ≤ w9.heap.size := hC9.size
  have hE9 : Ext w w9 := hC9.below hE6 (fun c hc => by have := List.mem_singleton.1 hc; omega) hE6.size
  have hF10 := hF7.chg hC9 (fun hm => by have := List.mem_singleton.1 hm; omega)
  have hF11 := hB6.chg hC9 (fun hm => by have := List.mem_singleton.1 hm; omega)
  refine q_add (((1 : Nat) : Int) + x9_0) rfl rfl (w64 sD sD) zN (lw_tvn 1 rfl (wp_seq (wp_plain _ [0, 4, 0, 0] rfl ?_)))
  generalize hg_pa : (((1 : Nat) : Int) + x9_0) = pa
  have hpa : 1 ≤ pa ∧ pa ≤ 3 := by omega
  refine lw_tv 1 rfl (lw_callE 37 [] [] [(.pointer (some ⟨gB2, 0, none⟩)), (.int .i64 ((3 : Nat) : Int))] rfl rfl cf37 zN (c_spec_l00Src_pick _ gB2 _ _ _ (((3 : Nat) : Int)) hs9 oM oM oM) ?_)
  rintro e12 w12 ⟨x12_0, n12, rfl, hC12, hs12, hb12, hp12_0⟩
  refine ⟨_, rfl, ?_⟩
  have hzs12 : w9.heap.size ≤ w12.heap.size := hC12.size
  have hE12 : Ext w w12 := hC12.below hE9 (fun c hc => by have := List.mem_singleton.1 hc; omega) hE9.size
  have hF13 := hF10.chg hC12 (fun hm => by have := List.mem_singleton.1 hm; omega)
  have hF14 := hF11.chg hC12 (fun hm => by have := List.mem_singleton.1 hm; omega)
  refine q_add (((1 : Nat) : Int) + x12_0) rfl rfl (w64 sD sD) zN (lw_tvn 1 rfl (wp_seq (wp_plain _ [0, 0, 0, 0, 4, 0, 3, 0] rfl ?_)))
  generalize hg_mi : (((1 : Nat) : Int) + x12_0) = mi
  have hmi : 1 ≤ mi ∧ mi ≤ 3 := by omega
  refine lw_tv 4 rfl (lw_callE 37 [] [] [(.pointer (some ⟨gB2, 0, none⟩)), (.int .i64 ((2 : Nat) : Int))] rfl rfl cf37 zN (c_spec_l00Src_pick _ gB2 _ _ _ (((2 : Nat) : Int)) hs12 oM oM oM) ?_)
  rintro e15 w15 ⟨x15_0, n15, rfl, hC15, hs15, hb15, hp15_0⟩
  refine ⟨_, rfl, ?_⟩
  have hzs15 : w12.heap.size ≤ w15.heap.size := hC15.size
  have hE15 : Ext w w15 := hC15.below hE12 (fun c hc => by have := List.mem_singleton.1 hc; omega) hE12.size
  have hF16 := hF13.chg hC15 (fun hm => by have := List.mem_singleton.1 hm; omega)
  have hF17 := hF14.chg hC15 (fun hm => by have := List.mem_singleton.1 hm; omega)
  refine q_add (((1 : Nat) : Int) + x15_0) rfl rfl (w64 sD sD) zN ?_
  refine r_four (ys := [pa, mi, mi, ((1 : Nat) : Int) + x15_0]) good_rI u25 ti2 rfl rfl rfl rfl rfl rfl (elsI4 oM oM oM oM) zN fun v18 w18 hX18 hz18 hO18 => ?_
  have hzs18 : w15.heap.size ≤ w18.heap.size := hX18.size
  have hE18 : Ext w w18 := hE15.trans hX18
  have hF16x18 := hF16.ext hX18
  have hs15x18 := hs15.ext hX18
  have hF17x18 := hF17.ext hX18
  refine lw_tvn 1 rfl (wp_seq (wp_seq (wp_plain _ [0] rfl ?_)))
  obtain ⟨cn, hcn⟩ : ∃ l, l = [pa, mi, mi, ((1 : Nat) : Int) + x15_0] := ⟨_, rfl⟩
  have hcf := hO18
  rw [← hcn] at hcf
  have hcl : cn.length = 4 := by rw [hcn]; rfl
  have hc0 : cn.getD 0 0 = pa := by rw [hcn]; rfl
  have hc1 : cn.getD 1 0 = mi := by rw [hcn]; rfl
  have hc2 : cn.getD 2 0 = mi := by rw [hcn]; rfl
  have hc3 : 1 ≤ cn.getD 3 0 ∧ cn.getD 3 0 ≤ 2 := by rw [hcn]; show 1 ≤ _ ∧ _ ≤ 2; simp only [List.getD_cons_succ, List.getD_cons_zero]; omega
  have hcr : ∀ j, j < 4 → 1 ≤ cn.getD j 0 ∧ cn.getD j 0 ≤ 3 := by intro j hj; have h9 : j = 0 ∨ j = 1 ∨ j = 2 ∨ j = 3 := oM; rcases h9 with rfl | rfl | rfl | rfl <;> omega
  refine lw_tvn 1 rfl (wp_block ?_)
  refine c_loop (S := Nat × Value × List Fn × Nat) (fun (⟨k, vp, ps, m⟩ : Nat × Value × List Fn × Nat) => ([(9, (.int .i64 ((k : Nat) : Int))), (2, (.pointer (some ⟨w.heap.size, 0, none⟩))), (4, (.pointer (some ⟨gB2, 0, none⟩))), (5, (.pointer (some ⟨w2.heap.size, 0, none⟩))), (6, (.int .i64 pa)), (7, (.int .i64 mi)), (8, v18)] : List (Nat × Value))) (fun (⟨k, vp, ps, m⟩ : Nat × Value × List Fn × Nat) (W : World) => Ext w W ∧ Fr (owS 3 (oFn 31 6) 34) w18.heap.size W.heap.size W.heap vp ps ∧ Src W.heap gB2 vc cs m ∧ Fr (owL rI 2) w15.heap.size w18.heap.size W.heap v18 cn ∧ BX W.heap w.heap.size [(.slice none 0 0)] ∧ BX W.heap w2.heap.size [vp] ∧ k ≤ 2 ∧ (gB2 < w15.heap.size ∧ w2.heap.size < w15.heap.size ∧ w18.heap.size ≤ w18.heap.size ∧ w.heap.size < gB2 ∧ gB2 < w2.heap.size) ∧ DPr ps false ∧ Dn ps ∧ ps.length = k ∧ m ≤ 100 + 60000 * k ∧ (∀ j, j < k → (ps.getD j Fn.zero).params = cn.getD (2 * j) 0 ∧ (((ps.getD j Fn.zero).outs.length : Nat) : Int) = cn.getD (2 * j + 1) 0) ∧ w.heap.size < w18.heap.size ∧ w2.heap.size < w18.heap.size ∧ w18.heap.size ≤ W.heap.size) (fun (⟨k, vp, ps, m⟩ : Nat × Value × List Fn × Nat) => 2 - k) (0, (.slice none 0 0), ([] : List Fn), n15) ⟨rfl, rfl, rfl, rfl, rfl, rfl, rfl, trivial⟩ ⟨hE18, (frNilS _ 0 _).up (good_owS (good_oFn 31 6)), hs15x18, hcf, hF16x18, hF17x18, oM, oM, (by exact DPr.nil _), (by exact Dn.nil), (by rfl), oM, (by intro j hj; omega), oM, oM, oM⟩ ?_
  clear hE0 hz1 hX1 hzs1 hE1 hX2 hzs2 hE2 hz4 hX4 hzs4 hE4 hz6 hC6 hzs6 hE6 hF7 hF8 hC9 hzs9 hE9 hF10 hF11 hC12 hzs12 hE12 hF13 hF14 hC15 hF16 hF17 hO18 hz18 hX18 hF16x18 hF17x18
  rintro ⟨k, vp, ps, m⟩ ρ21 w21 ⟨hE21, hL21_0, hL21_1, hL21_2, hL21_3, hL21_4, hp21_0, hcb2, hdp, hdn, hpk, hmk, hfn, hkg19, hkg20, hkB22⟩
  have hzs21 : w.heap.size ≤ w21.heap.size := hE21.size
  have hq23 := hL21_3.lt
  have hq24 := hL21_4.lt
  refine wp_seq (wp_seq (wp_plain _ [0, 0] rfl (lw_tv 1 rfl ?_)))
  by_cases hc25 : ((k : Nat) : Int) < ((2 : Nat) : Int)
  ·
    refine q_lss true rfl rfl (decide_eq_true hc25) zN (lw_nil (c_cond_t rfl (wp_skip (wp_seq (wp_block (wp_seq (wp_draw3 _ [0, 3, 0, 0, 0, 0, 0, 1, 0, 3, 4] 1 9 [0] [2, 3, 4, 5, 6, 7, 8, 10] [_, _, _, _, _, _, _, _, _, _, _] [0, 3, 3, 0, 0, 0, 0, 0, 1, 0, 4] [_, _, _, _, _, _, _, _, _, _, _] [0, 3, 3, 0, 0, 0, 0, 0, 1, 0, 4] mixed (by kernel_rfl) ⟨rfl, rfl, ⟨rfl, rfl, ⟨rfl, rfl, ⟨rfl, rfl, ⟨rfl, rfl, ⟨rfl, rfl, ⟨rfl, rfl, ⟨rfl, rfl, ⟨rfl, rfl, ⟨rfl, rfl, ⟨rfl, rfl, trivial⟩⟩⟩⟩⟩⟩⟩⟩⟩⟩⟩ ⟨rfl, rfl, ⟨rfl, rfl, ⟨rfl, rfl, ⟨rfl, rfl, ⟨rfl, rfl, ⟨rfl, rfl, ⟨rfl, rfl, ⟨rfl, rfl, ⟨rfl, rfl, ⟨rfl, rfl, ⟨rfl, rfl, trivial⟩⟩⟩⟩⟩⟩⟩⟩⟩⟩⟩ ?_ ?_)))))))
    ·
      refine lw_tv 1 rfl (lw_call 69 [] [] [(.int .i64 ((k : Nat) : Int))] rfl rfl cf69 zN (c_spec_Decimal _ (((k : Nat) : Int)) oM oM) ?_)
      rintro e26 w26 ⟨st26, rfl, hX26, rfl⟩
      refine ⟨_, rfl, hX26, ?_⟩
      replace hX26 := hX26.of_drew
      have hzs26 : w21.heap.size ≤ w26.heap.size := hX26.size
      have hE26 : Ext w w26 := hE21.trans hX26
      have hL21_0x26 := hL21_0.ext ((good_owS (good_oFn 31 6))) hX26
      have hL21_1x26 := hL21_1.ext hX26
      have hL21_2x26 := hL21_2.ext (o1) hX26
      have hL21_3x26 := hL21_3.ext hX26
      have hL21_4x26 := hL21_4.ext hX26
      have hq28 := hL21_3x26.lt
      have hq29 := hL21_4x26.lt
      refine r_allocA (z := .agg #[.string ByteArray.empty, .int .i64 0, .slice none 0 0]) zr34 zN fun w27 hX27 hz27 hB27 => ?_
      have hzs27 : w26.heap.size ≤ w27.heap.size := hX27.size
      have hE27 : Ext w w27 := hE26.trans hX27
      have hL21_0x27 := hL21_0x26.ext ((good_owS (good_oFn 31 6))) hX27
      have hL21_1x27 := hL21_1x26.ext hX27
      have hL21_2x27 := hL21_2x26.ext (o1) hX27
      have hL21_3x27 := hL21_3x26.ext hX27
      have hL21_4x27 := hL21_4x26.ext hX27
      replace hB27 : BX w27.heap w26.heap.size [(.string ByteArray.empty), (.int .i64 0), (.slice none 0 0)] := hB27
      refine q_adds (a := ⟨#[99]⟩) (b := dig k) rfl rfl (by have := dig_size k; show 1 + _ ≤ _; omega) zN (lw_tv 2 rfl (q_mul ((2 * k : Nat) : Int) rfl rfl (w64n oM oM) zN (q_idx (v := v18) (2 * k) u25 ti2 rfl rfl hL21_2x27.isSl rfl sD zN ?_)))
      refine q_load (p := eptr v18 (2 * k) 1) (.inl rfl) (.int .i64 (cn.getD (2 * k) 0)) one2 rfl (hL21_2.rd1.getI sD).1 zN ?_
      have hbd30 : ∀ (wq : World), (Instr.build 34 #[(0, (.string (⟨#[99]⟩ ++ dig k))), (1, (.int .i64 (cn.getD (2 * k) 0)))]).run Try.prog wq = .ok (.agg #[(.string (⟨#[99]⟩ ++ dig k)), (.int .i64 (cn.getD (2 * k) 0)), (.slice none 0 0)]) wq := by intro wq; kernel_rfl
      refine q_build (ps := #[(0, (.string (⟨#[99]⟩ ++ dig k))), (1, (.int .i64 (cn.getD (2 * k) 0)))]) (.agg #[(.string (⟨#[99]⟩ ++ dig k)), (.int .i64 (cn.getD (2 * k) 0)), (.slice none 0 0)]) z26_5 (fun wq => hbd30  wq) zN (e_setA (vs := [(.string (⟨#[99]⟩ ++ dig k)), (.int .i64 (cn.getD (2 * k) 0)), (.slice none 0 0)]) agg34 rfl rfl z26_3 hB27 rfl rfl zN fun w31 hC31 hz31 hB31 => ?_)
      replace hB31 : BX w31.heap w26.heap.size [(.string (⟨#[99]⟩ ++ dig k)), (.int .i64 (cn.getD (2 * k) 0)), (.slice none 0 0)] := hB31
      have hzs31 : w27.heap.size ≤ w31.heap.size := hC31.size
      have hE31 : Ext w w31 := hC31.below hE27 (fun c hc => by have := List.mem_singleton.1 hc; omega) hE27.size
      have hF32 := hL21_0x27.chg ((good_owS (good_oFn 31 6))) hC31 (fun c hc => by have := List.mem_singleton.1 hc; omega)
      have hF33 := hL21_1x27.chg hC31 (fun c hc => by have := List.mem_singleton.1 hc; omega)
      have hF34 := hL21_2x27.chg (o1) hC31 (fun c hc => by have := List.mem_singleton.1 hc; omega)
      have hF35 := hL21_3x27.chg hC31 (fun hm => by have := List.mem_singleton.1 hm; omega)
      have hF36 := hL21_4x27.chg hC31 (fun hm => by have := List.mem_singleton.1 hm; omega)
      refine lw_nil (wp_seq (wp_seq (wp_plain _ [0] rfl ?_)))
      have hca := hcr (2 * k) oM
      have hcb := hcr (2 * k + 1) oM
      refine lw_tvn 1 rfl (wp_block ?_)
      refine c_loop (S := Nat × Value × List Ex × Nat) (fun (⟨i, vo, xs, m2⟩ : Nat × Value × List Ex × Nat) => ([(11, (.int .i64 ((i : Nat) : Int))), (2, (.pointer (some ⟨w.heap.size, 0, none⟩))), (4, (.pointer (some ⟨gB2, 0, none⟩))), (5, (.pointer (some ⟨w2.heap.size, 0, none⟩))), (6, (.int .i64 pa)), (7, (.int .i64 mi)), (8, v18), (9, (.int .i64 ((k : Nat) : Int))), (10, (.pointer (some ⟨w26.heap.size, 0, none⟩)))] : List (Nat × Value))) (fun (⟨i, vo, xs, m2⟩ : Nat × Value × List Ex × Nat) (W : World) => Ext w W ∧ Fr (owS 5 (oEx 31 6) 31) w31.heap.size W.heap.size W.heap vo xs ∧ Fr (owS 3 (oFn 31 6) 34) w18.heap.size w21.heap.size W.heap vp ps ∧ Src W.heap gB2 vc cs m2 ∧ Fr (owL rI 2) w15.heap.size w18.heap.size W.heap v18 cn ∧ BX W.heap w.heap.size [(.slice none 0 0)] ∧ BX W.heap w2.heap.size [vp] ∧ BX W.heap w26.heap.size [(.string (⟨#[99]⟩ ++ dig k)), (.int .i64 (cn.getD (2 * k) 0)), vo] ∧ ((i : Nat) : Int) ≤ cn.getD (2 * k + 1) 0 ∧ FOk ps (cn.getD (2 * k) 0) false xs i ∧ m2 ≤ 100 + 60000 * k + 12000 * i ∧ (gB2 < w15.heap.size ∧ w2.heap.size < w15.heap.size ∧ w18.heap.size ≤ w31.heap.size ∧ w.heap.size < gB2 ∧ gB2 < w2.heap.size) ∧ w21.heap.size ≤ w31.heap.size ∧ (gB2 < w18.heap.size ∧ w.heap.size ≤ w18.heap.size ∧ w.heap.size < gB2) ∧ w21.heap.size ≤ w26.heap.size ∧ w.heap.size < w31.heap.size ∧ w2.heap.size < w31.heap.size ∧ w26.heap.size < w31.heap.size ∧ w31.heap.size ≤ W.heap.size ∧ w18.heap.size ≤ W.heap.size) (fun (⟨i, vo, xs, m2⟩ : Nat × Value × List Ex × Nat) => (cn.getD (2 * k + 1) 0).toNat - i) (0, (.slice none 0 0), ([] : List Ex), m) ⟨rfl, rfl, rfl, rfl, rfl, rfl, rfl, rfl, rfl, trivial⟩ ⟨hE31, (frNilS _ 0 _).up (good_owS (good_oEx 31 6)), hF32, hF33, hF34, hF35, hF36, hB31, oM, (by exact FOk.nil _ _ _), oM, oM, oM, oM, oM, oM, oM, oM, oM, oM⟩ ?_
      clear hL21_4 hL21_3 hL21_2 hL21_1 hL21_0 hX26 hzs26 hE26 hL21_0x26 hL21_1x26 hL21_2x26 hL21_3x26 hL21_4x26 hz27 hX27 hzs27 hE27 hL21_0x27 hL21_1x27 hL21_2x27 hL21_3x27 hL21_4x27 hz31 hC31 hF32 hF33 hF34 hF35 hF36
      rintro ⟨i, vo, xs, m2⟩ ρ40 w40 ⟨hE40, hL40_0, hL40_1, hL40_2, hL40_3, hL40_4, hL40_5, hL40_6, hio, hff, hm2, hcb2, huw, hgb, huf, hkg37, hkg38, hkg39, hkB41, hkB42⟩
      have hzs40 : w.heap.size ≤ w40.heap.size := hE40.size
      have hq43 := hL40_4.lt
      have hq44 := hL40_5.lt
      have hq45 := hL40_6.lt
      refine wp_seq (wp_seq (wp_plain _ [0, 0, 0, 0, 0, 0, 2, 0] rfl (lw_tv 3 rfl (q_mul ((2 * k : Nat) : Int) rfl rfl (w64n oM oM) zN (q_add ((2 * k + 1 : Nat) : Int) rfl rfl (w64n oM oM) zN (q_idx (v := v18) (2 * k + 1) u25 ti2 rfl rfl hL40_3.isSl rfl sD zN ?_))))))
      refine q_load (p := eptr v18 (2 * k + 1) 1) (.inr rfl) (.int .i64 (cn.getD (2 * k + 1) 0)) one2 rfl (hL40_3.rd1.getI sD).1 zN ?_
      by_cases hc46 : ((i : Nat) : Int) < cn.getD (2 * k + 1) 0
      ·
        refine q_lss true rfl rfl (decide_eq_true hc46) zN (lw_nil (c_cond_t rfl (wp_skip (wp_seq (wp_block (wp_seq (wp_plain _ [0, 0, 3, 0] rfl (lw_tv 1 rfl ?_))))))))
        have hbd47 : ∀ (wq : World), (Instr.build 102 #[(0, (.pointer (some ⟨gB2, 0, none⟩))), (1, (.pointer (some ⟨w2.heap.size, 0, none⟩))), (2, (.int .i64 ((7 : Nat) : Int)))]).run Try.prog wq = .ok (.agg #[(.pointer (some ⟨gB2, 0, none⟩)), (.pointer (some ⟨w2.heap.size, 0, none⟩)), (.int .i64 ((7 : Nat) : Int)), (.bool false)]) wq := by intro wq; kernel_rfl
        refine q_build (ps := #[(0, (.pointer (some ⟨gB2, 0, none⟩))), (1, (.pointer (some ⟨w2.heap.size, 0, none⟩))), (2, (.int .i64 ((7 : Nat) : Int)))]) (.agg #[(.pointer (some ⟨gB2, 0, none⟩)), (.pointer (some ⟨w2.heap.size, 0, none⟩)), (.int .i64 ((7 : Nat) : Int)), (.bool false)]) z26_5 (fun wq => hbd47  wq) zN ?_
        have hq49 := hL40_4.lt
        have hq50 := hL40_5.lt
        have hq51 := hL40_6.lt
        refine r_boxA (cs := #[(.pointer (some ⟨gB2, 0, none⟩)), (.pointer (some ⟨w2.heap.size, 0, none⟩)), (.int .i64 ((7 : Nat) : Int)), (.bool false)]) rfl zN fun w48 hX48 hz48 hB48 => ?_
        have hzs48 : w40.heap.size ≤ w48.heap.size := hX48.size
        have hE48 : Ext w w48 := hE40.trans hX48
        have hL40_0x48 := hL40_0.ext ((good_owS (good_oEx 31 6))) hX48
        have hL40_1x48 := hL40_1.ext ((good_owS (good_oFn 31 6))) hX48
        have hL40_2x48 := hL40_2.ext hX48
        have hL40_3x48 := hL40_3.ext (o1) hX48
        have hL40_4x48 := hL40_4.ext hX48
        have hL40_5x48 := hL40_5.ext hX48
        have hL40_6x48 := hL40_6.ext hX48
        replace hB48 : BX w48.heap w40.heap.size [(.pointer (some ⟨gB2, 0, none⟩)), (.pointer (some ⟨w2.heap.size, 0, none⟩)), (.int .i64 ((7 : Nat) : Int)), (.bool false)] := hB48
        refine lw_tvn 1 rfl ?_
        letI : JR := jrC [gB2, w40.heap.size]
        refine Jx.wp_draw _ [0, 1, 0, 0, 1, 0, 3, 3, 4, 0, 4] mixed (by kernel_rfl) (Jx.q_fldP (p := (.pointer (some ⟨w26.heap.size, 0, none⟩))) (b := w26.heap.size) (o := 0) 2 fd34_2 rfl rfl zN (Jx.q_loadJ (p := (padd (.pointer (some ⟨w26.heap.size, 0, none⟩)) 2)) vo one29 rfl (fun wj hj => (BX.chg (w := w48.drew) (F := [gB2, w40.heap.size]) hL40_6x48 hj (fun hm => by have := mem2 hm; omega)).ldp (i := 2) sM) zN (Jx.q_move (.pointer (some ⟨w40.heap.size, 0, none⟩)) rfl zN (Jx.q_fldP (p := (.pointer (some ⟨w26.heap.size, 0, none⟩))) (b := w26.heap.size) (o := 0) 1 fd34_1 rfl rfl zN ?_))))
        refine Jx.q_loadJ (p := (padd (.pointer (some ⟨w26.heap.size, 0, none⟩)) 1)) (.int .i64 (cn.getD (2 * k) 0)) one2 rfl (fun wj hj => (BX.chg (w := w48.drew) (F := [gB2, w40.heap.size]) hL40_6x48 hj (fun hm => by have := mem2 hm; omega)).ldp (i := 1) sM) zN (Jx.q_move (.int .i64 ((k : Nat) : Int)) rfl zN ?_)
        refine Jx.lw_call 70 [] [] [(.pointer (some ⟨w40.heap.size, 0, none⟩)), (.int .i64 (cn.getD (2 * k) 0)), (.int .i64 ((k : Nat) : Int)), (.int .i64 ((4 : Nat) : Int))] rfl rfl cf70 zN (GX_any 4 _ w40.heap.size gB2 vc cs m2 (.pointer (some ⟨w2.heap.size, 0, none⟩)) 6 ((7 : Nat) : Int) false ps (cn.getD (2 * k) 0) (((k : Nat) : Int)) oM hL40_2x48 hB48 (RN.box hL40_5x48 (RP.mk' (RN.of_frF2 hL40_1x48 (fun b hb => by have := mem2 hb; omega))) (fun hb => by have := mem2 hb; omega)) oM oM oM oM (by exact hdp.gpr) oM oM oM) ?_
        rintro e52 w52 ⟨v52, x52, n52, l52, rfl, hC52, hs52, hb52, hB52, hO52, hr52, hG52⟩
        refine ⟨_, rfl, hC52, ?_⟩
        replace hO52 := hO52.low (B' := w48.heap.size) (Nat.le_refl _)
        replace hC52 := hC52.of_drew
        have hzs52 : w48.heap.size ≤ w52.heap.size := hC52.size
        have hE52 : Ext w w52 := hC52.below hE48 (fun c hc => by have := mem2 hc; omega) hE48.size
        have hF53 := hL40_0x48.chg ((good_owS (good_oEx 31 6))) hC52 (fun c hc => by have := mem2 hc; omega)
        have hF54 := hL40_1x48.chg ((good_owS (good_oFn 31 6))) hC52 (fun c hc => by have := mem2 hc; omega)
        have hF55 := hL40_3x48.chg (o1) hC52 (fun c hc => by have := mem2 hc; omega)
        have hF56 := hL40_4x48.chg hC52 (fun hm => by have := mem2 hm; omega)
        have hF57 := hL40_5x48.chg hC52 (fun hm => by have := mem2 hm; omega)
        have hF58 := hL40_6x48.chg hC52 (fun hm => by have := mem2 hm; omega)
        refine Jx.tail rfl (r_oneS (cs := [(.int .i64 x52.kind), (.int .i64 x52.num), (.int .i64 x52.pick), (.int .i64 x52.count), v52]) (y := x52) (B := w48.heap.size) (good_oEx 31 6) u29 tiS31 rfl z26_6 rfl (FrN.le (FrN.mk1 (d := 5) oM hr52 hO52) oM) oM zN fun v59 w59 hX59 hz59 hO59 => ?_)
        have hzs59 : w52.heap.size ≤ w59.heap.size := hX59.size
        have hE59 : Ext w w59 := hE52.trans hX59
        have hF53x59 := hF53.ext ((good_owS (good_oEx 31 6))) hX59
        have hF54x59 := hF54.ext ((good_owS (good_oFn 31 6))) hX59
        have hs52x59 := hs52.ext hX59
        have hF55x59 := hF55.ext (o1) hX59
        have hF56x59 := hF56.ext hX59
        have hF57x59 := hF57.ext hX59
        have hF58x59 := hF58.ext hX59
        have hB52x59 := hB52.ext hX59
        refine e_appS (v := vo) (a := v59) (good_oEx 31 6) u29 tiS31 rfl z26_6 rfl rfl hF53x59 oM hO59 oM oM (by have := hff.len; omega) (by have := hff.len; unfold maxLen; omega) zN fun v60 w60 F60 hC60 hF60 hO60 => ?_
        have hzs60 : w59.heap.size ≤ w60.heap.size := hC60.size
        have hE60 : Ext w w60 := hC60.below hE59 (fun c hc => by have := hF60 _ hc; omega) hE59.size
        have hF61 := hF54x59.chg ((good_owS (good_oFn 31 6))) hC60 (fun c hc => by have := hF60 _ hc; omega)
        have hF62 := hs52x59.chg hC60 (fun c hc => by have := hF60 _ hc; omega)
        have hF63 := hF55x59.chg (o1) hC60 (fun c hc => by have := hF60 _ hc; omega)
        have hF64 := hF56x59.chg hC60 (fun hm => by have := hF60 _ hm; omega)
        have hF65 := hF57x59.chg hC60 (fun hm => by have := hF60 _ hm; omega)
        have hF66 := hF58x59.chg hC60 (fun hm => by have := hF60 _ hm; omega)
        have hF67 := hB52x59.chg hC60 (fun hm => by have := hF60 _ hm; omega)
        refine q_fldP (p := (.pointer (some ⟨w26.heap.size, 0, none⟩))) (b := w26.heap.size) (o := 0) 2 fd34_2 rfl rfl zN (e_setB (k := 2) (w := w60) sz29 rfl rfl (isSl_one hO60.isSlS) hF66 sM zN fun w68 hC68 hz68 hB68 => ?_)
        replace hB68 : BX w68.heap w26.heap.size [(.string (⟨#[99]⟩ ++ dig k)), (.int .i64 (cn.getD (2 * k) 0)), v60] := hB68
        have hzs68 : w60.heap.size ≤ w68.heap.size := hC68.size
        have hE68 : Ext w w68 := hC68.below hE60 (fun c hc => by have := List.mem_singleton.1 hc; omega) hE60.size
        have hF69 := hF61.chg ((good_owS (good_oFn 31 6))) hC68 (fun c hc => by have := List.mem_singleton.1 hc; omega)
        have hF70 := hF62.chg hC68 (fun c hc => by have := List.mem_singleton.1 hc; omega)
        have hF71 := hF63.chg (o1) hC68 (fun c hc => by have := List.mem_singleton.1 hc; omega)
        have hF72 := hF64.chg hC68 (fun hm => by have := List.mem_singleton.1 hm; omega)
        have hF73 := hF65.chg hC68 (fun hm => by have := List.mem_singleton.1 hm; omega)
        have hF74 := hF67.chg hC68 (fun hm => by have := List.mem_singleton.1 hm; omega)
        have hF75 := hO60.chg ((good_owS (good_oEx 31 6))) hC68 (fun c hc => by have := List.mem_singleton.1 hc; omega)
        exact lw_nil (wp_plain _ [0, 0, 0] rfl (lw_tv 1 rfl (q_add ((i + 1 : Nat) : Int) rfl rfl (w64n oM oM) zN (lw_tvn 1 rfl ⟨((i + 1), v60, (xs ++ [x52]), n52), _, rfl, ⟨rfl, rfl, rfl, rfl, rfl, rfl, rfl, rfl, rfl, trivial⟩, ⟨hE68, hF75.up (good_owS (good_oEx 31 6)), hF69, hF70, hF71, hF72, hF73, hB68, oM, z26_4, oM, oM, oM, oM, oM, oM, oM, oM, oM, oM⟩, by first | omega | (dsimp only; omega)⟩))))
      ·
        refine q_lss false rfl rfl (decide_eq_false hc46) zN (lw_nil (c_cond_f rfl (wp_exit (t_exit (t_exit (c_exit_here (wp_plain _ [0, 2, 2, 3, 4, 0, 4] rfl (q_fldP (p := (.pointer (some ⟨w2.heap.size, 0, none⟩))) (b := w2.heap.size) (o := 0) 0 fd37_0 rfl rfl zN (q_load (p := (padd (.pointer (some ⟨w2.heap.size, 0, none⟩)) 0)) (.inr rfl) vp one35 rfl (hL40_5.ldp (i := 0) sM) zN (q_loadA (p := (.pointer (some ⟨w26.heap.size, 0, none⟩))) (.inr rfl) [(.string (⟨#[99]⟩ ++ dig k)), (.int .i64 (cn.getD (2 * k) 0)), vo] agg34 rfl (fun wq9 hw9 => LD.of_box (BX.ext (w := w40) hL40_6 hw9)) rfl zN ?_))))))))))
        refine r_oneS (cs := [(.string (⟨#[99]⟩ ++ dig k)), (.int .i64 (cn.getD (2 * k) 0)), vo]) (y := (Fn.mk (⟨#[99]⟩ ++ dig k) (cn.getD (2 * k) 0) xs)) (B := w31.heap.size) (good_oFn 31 6) u35 tiS34 rfl z26_6 rfl (FrN.mkF (x := ⟨(⟨#[99]⟩ ++ dig k), (cn.getD (2 * k) 0), xs⟩) (i64_mk (a := (cn.getD (2 * k) 0)) oM) hL40_0) oM zN fun v76 w76 hX76 hz76 hO76 => ?_
        have hzs76 : w40.heap.size ≤ w76.heap.size := hX76.size
        have hE76 : Ext w w76 := hE40.trans hX76
        have hL40_1x76 := hL40_1.ext ((good_owS (good_oFn 31 6))) hX76
        have hL40_2x76 := hL40_2.ext hX76
        have hL40_3x76 := hL40_3.ext (o1) hX76
        have hL40_4x76 := hL40_4.ext hX76
        have hL40_5x76 := hL40_5.ext hX76
        have hL40_6x76 := hL40_6.ext hX76
        refine e_appS (v := vp) (a := v76) (good_oFn 31 6) u35 tiS34 rfl z26_6 rfl rfl hL40_1x76 oM hO76 oM oM oM (by unfold maxLen; omega) zN fun v77 w77 F77 hC77 hF77 hO77 => ?_
        have hzs77 : w76.heap.size ≤ w77.heap.size := hC77.size
        have hE77 : Ext w w77 := hC77.below hE76 (fun c hc => by have := hF77 _ hc; omega) hE76.size
        have hF78 := hL40_2x76.chg hC77 (fun c hc => by have := hF77 _ hc; omega)
        have hF79 := hL40_3x76.chg (o1) hC77 (fun c hc => by have := hF77 _ hc; omega)
        have hF80 := hL40_4x76.chg hC77 (fun hm => by have := hF77 _ hm; omega)
        have hF81 := hL40_5x76.chg hC77 (fun hm => by have := hF77 _ hm; omega)
        have hF82 := hL40_6x76.chg hC77 (fun hm => by have := hF77 _ hm; omega)
        refine q_fldP (p := (.pointer (some ⟨w2.heap.size, 0, none⟩))) (b := w2.heap.size) (o := 0) 0 fd37_0 rfl rfl zN (e_setB (k := 0) (w := w77) sz35 rfl rfl (isSl_one hO77.isSlS) hF81 sM zN fun w83 hC83 hz83 hB83 => ?_)
        replace hB83 : BX w83.heap w2.heap.size [v77] := hB83
        have hzs83 : w77.heap.size ≤ w83.heap.size := hC83.size
        have hE83 : Ext w w83 := hC83.below hE77 (fun c hc => by have := List.mem_singleton.1 hc; omega) hE77.size
        have hF84 := hF78.chg hC83 (fun c hc => by have := List.mem_singleton.1 hc; omega)
        have hF85 := hF79.chg (o1) hC83 (fun c hc => by have := List.mem_singleton.1 hc; omega)
        have hF86 := hF80.chg hC83 (fun hm => by have := List.mem_singleton.1 hm; omega)
        have hF87 := hF82.chg hC83 (fun hm => by have := List.mem_singleton.1 hm; omega)
        have hF88 := hO77.chg ((good_owS (good_oFn 31 6))) hC83 (fun c hc => by have := List.mem_singleton.1 hc; omega)
        refine lw_nil (wp_plain _ [0, 0, 0] rfl (lw_tv 1 rfl (q_add ((k + 1 : Nat) : Int) rfl rfl (w64n oM oM) zN (lw_tvn 1 rfl ?_))))
        exact ⟨((k + 1), v77, (ps ++ [(Fn.mk (⟨#[99]⟩ ++ dig k) (cn.getD (2 * k) 0) xs)]), m2), _, rfl, ⟨rfl, rfl, rfl, rfl, rfl, rfl, rfl, trivial⟩, ⟨hE83, hF88.up (good_owS (good_oFn 31 6)), hF84, hF85, hF86, hB83, oM, oM, z26_0, z26_1, (by rw [List.length_append, hpk]; rfl), oM, z26_2, oM, oM, oM⟩, by first | omega | (dsimp only; omega)⟩
    ·
      refine lw_tv 1 rfl ?_
      have hq90 := hL21_3.lt
      have hq91 := hL21_4.lt
      have hdr89 : w21.drew.heap.size = w21.heap.size := rfl
      refine r_allocA (z := .agg #[.string ByteArray.empty, .int .i64 0, .slice none 0 0]) zr34 zN fun w89 hX89 hz89 hB89 => ?_
      replace hX89 := hX89.of_drew
      have hzs89 : w21.heap.size ≤ w89.heap.size := hX89.size
      have hE89 : Ext w w89 := hE21.trans hX89
      have hL21_0x89 := hL21_0.ext ((good_owS (good_oFn 31 6))) hX89
      have hL21_1x89 := hL21_1.ext hX89
      have hL21_2x89 := hL21_2.ext (o1) hX89
      have hL21_3x89 := hL21_3.ext hX89
      have hL21_4x89 := hL21_4.ext hX89
      replace hB89 : BX w89.heap w21.drew.heap.size [(.string ByteArray.empty), (.int .i64 0), (.slice none 0 0)] := hB89
      refine lw_call 69 [] [] [(.int .i64 ((k : Nat) : Int))] rfl rfl cf69 zN (c_spec_Decimal _ (((k : Nat) : Int)) oM oM) ?_
      rintro e92 w92 ⟨st92, rfl, hX92, rfl⟩
      refine ⟨_, rfl, hX92, ?_⟩
      have hzs92 : w89.heap.size ≤ w92.heap.size := hX92.size
      have hE92 : Ext w w92 := hE89.trans hX92
      have hL21_0x92 := hL21_0x89.ext ((good_owS (good_oFn 31 6))) hX92
      have hL21_1x92 := hL21_1x89.ext hX92
      have hL21_2x92 := hL21_2x89.ext (o1) hX92
      have hL21_3x92 := hL21_3x89.ext hX92
      have hL21_4x92 := hL21_4x89.ext hX92
      have hB89x92 := hB89.ext hX92
      refine q_adds (a := ⟨#[99]⟩) (b := dig k) rfl rfl (by have := dig_size k; show 1 + _ ≤ _; omega) zN (lw_tv 2 rfl (q_mul ((2 * k : Nat) : Int) rfl rfl (w64n oM oM) zN (q_idx (v := v18) (2 * k) u25 ti2 rfl rfl hL21_2x92.isSl rfl sD zN ?_)))
      refine q_load (p := eptr v18 (2 * k) 1) (.inl rfl) (.int .i64 (cn.getD (2 * k) 0)) one2 rfl (hL21_2.rd1.getI sD).1 zN ?_
      have hbd93 : ∀ (wq : World), (Instr.build 34 #[(0, (.string (⟨#[99]⟩ ++ dig k))), (1, (.int .i64 (cn.getD (2 * k) 0)))]).run Try.prog wq = .ok (.agg #[(.string (⟨#[99]⟩ ++ dig k)), (.int .i64 (cn.getD (2 * k) 0)), (.slice none 0 0)]) wq := by intro wq; kernel_rfl
      refine q_build (ps := #[(0, (.string (⟨#[99]⟩ ++ dig k))), (1, (.int .i64 (cn.getD (2 * k) 0)))]) (.agg #[(.string (⟨#[99]⟩ ++ dig k)), (.int .i64 (cn.getD (2 * k) 0)), (.slice none 0 0)]) z26_5 (fun wq => hbd93  wq) zN (e_setA (vs := [(.string (⟨#[99]⟩ ++ dig k)), (.int .i64 (cn.getD (2 * k) 0)), (.slice none 0 0)]) agg34 rfl rfl z26_3 hB89x92 rfl rfl zN fun w94 hC94 hz94 hB94 => ?_)
      replace hB94 : BX w94.heap w21.drew.heap.size [(.string (⟨#[99]⟩ ++ dig k)), (.int .i64 (cn.getD (2 * k) 0)), (.slice none 0 0)] := hB94
      have hzs94 : w92.heap.size ≤ w94.heap.size := hC94.size
      have hE94 : Ext w w94 := hC94.below hE92 (fun c hc => by have := List.mem_singleton.1 hc; omega) hE92.size
      have hF95 := hL21_0x92.chg ((good_owS (good_oFn 31 6))) hC94 (fun c hc => by have := List.mem_singleton.1 hc; omega)
      have hF96 := hL21_1x92.chg hC94 (fun c hc => by have := List.mem_singleton.1 hc; omega)
      have hF97 := hL21_2x92.chg (o1) hC94 (fun c hc => by have := List.mem_singleton.1 hc; omega)
      have hF98 := hL21_3x92.chg hC94 (fun hm => by have := List.mem_singleton.1 hm; omega)
      have hF99 := hL21_4x92.chg hC94 (fun hm => by have := List.mem_singleton.1 hm; omega)
      refine lw_nil (wp_seq (wp_seq (wp_plain _ [0] rfl ?_)))
      have hca := hcr (2 * k) oM
      have hcb := hcr (2 * k + 1) oM
      refine lw_tvn 1 rfl (wp_block ?_)
      refine c_loop (S := Nat × Value × List Ex × Nat) (fun (⟨i, vo, xs, m2⟩ : Nat × Value × List Ex × Nat) => ([(11, (.int .i64 ((i : Nat) : Int))), (2, (.pointer (some ⟨w.heap.size, 0, none⟩))), (4, (.pointer (some ⟨gB2, 0, none⟩))), (5, (.pointer (some ⟨w2.heap.size, 0, none⟩))), (6, (.int .i64 pa)), (7, (.int .i64 mi)), (8, v18), (9, (.int .i64 ((k : Nat) : Int))), (10, (.pointer (some ⟨w21.drew.heap.size, 0, none⟩)))] : List (Nat × Value))) (fun (⟨i, vo, xs, m2⟩ : Nat × Value × List Ex × Nat) (W : World) => Ext w W ∧ Fr (owS 5 (oEx 31 6) 31) w94.heap.size W.heap.size W.heap vo xs ∧ Fr (owS 3 (oFn 31 6) 34) w18.heap.size w21.heap.size W.heap vp ps ∧ Src W.heap gB2 vc cs m2 ∧ Fr (owL rI 2) w15.heap.size w18.heap.size W.heap v18 cn ∧ BX W.heap w.heap.size [(.slice none 0 0)] ∧ BX W.heap w2.heap.size [vp] ∧ BX W.heap w21.drew.heap.size [(.string (⟨#[99]⟩ ++ dig k)), (.int .i64 (cn.getD (2 * k) 0)), vo] ∧ ((i : Nat) : Int) ≤ cn.getD (2 * k + 1) 0 ∧ FOk ps (cn.getD (2 * k) 0) false xs i ∧ m2 ≤ 100 + 60000 * k + 12000 * i ∧ (gB2 < w15.heap.size ∧ w2.heap.size < w15.heap.size ∧ w18.heap.size ≤ w94.heap.size ∧ w.heap.size < gB2 ∧ gB2 < w2.heap.size) ∧ w21.heap.size ≤ w94.heap.size ∧ (gB2 < w18.heap.size ∧ w.heap.size ≤ w18.heap.size ∧ w.heap.size < gB2) ∧ w21.heap.size ≤ w21.drew.heap.size ∧ w.heap.size < w94.heap.size ∧ w2.heap.size < w94.heap.size ∧ w21.drew.heap.size < w94.heap.size ∧ w94.heap.size ≤ W.heap.size ∧ w18.heap.size ≤ W.heap.size) (fun (⟨i, vo, xs, m2⟩ : Nat × Value × List Ex × Nat) => (cn.getD (2 * k + 1) 0).toNat - i) (0, (.slice none 0 0), ([] : List Ex), m) ⟨rfl, rfl, rfl, rfl, rfl, rfl, rfl, rfl, rfl, trivial⟩ ⟨hE94, (frNilS _ 0 _).up (good_owS (good_oEx 31 6)), hF95, hF96, hF97, hF98, hF99, hB94, oM, (by exact FOk.nil _ _ _), oM, oM, oM, oM, oM, oM, oM, oM, oM, oM⟩ ?_
      clear hL21_4 hL21_3 hL21_2 hL21_1 hL21_0 hz89 hX89 hzs89 hE89 hL21_0x89 hL21_1x89 hL21_2x89 hL21_3x89 hL21_4x89 hX92 hzs92 hE92 hL21_0x92 hL21_1x92 hL21_2x92 hL21_3x92 hL21_4x92 hz94 hC94 hF95 hF96 hF97 hF98 hF99
      rintro ⟨i, vo, xs, m2⟩ ρ103 w103 ⟨hE103, hL103_0, hL103_1, hL103_2, hL103_3, hL103_4, hL103_5, hL103_6, hio, hff, hm2, hcb2, huw, hgb, huf, hkg100, hkg101, hkg102, hkB104, hkB105⟩
      have hzs103 : w.heap.size ≤ w103.heap.size := hE103.size
      have hq106 := hL103_4.lt
      have hq107 := hL103_5.lt
      have hq108 := hL103_6.lt
      refine wp_seq (wp_seq (wp_plain _ [0, 0, 0, 0, 0, 0, 2, 0] rfl (lw_tv 3 rfl (q_mul ((2 * k : Nat) : Int) rfl rfl (w64n oM oM) zN (q_add ((2 * k + 1 : Nat) : Int) rfl rfl (w64n oM oM) zN (q_idx (v := v18) (2 * k + 1) u25 ti2 rfl rfl hL103_3.isSl rfl sD zN ?_))))))
      refine q_load (p := eptr v18 (2 * k + 1) 1) (.inr rfl) (.int .i64 (cn.getD (2 * k + 1) 0)) one2 rfl (hL103_3.rd1.getI sD).1 zN ?_
      by_cases hc109 : ((i : Nat) : Int) < cn.getD (2 * k + 1) 0
      ·
        refine q_lss true rfl rfl (decide_eq_true hc109) zN (lw_nil (c_cond_t rfl (wp_skip (wp_seq (wp_block (wp_seq (wp_plain _ [0, 0, 3, 0] rfl (lw_tv 1 rfl ?_))))))))
        have hbd110 : ∀ (wq : World), (Instr.build 102 #[(0, (.pointer (some ⟨gB2, 0, none⟩))), (1, (.pointer (some ⟨w2.heap.size, 0, none⟩))), (2, (.int .i64 ((7 : Nat) : Int)))]).run Try.prog wq = .ok (.agg #[(.pointer (some ⟨gB2, 0, none⟩)), (.pointer (some ⟨w2.heap.size, 0, none⟩)), (.int .i64 ((7 : Nat) : Int)), (.bool false)]) wq := by intro wq; kernel_rfl
        refine q_build (ps := #[(0, (.pointer (some ⟨gB2, 0, none⟩))), (1, (.pointer (some ⟨w2.heap.size, 0, none⟩))), (2, (.int .i64 ((7 : Nat) : Int)))]) (.agg #[(.pointer (some ⟨gB2, 0, none⟩)), (.pointer (some ⟨w2.heap.size, 0, none⟩)), (.int .i64 ((7 : Nat) : Int)), (.bool false)]) z26_5 (fun wq => hbd110  wq) zN ?_
        have hq112 := hL103_4.lt
        have hq113 := hL103_5.lt
        have hq114 := hL103_6.lt
        refine r_boxA (cs := #[(.pointer (some ⟨gB2, 0, none⟩)), (.pointer (some ⟨w2.heap.size, 0, none⟩)), (.int .i64 ((7 : Nat) : Int)), (.bool false)]) rfl zN fun w111 hX111 hz111 hB111 => ?_
        have hzs111 : w103.heap.size ≤ w111.heap.size := hX111.size
        have hE111 : Ext w w111 := hE103.trans hX111
        have hL103_0x111 := hL103_0.ext ((good_owS (good_oEx 31 6))) hX111
        have hL103_1x111 := hL103_1.ext ((good_owS (good_oFn 31 6))) hX111
        have hL103_2x111 := hL103_2.ext hX111
        have hL103_3x111 := hL103_3.ext (o1) hX111
        have hL103_4x111 := hL103_4.ext hX111
        have hL103_5x111 := hL103_5.ext hX111
        have hL103_6x111 := hL103_6.ext hX111
        replace hB111 : BX w111.heap w103.heap.size [(.pointer (some ⟨gB2, 0, none⟩)), (.pointer (some ⟨w2.heap.size, 0, none⟩)), (.int .i64 ((7 : Nat) : Int)), (.bool false)] := hB111
        refine lw_tvn 1 rfl ?_
        letI : JR := jrC [gB2, w103.heap.size]
        refine Jx.wp_draw _ [0, 1, 0, 0, 1, 0, 3, 3, 4, 0, 4] mixed (by kernel_rfl) (Jx.q_fldP (p := (.pointer (some ⟨w21.drew.heap.size, 0, none⟩))) (b := w21.drew.heap.size) (o := 0) 2 fd34_2 rfl rfl zN (Jx.q_loadJ (p := (padd (.pointer (some ⟨w21.drew.heap.size, 0, none⟩)) 2)) vo one29 rfl (fun wj hj => (BX.chg (w := w111.drew) (F := [gB2, w103.heap.size]) hL103_6x111 hj (fun hm => by have := mem2 hm; omega)).ldp (i := 2) sM) zN (Jx.q_move (.pointer (some ⟨w103.heap.size, 0, none⟩)) rfl zN (Jx.q_fldP (p := (.pointer (some ⟨w21.drew.heap.size, 0, none⟩))) (b := w21.drew.heap.size) (o := 0) 1 fd34_1 rfl rfl zN ?_))))
        refine Jx.q_loadJ (p := (padd (.pointer (some ⟨w21.drew.heap.size, 0, none⟩)) 1)) (.int .i64 (cn.getD (2 * k) 0)) one2 rfl (fun wj hj => (BX.chg (w := w111.drew) (F := [gB2, w103.heap.size]) hL103_6x111 hj (fun hm => by have := mem2 hm; omega)).ldp (i := 1) sM) zN (Jx.q_move (.int .i64 ((k : Nat) : Int)) rfl zN ?_)
        refine Jx.lw_call 70 [] [] [(.pointer (some ⟨w103.heap.size, 0, none⟩)), (.int .i64 (cn.getD (2 * k) 0)), (.int .i64 ((k : Nat) : Int)), (.int .i64 ((4 : Nat) : Int))] rfl rfl cf70 zN (GX_any 4 _ w103.heap.size gB2 vc cs m2 (.pointer (some ⟨w2.heap.size, 0, none⟩)) 6 ((7 : Nat) : Int) false ps (cn.getD (2 * k) 0) (((k : Nat) : Int)) oM hL103_2x111 hB111 (RN.box hL103_5x111 (RP.mk' (RN.of_frF2 hL103_1x111 (fun b hb => by have := mem2 hb; omega))) (fun hb => by have := mem2 hb; omega)) oM oM oM oM (by exact hdp.gpr) oM oM oM) ?_
        rintro e115 w115 ⟨v115, x115, n115, l115, rfl, hC115, hs115, hb115, hB115, hO115, hr115, hG115⟩
        refine ⟨_, rfl, hC115, ?_⟩
        replace hO115 := hO115.low (B' := w111.heap.size) (Nat.le_refl _)
        replace hC115 := hC115.of_drew
        have hzs115 : w111.heap.size ≤ w115.heap.size := hC115.size
        have hE115 : Ext w w115 := hC115.below hE111 (fun c hc => by have := mem2 hc; omega) hE111.size
        have hF116 := hL103_0x111.chg ((good_owS (good_oEx 31 6))) hC115 (fun c hc => by have := mem2 hc; omega)
        have hF117 := hL103_1x111.chg ((good_owS (good_oFn 31 6))) hC115 (fun c hc => by have := mem2 hc; omega)
        have hF118 := hL103_3x111.chg (o1) hC115 (fun c hc => by have := mem2 hc; omega)
        have hF119 := hL103_4x111.chg hC115 (fun hm => by have := mem2 hm; omega)
        have hF120 := hL103_5x111.chg hC115 (fun hm => by have := mem2 hm; omega)
        have hF121 := hL103_6x111.chg hC115 (fun hm => by have := mem2 hm; omega)
        refine Jx.tail rfl (r_oneS (cs := [(.int .i64 x115.kind), (.int .i64 x115.num), (.int .i64 x115.pick), (.int .i64 x115.count), v115]) (y := x115) (B := w111.heap.size) (good_oEx 31 6) u29 tiS31 rfl z26_6 rfl (FrN.le (FrN.mk1 (d := 5) oM hr115 hO115) oM) oM zN fun v122 w122 hX122 hz122 hO122 => ?_)
        have hzs122 : w115.heap.size ≤ w122.heap.size := hX122.size
        have hE122 : Ext w w122 := hE115.trans hX122
        have hF116x122 := hF116.ext ((good_owS (good_oEx 31 6))) hX122
        have hF117x122 := hF117.ext ((good_owS (good_oFn 31 6))) hX122
        have hs115x122 := hs115.ext hX122
        have hF118x122 := hF118.ext (o1) hX122
        have hF119x122 := hF119.ext hX122
        have hF120x122 := hF120.ext hX122
        have hF121x122 := hF121.ext hX122
        have hB115x122 := hB115.ext hX122
        refine e_appS (v := vo) (a := v122) (good_oEx 31 6) u29 tiS31 rfl z26_6 rfl rfl hF116x122 oM hO122 oM oM (by have := hff.len; omega) (by have := hff.len; unfold maxLen; omega) zN fun v123 w123 F123 hC123 hF123 hO123 => ?_
        have hzs123 : w122.heap.size ≤ w123.heap.size := hC123.size
        have hE123 : Ext w w123 := hC123.below hE122 (fun c hc => by have := hF123 _ hc; omega) hE122.size
        have hF124 := hF117x122.chg ((good_owS (good_oFn 31 6))) hC123 (fun c hc => by have := hF123 _ hc; omega)
        have hF125 := hs115x122.chg hC123 (fun c hc => by have := hF123 _ hc; omega)
        have hF126 := hF118x122.chg (o1) hC123 (fun c hc => by have := hF123 _ hc; omega)
        have hF127 := hF119x122.chg hC123 (fun hm => by have := hF123 _ hm; omega)
        have hF128 := hF120x122.chg hC123 (fun hm => by have := hF123 _ hm; omega)
        have hF129 := hF121x122.chg hC123 (fun hm => by have := hF123 _ hm; omega)
        have hF130 := hB115x122.chg hC123 (fun hm => by have := hF123 _ hm; omega)
        refine q_fldP (p := (.pointer (some ⟨w21.drew.heap.size, 0, none⟩))) (b := w21.drew.heap.size) (o := 0) 2 fd34_2 rfl rfl zN (e_setB (k := 2) (w := w123) sz29 rfl rfl (isSl_one hO123.isSlS) hF129 sM zN fun w131 hC131 hz131 hB131 => ?_)
        replace hB131 : BX w131.heap w21.drew.heap.size [(.string (⟨#[99]⟩ ++ dig k)), (.int .i64 (cn.getD (2 * k) 0)), v123] := hB131
        have hzs131 : w123.heap.size ≤ w131.heap.size := hC131.size
        have hE131 : Ext w w131 := hC131.below hE123 (fun c hc => by have := List.mem_singleton.1 hc; omega) hE123.size
        have hF132 := hF124.chg ((good_owS (good_oFn 31 6))) hC131 (fun c hc => by have := List.mem_singleton.1 hc; omega)
        have hF133 := hF125.chg hC131 (fun c hc => by have := List.mem_singleton.1 hc; omega)
        have hF134 := hF126.chg (o1) hC131 (fun c hc => by have := List.mem_singleton.1 hc; omega)
        have hF135 := hF127.chg hC131 (fun hm => by have := List.mem_singleton.1 hm; omega)
        have hF136 := hF128.chg hC131 (fun hm => by have := List.mem_singleton.1 hm; omega)
        have hF137 := hF130.chg hC131 (fun hm => by have := List.mem_singleton.1 hm; omega)
        have hF138 := hO123.chg ((good_owS (good_oEx 31 6))) hC131 (fun c hc => by have := List.mem_singleton.1 hc; omega)
        exact lw_nil (wp_plain _ [0, 0, 0] rfl (lw_tv 1 rfl (q_add ((i + 1 : Nat) : Int) rfl rfl (w64n oM oM) zN (lw_tvn 1 rfl ⟨((i + 1), v123, (xs ++ [x115]), n115), _, rfl, ⟨rfl, rfl, rfl, rfl, rfl, rfl, rfl, rfl, rfl, trivial⟩, ⟨hE131, hF138.up (good_owS (good_oEx 31 6)), hF132, hF133, hF134, hF135, hF136, hB131, oM, z26_4, oM, oM, oM, oM, oM, oM, oM, oM, oM, oM⟩, by first | omega | (dsimp only; omega)⟩))))
      ·
        refine q_lss false rfl rfl (decide_eq_false hc109) zN (lw_nil (c_cond_f rfl (wp_exit (t_exit (t_exit (c_exit_here (wp_plain _ [0, 2, 2, 3, 4, 0, 4] rfl (q_fldP (p := (.pointer (some ⟨w2.heap.size, 0, none⟩))) (b := w2.heap.size) (o := 0) 0 fd37_0 rfl rfl zN (q_load (p := (padd (.pointer (some ⟨w2.heap.size, 0, none⟩)) 0)) (.inr rfl) vp one35 rfl (hL103_5.ldp (i := 0) sM) zN (q_loadA (p := (.pointer (some ⟨w21.drew.heap.size, 0, none⟩))) (.inr rfl) [(.string (⟨#[99]⟩ ++ dig k)), (.int .i64 (cn.getD (2 * k) 0)), vo] agg34 rfl (fun wq9 hw9 => LD.of_box (BX.ext (w := w103) hL103_6 hw9)) rfl zN ?_))))))))))
        refine r_oneS (cs := [(.string (⟨#[99]⟩ ++ dig k)), (.int .i64 (cn.getD (2 * k) 0)), vo]) (y := (Fn.mk (⟨#[99]⟩ ++ dig k) (cn.getD (2 * k) 0) xs)) (B := w94.heap.size) (good_oFn 31 6) u35 tiS34 rfl z26_6 rfl (FrN.mkF (x := ⟨(⟨#[99]⟩ ++ dig k), (cn.getD (2 * k) 0), xs⟩) (i64_mk (a := (cn.getD (2 * k) 0)) oM) hL103_0) oM zN fun v139 w139 hX139 hz139 hO139 => ?_
        have hzs139 : w103.heap.size ≤ w139.heap.size := hX139.size
        have hE139 : Ext w w139 := hE103.trans hX139
        have hL103_1x139 := hL103_1.ext ((good_owS (good_oFn 31 6))) hX139
        have hL103_2x139 := hL103_2.ext hX139
        have hL103_3x139 := hL103_3.ext (o1) hX139
        have hL103_4x139 := hL103_4.ext hX139
        have hL103_5x139 := hL103_5.ext hX139
        have hL103_6x139 := hL103_6.ext hX139
        refine e_appS (v := vp) (a := v139) (good_oFn 31 6) u35 tiS34 rfl z26_6 rfl rfl hL103_1x139 oM hO139 oM oM oM (by unfold maxLen; omega) zN fun v140 w140 F140 hC140 hF140 hO140 => ?_
        have hzs140 : w139.heap.size ≤ w140.heap.size := hC140.size
        have hE140 : Ext w w140 := hC140.below hE139 (fun c hc => by have := hF140 _ hc; omega) hE139.size
        have hF141 := hL103_2x139.chg hC140 (fun c hc => by have := hF140 _ hc; omega)
        have hF142 := hL103_3x139.chg (o1) hC140 (fun c hc => by have := hF140 _ hc; omega)
        have hF143 := hL103_4x139.chg hC140 (fun hm => by have := hF140 _ hm; omega)
        have hF144 := hL103_5x139.chg hC140 (fun hm => by have := hF140 _ hm; omega)
        have hF145 := hL103_6x139.chg hC140 (fun hm => by have := hF140 _ hm; omega)
        refine q_fldP (p := (.pointer (some ⟨w2.heap.size, 0, none⟩))) (b := w2.heap.size) (o := 0) 0 fd37_0 rfl rfl zN (e_setB (k := 0) (w := w140) sz35 rfl rfl (isSl_one hO140.isSlS) hF144 sM zN fun w146 hC146 hz146 hB146 => ?_)
        replace hB146 : BX w146.heap w2.heap.size [v140] := hB146
        have hzs146 : w140.heap.size ≤ w146.heap.size := hC146.size
        have hE146 : Ext w w146 := hC146.below hE140 (fun c hc => by have := List.mem_singleton.1 hc; omega) hE140.size
        have hF147 := hF141.chg hC146 (fun c hc => by have := List.mem_singleton.1 hc; omega)
        have hF148 := hF142.chg (o1) hC146 (fun c hc => by have := List.mem_singleton.1 hc; omega)
        have hF149 := hF143.chg hC146 (fun hm => by have := List.mem_singleton.1 hm; omega)
        have hF150 := hF145.chg hC146 (fun hm => by have := List.mem_singleton.1 hm; omega)
        have hF151 := hO140.chg ((good_owS (good_oFn 31 6))) hC146 (fun c hc => by have := List.mem_singleton.1 hc; omega)
        refine lw_nil (wp_plain _ [0, 0, 0] rfl (lw_tv 1 rfl (q_add ((k + 1 : Nat) : Int) rfl rfl (w64n oM oM) zN (lw_tvn 1 rfl ?_))))
        exact ⟨((k + 1), v140, (ps ++ [(Fn.mk (⟨#[99]⟩ ++ dig k) (cn.getD (2 * k) 0) xs)]), m2), _, rfl, ⟨rfl, rfl, rfl, rfl, rfl, rfl, rfl, trivial⟩, ⟨hE146, hF151.up (good_owS (good_oFn 31 6)), hF147, hF148, hF149, hB146, oM, oM, z26_0, z26_1, (by rw [List.length_append, hpk]; rfl), oM, z26_2, oM, oM, oM⟩, by first | omega | (dsimp only; omega)⟩
  ·
    refine q_lss false rfl rfl (decide_eq_false hc25) zN (lw_nil (c_cond_f rfl (wp_exit (t_exit (t_exit (c_exit_here (wp_seq (wp_plain _ [3, 0] rfl ?_))))))))
    have hk2 : k = 2 := by omega
    subst hk2
    have hf0 : (ps.getD 0 Fn.zero).params = pa ∧ (((ps.getD 0 Fn.zero).outs.length : Nat) : Int) = mi := ⟨(hfn 0 oM).1.trans hc0, (hfn 0 oM).2.trans hc1⟩
    have hf1 : (ps.getD 1 Fn.zero).params = mi ∧ (((ps.getD 1 Fn.zero).outs.length : Nat) : Int) = cn.getD 3 0 := ⟨(hfn 1 oM).1.trans hc2, (hfn 1 oM).2⟩
    refine r_nilS (α := Ex) (good_oEx 31 2) u29 tiS31 zN fun v152 w152 hX152 hz152 hO152 => ?_
    have hzs152 : w21.heap.size ≤ w152.heap.size := hX152.size
    have hE152 : Ext w w152 := hE21.trans hX152
    have hL21_0x152 := hL21_0.ext ((good_owS (good_oFn 31 6))) hX152
    have hL21_1x152 := hL21_1.ext hX152
    have hL21_2x152 := hL21_2.ext (o1) hX152
    have hL21_3x152 := hL21_3.ext hX152
    have hL21_4x152 := hL21_4.ext hX152
    refine lw_tvn 1 rfl (wp_seq (wp_seq (wp_plain _ [0] rfl (lw_tvn 1 rfl (wp_block ?_)))))
    refine c_loop (S := Nat × Value × List Ex) (fun (⟨i, vk, xs⟩ : Nat × Value × List Ex) => ([(13, vk), (14, (.int .i64 ((i : Nat) : Int))), (2, (.pointer (some ⟨w.heap.size, 0, none⟩))), (4, (.pointer (some ⟨gB2, 0, none⟩))), (5, (.pointer (some ⟨w2.heap.size, 0, none⟩))), (6, (.int .i64 pa)), (7, (.int .i64 mi)), (8, v18)] : List (Nat × Value))) (fun (⟨i, vk, xs⟩ : Nat × Value × List Ex) (W : World) => Ext w W ∧ Fr (owS 5 (oEx 31 2) 31) w21.heap.size W.heap.size W.heap vk xs ∧ Fr (owS 3 (oFn 31 6) 34) w18.heap.size w21.heap.size W.heap vp ps ∧ Src W.heap gB2 vc cs m ∧ Fr (owL rI 2) w15.heap.size w18.heap.size W.heap v18 cn ∧ BX W.heap w.heap.size [(.slice none 0 0)] ∧ BX W.heap w2.heap.size [vp] ∧ ((i : Nat) : Int) ≤ mi ∧ xs = callL 0 pa.toNat 0 i ∧ (gB2 < w15.heap.size ∧ w2.heap.size < w15.heap.size ∧ w18.heap.size ≤ w152.heap.size ∧ w.heap.size < gB2 ∧ gB2 < w2.heap.size) ∧ w21.heap.size ≤ w152.heap.size ∧ (gB2 < w18.heap.size ∧ w.heap.size ≤ w18.heap.size ∧ w.heap.size < gB2) ∧ w.heap.size < w21.heap.size ∧ w2.heap.size < w21.heap.size ∧ w21.heap.size ≤ W.heap.size ∧ w18.heap.size ≤ W.heap.size) (fun (⟨i, vk, xs⟩ : Nat × Value × List Ex) => mi.toNat - i) (0, v152, ([] : List Ex)) ⟨rfl, rfl, rfl, rfl, rfl, rfl, rfl, rfl, trivial⟩ ⟨hE152, hO152.up (good_owS (good_oEx 31 2)), hL21_0x152, hL21_1x152, hL21_2x152, hL21_3x152, hL21_4x152, oM, (by rfl), oM, oM, oM, oM, oM, oM, oM⟩ ?_
    clear hL21_4 hL21_3 hL21_2 hL21_1 hL21_0 hO152 hz152 hX152 hzs152 hE152 hL21_0x152 hL21_1x152 hL21_2x152 hL21_3x152 hL21_4x152
    rintro ⟨i, vk, xs⟩ ρ155 w155 ⟨hE155, hL155_0, hL155_1, hL155_2, hL155_3, hL155_4, hL155_5, hp155_0, hxs, hcb2, huw, hgb, hkg153, hkg154, hkB156, hkB157⟩
    have hzs155 : w.heap.size ≤ w155.heap.size := hE155.size
    have hq158 := hL155_4.lt
    have hq159 := hL155_5.lt
    refine wp_seq (wp_seq (wp_plain _ [0, 0, 0] rfl (lw_tv 2 rfl ?_)))
    by_cases hc160 : ((i : Nat) : Int) < mi
    ·
      refine q_lss true rfl rfl (decide_eq_true hc160) zN (lw_nil (c_cond_t rfl (wp_skip (wp_seq (wp_block (wp_plain _ [0, 0, 0, 3, 0, 3, 4, 0] rfl (lw_tv 3 rfl (lw_call 71 [] [] [(.int .i64 pa)] rfl rfl cf71 zN (c_spec_A2Vars _ (pa) oM oM) ?_))))))))
      rintro e161 w161 ⟨v161, rfl, hX161, hO161⟩
      refine ⟨_, rfl, hX161, ?_⟩
      have hzs161 : w155.heap.size ≤ w161.heap.size := hX161.size
      have hE161 : Ext w w161 := hE155.trans hX161
      have hL155_0x161 := hL155_0.ext ((good_owS (good_oEx 31 2))) hX161
      have hL155_1x161 := hL155_1.ext ((good_owS (good_oFn 31 6))) hX161
      have hL155_2x161 := hL155_2.ext hX161
      have hL155_3x161 := hL155_3.ext (o1) hX161
      have hL155_4x161 := hL155_4.ext hX161
      have hL155_5x161 := hL155_5.ext hX161
      have hbd162 : ∀ (v161 : Value) (m162_0 : Nat) (h162_0 : isSl v161 m162_0) (wq : World), (Instr.build 31 #[(0, (.int .i64 ((10 : Nat) : Int))), (1, (.int .i64 ((0 : Nat) : Int))), (2, (.int .i64 ((i : Nat) : Int))), (4, v161)]).run Try.prog wq = .ok (.agg #[(.int .i64 ((10 : Nat) : Int)), (.int .i64 ((0 : Nat) : Int)), (.int .i64 ((i : Nat) : Int)), (.int .i64 0), v161]) wq := by intro v161 m162_0 h162_0 wq; obtain ⟨a162_0, c162_0, rfl, _⟩ := h162_0; kernel_rfl
      refine q_build (ps := #[(0, (.int .i64 ((10 : Nat) : Int))), (1, (.int .i64 ((0 : Nat) : Int))), (2, (.int .i64 ((i : Nat) : Int))), (4, v161)]) (.agg #[(.int .i64 ((10 : Nat) : Int)), (.int .i64 ((0 : Nat) : Int)), (.int .i64 ((i : Nat) : Int)), (.int .i64 0), v161]) z26_5 (fun wq => hbd162 v161 _ hO161.isSlS wq) zN (r_oneS (cs := [(.int .i64 ((10 : Nat) : Int)), (.int .i64 ((0 : Nat) : Int)), (.int .i64 ((i : Nat) : Int)), (.int .i64 0), v161]) (y := (.mk 10 0 ((i : Nat) : Int) 0 (varL 0 pa.toNat))) (B := w155.heap.size) (good_oEx 31 2) u29 tiS31 rfl z26_6 rfl (FrN.mk1 (d := 2) (x := (.mk 10 0 ((i : Nat) : Int) 0 (varL 0 pa.toNat))) oM (exR_mk oM oM oM oM) hO161) oM zN fun v163 w163 hX163 hz163 hO163 => ?_)
      have hzs163 : w161.heap.size ≤ w163.heap.size := hX163.size
      have hE163 : Ext w w163 := hE161.trans hX163
      have hL155_0x163 := hL155_0x161.ext ((good_owS (good_oEx 31 2))) hX163
      have hL155_1x163 := hL155_1x161.ext ((good_owS (good_oFn 31 6))) hX163
      have hL155_2x163 := hL155_2x161.ext hX163
      have hL155_3x163 := hL155_3x161.ext (o1) hX163
      have hL155_4x163 := hL155_4x161.ext hX163
      have hL155_5x163 := hL155_5x161.ext hX163
      refine e_appS (v := vk) (a := v163) (good_oEx 31 2) u29 tiS31 rfl z26_6 rfl rfl hL155_0x163 oM hO163 oM oM (by rw [hxs, callL_len]; omega) (by rw [hxs, callL_len]; unfold maxLen; omega) zN fun v164 w164 F164 hC164 hF164 hO164 => ?_
      have hzs164 : w163.heap.size ≤ w164.heap.size := hC164.size
      have hE164 : Ext w w164 := hC164.below hE163 (fun c hc => by have := hF164 _ hc; omega) hE163.size
      have hF165 := hL155_1x163.chg ((good_owS (good_oFn 31 6))) hC164 (fun c hc => by have := hF164 _ hc; omega)
      have hF166 := hL155_2x163.chg hC164 (fun c hc => by have := hF164 _ hc; omega)
      have hF167 := hL155_3x163.chg (o1) hC164 (fun c hc => by have := hF164 _ hc; omega)
      have hF168 := hL155_4x163.chg hC164 (fun hm => by have := hF164 _ hm; omega)
      have hF169 := hL155_5x163.chg hC164 (fun hm => by have := hF164 _ hm; omega)
      exact lw_tvn 1 rfl (wp_plain _ [0, 0, 0] rfl (lw_tv 1 rfl (q_add ((i + 1 : Nat) : Int) rfl rfl (w64n oM oM) zN (lw_tvn 1 rfl ⟨((i + 1), v164, (xs ++ [(.mk 10 0 ((i : Nat) : Int) 0 (varL 0 pa.toNat))])), _, rfl, ⟨rfl, rfl, rfl, rfl, rfl, rfl, rfl, rfl, trivial⟩, ⟨hE164, hO164.up (good_owS (good_oEx 31 2)), hF165, hF166, hF167, hF168, hF169, oM, (by rw [hxs, callL_snoc, Nat.zero_add]; rfl), oM, oM, oM, oM, oM, oM, oM⟩, by first | omega | (dsimp only; omega)⟩))))
    ·
      refine q_lss false rfl rfl (decide_eq_false hc160) zN (lw_nil (c_cond_f rfl (wp_exit (t_exit (t_exit (c_exit_here (wp_seq (wp_plain _ [0, 0, 3, 4] rfl ?_))))))))
      have hkd := hL155_0
      rw [hxs, show i = mi.toNat by omega] at hkd
      have hkl : (callL 0 pa.toNat 0 mi.toNat).length = mi.toNat := callL_len _ _ _ _
      have hks : Ex.sizes (callL 0 pa.toNat 0 mi.toNat) ≤ 12 := by rw [callL_sz]; exact Nat.mul_le_mul (show mi.toNat ≤ 3 by omega) (show 1 + pa.toNat ≤ 4 by omega)
      refine lw_tv 1 rfl ?_
      have hbd170 : ∀ (wq : World), (Instr.build 34 #[(0, (.string (⟨#[98, 111, 116, 104]⟩))), (1, (.int .i64 pa))]).run Try.prog wq = .ok (.agg #[(.string (⟨#[98, 111, 116, 104]⟩)), (.int .i64 pa), (.slice none 0 0)]) wq := by intro wq; kernel_rfl
      refine q_build (ps := #[(0, (.string (⟨#[98, 111, 116, 104]⟩))), (1, (.int .i64 pa))]) (.agg #[(.string (⟨#[98, 111, 116, 104]⟩)), (.int .i64 pa), (.slice none 0 0)]) z26_5 (fun wq => hbd170  wq) zN ?_
      have hq172 := hL155_4.lt
      have hq173 := hL155_5.lt
      refine r_allocA (z := .agg #[.string ByteArray.empty, .int .i64 0, .slice none 0 0]) zr34 zN fun w171 hX171 hz171 hB171 => ?_
      have hzs171 : w155.heap.size ≤ w171.heap.size := hX171.size
      have hE171 : Ext w w171 := hE155.trans hX171
      have hkdx171 := hkd.ext ((good_owS (good_oEx 31 2))) hX171
      have hL155_1x171 := hL155_1.ext ((good_owS (good_oFn 31 6))) hX171
      have hL155_2x171 := hL155_2.ext hX171
      have hL155_3x171 := hL155_3.ext (o1) hX171
      have hL155_4x171 := hL155_4.ext hX171
      have hL155_5x171 := hL155_5.ext hX171
      replace hB171 : BX w171.heap w155.heap.size [(.string ByteArray.empty), (.int .i64 0), (.slice none 0 0)] := hB171
      refine e_setA (vs := [(.string (⟨#[98, 111, 116, 104]⟩)), (.int .i64 pa), (.slice none 0 0)]) agg34 rfl rfl z26_3 hB171 rfl rfl zN fun w174 hC174 hz174 hB174 => ?_
      replace hB174 : BX w174.heap w155.heap.size [(.string (⟨#[98, 111, 116, 104]⟩)), (.int .i64 pa), (.slice none 0 0)] := hB174
      have hzs174 : w171.heap.size ≤ w174.heap.size := hC174.size
      have hE174 : Ext w w174 := hC174.below hE171 (fun c hc => by have := List.mem_singleton.1 hc; omega) hE171.size
      have hF175 := hkdx171.chg ((good_owS (good_oEx 31 2))) hC174 (fun c hc => by have := List.mem_singleton.1 hc; omega)
      have hF176 := hL155_1x171.chg ((good_owS (good_oFn 31 6))) hC174 (fun c hc => by have := List.mem_singleton.1 hc; omega)
      have hF177 := hL155_2x171.chg hC174 (fun c hc => by have := List.mem_singleton.1 hc; omega)
      have hF178 := hL155_3x171.chg (o1) hC174 (fun c hc => by have := List.mem_singleton.1 hc; omega)
      have hF179 := hL155_4x171.chg hC174 (fun hm => by have := List.mem_singleton.1 hm; omega)
      have hF180 := hL155_5x171.chg hC174 (fun hm => by have := List.mem_singleton.1 hm; omega)
      refine lw_nil (wp_seq (wp_seq (wp_plain _ [0] rfl (lw_tvn 1 rfl (wp_block ?_)))))
      refine c_loop (S := Nat × Value × List Ex) (fun (⟨i, vb, ys⟩ : Nat × Value × List Ex) => ([(16, (.int .i64 ((i : Nat) : Int))), (2, (.pointer (some ⟨w.heap.size, 0, none⟩))), (4, (.pointer (some ⟨gB2, 0, none⟩))), (5, (.pointer (some ⟨w2.heap.size, 0, none⟩))), (6, (.int .i64 pa)), (8, v18), (13, vk), (15, (.pointer (some ⟨w155.heap.size, 0, none⟩)))] : List (Nat × Value))) (fun (⟨i, vb, ys⟩ : Nat × Value × List Ex) (W : World) => Ext w W ∧ Fr (owS 5 (oEx 31 6) 31) w174.heap.size W.heap.size W.heap vb ys ∧ Fr (owS 3 (oFn 31 6) 34) w18.heap.size w21.heap.size W.heap vp ps ∧ Src W.heap gB2 vc cs m ∧ Fr (owS 5 (oEx 31 2) 31) w21.heap.size w155.heap.size W.heap vk (callL 0 pa.toNat 0 mi.toNat) ∧ Fr (owL rI 2) w15.heap.size w18.heap.size W.heap v18 cn ∧ BX W.heap w.heap.size [(.slice none 0 0)] ∧ BX W.heap w2.heap.size [vp] ∧ BX W.heap w155.heap.size [(.string (⟨#[98, 111, 116, 104]⟩)), (.int .i64 pa), vb] ∧ ((i : Nat) : Int) ≤ cn.getD 3 0 ∧ ys = chL 1 (callL 0 pa.toNat 0 mi.toNat) 0 i ∧ (gB2 < w15.heap.size ∧ w2.heap.size < w15.heap.size ∧ w18.heap.size ≤ w174.heap.size ∧ w.heap.size < gB2 ∧ gB2 < w2.heap.size) ∧ w21.heap.size ≤ w174.heap.size ∧ (gB2 < w18.heap.size ∧ w.heap.size ≤ w18.heap.size ∧ w.heap.size < gB2) ∧ w21.heap.size ≤ w155.heap.size ∧ w.heap.size < w174.heap.size ∧ w2.heap.size < w174.heap.size ∧ w155.heap.size < w174.heap.size ∧ w174.heap.size ≤ W.heap.size ∧ w18.heap.size ≤ W.heap.size) (fun (⟨i, vb, ys⟩ : Nat × Value × List Ex) => (cn.getD 3 0).toNat - i) (0, (.slice none 0 0), ([] : List Ex)) ⟨rfl, rfl, rfl, rfl, rfl, rfl, rfl, rfl, trivial⟩ ⟨hE174, (frNilS _ 0 _).up (good_owS (good_oEx 31 6)), hF176, hF177, hF175, hF178, hF179, hF180, hB174, oM, (by rfl), oM, oM, oM, oM, oM, oM, oM, oM, oM⟩ ?_
      clear hL155_5 hL155_4 hL155_3 hL155_2 hL155_1 hL155_0 hz171 hX171 hzs171 hE171 hL155_1x171 hL155_2x171 hL155_3x171 hL155_4x171 hL155_5x171 hz174 hC174 hF175 hF176 hF177 hF178 hF179 hF180
      rintro ⟨i, vb, ys⟩ ρ184 w184 ⟨hE184, hL184_0, hL184_1, hL184_2, hL184_3, hL184_4, hL184_5, hL184_6, hL184_7, hp184_0, hys, hcb2, huw, hgb, hub, hkg181, hkg182, hkg183, hkB185, hkB186⟩
      have hzs184 : w.heap.size ≤ w184.heap.size := hE184.size
      have hq187 := hL184_5.lt
      have hq188 := hL184_6.lt
      have hq189 := hL184_7.lt
      refine wp_seq (wp_seq (wp_plain _ [0, 0, 0, 2, 0] rfl (lw_tv 2 rfl (q_idx (v := v18) 3 u25 ti2 rfl rfl hL184_4.isSl rfl sD zN ?_))))
      refine q_load (p := eptr v18 3 1) (.inr rfl) (.int .i64 (cn.getD 3 0)) one2 rfl (hL184_4.rd1.getI sD).1 zN ?_
      by_cases hc190 : ((i : Nat) : Int) < cn.getD 3 0
      ·
        refine q_lss true rfl rfl (decide_eq_true hc190) zN (lw_nil (c_cond_t rfl (wp_skip (wp_seq (wp_block (wp_seq (wp_plain _ [3, 0] rfl (r_nilS (α := Ex) (good_oEx 31 2) u29 tiS31 zN fun v191 w191 hX191 hz191 hO191 => ?_))))))))
        have hzs191 : w184.heap.size ≤ w191.heap.size := hX191.size
        have hE191 : Ext w w191 := hE184.trans hX191
        have hL184_0x191 := hL184_0.ext ((good_owS (good_oEx 31 6))) hX191
        have hL184_1x191 := hL184_1.ext ((good_owS (good_oFn 31 6))) hX191
        have hL184_2x191 := hL184_2.ext hX191
        have hL184_3x191 := hL184_3.ext ((good_owS (good_oEx 31 2))) hX191
        have hL184_4x191 := hL184_4.ext (o1) hX191
        have hL184_5x191 := hL184_5.ext hX191
        have hL184_6x191 := hL184_6.ext hX191
        have hL184_7x191 := hL184_7.ext hX191
        refine lw_tvn 1 rfl (wp_seq (wp_seq (wp_plain _ [0] rfl (lw_tvn 1 rfl (wp_block ?_)))))
        refine c_loop (S := Nat × Value) (fun (⟨k, vq⟩ : Nat × Value) => ([(17, vq), (18, (.int .i64 ((k : Nat) : Int))), (2, (.pointer (some ⟨w.heap.size, 0, none⟩))), (4, (.pointer (some ⟨gB2, 0, none⟩))), (5, (.pointer (some ⟨w2.heap.size, 0, none⟩))), (6, (.int .i64 pa)), (8, v18), (13, vk), (15, (.pointer (some ⟨w155.heap.size, 0, none⟩))), (16, (.int .i64 ((i : Nat) : Int)))] : List (Nat × Value))) (fun (⟨k, vq⟩ : Nat × Value) (W : World) => Ext w W ∧ Fr (owS 5 (oEx 31 2) 31) w184.heap.size W.heap.size W.heap vq ((callL 0 pa.toNat 0 mi.toNat).take k) ∧ Fr (owS 5 (oEx 31 6) 31) w174.heap.size w184.heap.size W.heap vb ys ∧ Fr (owS 3 (oFn 31 6) 34) w18.heap.size w21.heap.size W.heap vp ps ∧ Src W.heap gB2 vc cs m ∧ Fr (owS 5 (oEx 31 2) 31) w21.heap.size w155.heap.size W.heap vk (callL 0 pa.toNat 0 mi.toNat) ∧ Fr (owL rI 2) w15.heap.size w18.heap.size W.heap v18 cn ∧ BX W.heap w.heap.size [(.slice none 0 0)] ∧ BX W.heap w2.heap.size [vp] ∧ BX W.heap w155.heap.size [(.string (⟨#[98, 111, 116, 104]⟩)), (.int .i64 pa), vb] ∧ ((k : Nat) : Int) ≤ mi ∧ (gB2 < w15.heap.size ∧ w2.heap.size < w15.heap.size ∧ w18.heap.size ≤ w191.heap.size ∧ w.heap.size < gB2 ∧ gB2 < w2.heap.size) ∧ w21.heap.size ≤ w191.heap.size ∧ (gB2 < w18.heap.size ∧ w.heap.size ≤ w18.heap.size ∧ w.heap.size < gB2) ∧ w21.heap.size ≤ w155.heap.size ∧ w.heap.size < w184.heap.size ∧ w2.heap.size < w184.heap.size ∧ w155.heap.size < w184.heap.size ∧ w184.heap.size ≤ W.heap.size ∧ w174.heap.size ≤ W.heap.size ∧ w18.heap.size ≤ W.heap.size) (fun (⟨k, vq⟩ : Nat × Value) => mi.toNat - k) (0, v191) ⟨rfl, rfl, rfl, rfl, rfl, rfl, rfl, rfl, rfl, rfl, trivial⟩ ⟨hE191, hO191.up (good_owS (good_oEx 31 2)), hL184_0x191, hL184_1x191, hL184_2x191, hL184_3x191, hL184_4x191, hL184_5x191, hL184_6x191, hL184_7x191, oM, oM, oM, oM, oM, oM, oM, oM, oM, oM, oM⟩ ?_
        clear hL184_7 hL184_6 hL184_5 hL184_4 hL184_3 hL184_2 hL184_1 hL184_0 hO191 hz191 hX191 hzs191 hE191 hL184_0x191 hL184_1x191 hL184_2x191 hL184_3x191 hL184_4x191 hL184_5x191 hL184_6x191 hL184_7x191
        rintro ⟨k, vq⟩ ρ195 w195 ⟨hE195, hL195_0, hL195_1, hL195_2, hL195_3, hL195_4, hL195_5, hL195_6, hL195_7, hL195_8, hp195_0, hcb2, huw, hgb, hub, hkg192, hkg193, hkg194, hkB196, hkB197, hkB198⟩
        have hzs195 : w.heap.size ≤ w195.heap.size := hE195.size
        have hq199 := hL195_6.lt
        have hq200 := hL195_7.lt
        have hq201 := hL195_8.lt
        refine wp_seq (wp_seq (wp_plain _ [0, 0, 0, 0] rfl (lw_tv 2 rfl (q_len (v := vk) u29 rfl hL195_4.isSlS zN ?_))))
        by_cases hc202 : ((k : Nat) : Int) < (((callL 0 pa.toNat 0 mi.toNat).length : Nat) : Int)
        ·
          refine q_lss true rfl rfl (decide_eq_true hc202) zN (lw_nil (c_cond_t rfl (wp_skip (wp_seq (wp_block (wp_plain _ [0, 0, 0, 0, 3, 3, 4, 0] rfl (lw_tv 3 rfl (q_idx (v := vk) k u29 tiS31 rfl rfl hL195_4.isSlS rfl sD zN ?_))))))))
          have hsa := sizes_at (l := (callL 0 pa.toNat 0 mi.toNat)) (k := k) oM
          refine lw_call 72 [] [] [(eptr vk k 5)] rfl rfl cf72 zN (c_spec_l02Own _ 2 (eptr vk k 5) ((callL 0 pa.toNat 0 mi.toNat).getD k Ex.zero) (RN.ptr (good_rEx 2) z26_6 Ex.zero (RN.of_frE hL195_4 (fun b hb => by cases hb)) sD) oM) ?_
          rintro e203 w203 ⟨v203, rfl, hX203, hO203, hr203, hd203⟩
          refine ⟨_, rfl, hX203, ?_⟩
          have hzs203 : w195.heap.size ≤ w203.heap.size := hX203.size
          have hE203 : Ext w w203 := hE195.trans hX203
          have hL195_0x203 := hL195_0.ext ((good_owS (good_oEx 31 2))) hX203
          have hL195_1x203 := hL195_1.ext ((good_owS (good_oEx 31 6))) hX203
          have hL195_2x203 := hL195_2.ext ((good_owS (good_oFn 31 6))) hX203
          have hL195_3x203 := hL195_3.ext hX203
          have hL195_4x203 := hL195_4.ext ((good_owS (good_oEx 31 2))) hX203
          have hL195_5x203 := hL195_5.ext (o1) hX203
          have hL195_6x203 := hL195_6.ext hX203
          have hL195_7x203 := hL195_7.ext hX203
          have hL195_8x203 := hL195_8.ext hX203
          refine r_oneS (cs := [(.int .i64 (((callL 0 pa.toNat 0 mi.toNat).getD k Ex.zero).kind)), (.int .i64 (((callL 0 pa.toNat 0 mi.toNat).getD k Ex.zero).num)), (.int .i64 (((callL 0 pa.toNat 0 mi.toNat).getD k Ex.zero).pick)), (.int .i64 (((callL 0 pa.toNat 0 mi.toNat).getD k Ex.zero).count)), v203]) (y := ((callL 0 pa.toNat 0 mi.toNat).getD k Ex.zero)) (B := w195.heap.size) (good_oEx 31 2) u29 tiS31 rfl z26_6 rfl (FrN.le (FrN.mk1 oM hr203 hO203) oM) oM zN fun v204 w204 hX204 hz204 hO204 => ?_
          have hzs204 : w203.heap.size ≤ w204.heap.size := hX204.size
          have hE204 : Ext w w204 := hE203.trans hX204
          have hL195_0x204 := hL195_0x203.ext ((good_owS (good_oEx 31 2))) hX204
          have hL195_1x204 := hL195_1x203.ext ((good_owS (good_oEx 31 6))) hX204
          have hL195_2x204 := hL195_2x203.ext ((good_owS (good_oFn 31 6))) hX204
          have hL195_3x204 := hL195_3x203.ext hX204
          have hL195_4x204 := hL195_4x203.ext ((good_owS (good_oEx 31 2))) hX204
          have hL195_5x204 := hL195_5x203.ext (o1) hX204
          have hL195_6x204 := hL195_6x203.ext hX204
          have hL195_7x204 := hL195_7x203.ext hX204
          have hL195_8x204 := hL195_8x203.ext hX204
          refine e_appS (v := vq) (a := v204) (good_oEx 31 2) u29 tiS31 rfl z26_6 rfl rfl hL195_0x204 oM hO204 oM oM (by rw [List.length_take]; omega) (by rw [List.length_take]; unfold maxLen; omega) zN fun v205 w205 F205 hC205 hF205 hO205 => ?_
          have hzs205 : w204.heap.size ≤ w205.heap.size := hC205.size
          have hE205 : Ext w w205 := hC205.below hE204 (fun c hc => by have := hF205 _ hc; omega) hE204.size
          have hF206 := hL195_1x204.chg ((good_owS (good_oEx 31 6))) hC205 (fun c hc => by have := hF205 _ hc; omega)
          have hF207 := hL195_2x204.chg ((good_owS (good_oFn 31 6))) hC205 (fun c hc => by have := hF205 _ hc; omega)
          have hF208 := hL195_3x204.chg hC205 (fun c hc => by have := hF205 _ hc; omega)
          have hF209 := hL195_4x204.chg ((good_owS (good_oEx 31 2))) hC205 (fun c hc => by have := hF205 _ hc; omega)
          have hF210 := hL195_5x204.chg (o1) hC205 (fun c hc => by have := hF205 _ hc; omega)
          have hF211 := hL195_6x204.chg hC205 (fun hm => by have := hF205 _ hm; omega)
          have hF212 := hL195_7x204.chg hC205 (fun hm => by have := hF205 _ hm; omega)
          have hF213 := hL195_8x204.chg hC205 (fun hm => by have := hF205 _ hm; omega)
          exact lw_tvn 1 rfl (wp_plain _ [0, 0, 0] rfl (lw_tv 1 rfl (q_add ((k + 1 : Nat) : Int) rfl rfl (w64n oM oM) zN (lw_tvn 1 rfl ⟨((k + 1), v205), _, rfl, ⟨rfl, rfl, rfl, rfl, rfl, rfl, rfl, rfl, rfl, rfl, trivial⟩, ⟨hE205, (by rw [take_snoc Ex.zero (by rw [callL_len]; omega)]; exact hO205.up (good_owS (good_oEx 31 2))), hF206, hF207, hF208, hF209, hF210, hF211, hF212, hF213, oM, oM, oM, oM, oM, oM, oM, oM, oM, oM, oM⟩, by first | omega | (dsimp only; omega)⟩))))
        ·
          refine q_lss false rfl rfl (decide_eq_false hc202) zN (lw_nil (c_cond_f rfl (wp_exit (t_exit (t_exit (c_exit_here (wp_plain _ [0, 2, 0, 0, 0, 3, 4, 0, 4] rfl ?_)))))))
          have how := hL195_0
          rw [show (callL 0 pa.toNat 0 mi.toNat).take k = (callL 0 pa.toNat 0 mi.toNat) from List.take_of_length_le oM] at how
          refine q_fldP (p := (.pointer (some ⟨w155.heap.size, 0, none⟩))) (b := w155.heap.size) (o := 0) 2 fd34_2 rfl rfl zN (q_load (p := (padd (.pointer (some ⟨w155.heap.size, 0, none⟩)) 2)) (.inr rfl) vb one29 rfl (hL195_8.ldp (i := 2) sM) zN (lw_tv 2 rfl ?_))
          have hbd214 : ∀ (vq : Value) (m214_0 : Nat) (h214_0 : isSl vq m214_0) (wq : World), (Instr.build 31 #[(0, (.int .i64 ((10 : Nat) : Int))), (1, (.int .i64 ((1 : Nat) : Int))), (2, (.int .i64 ((i : Nat) : Int))), (4, vq)]).run Try.prog wq = .ok (.agg #[(.int .i64 ((10 : Nat) : Int)), (.int .i64 ((1 : Nat) : Int)), (.int .i64 ((i : Nat) : Int)), (.int .i64 0), vq]) wq := by intro vq m214_0 h214_0 wq; obtain ⟨a214_0, c214_0, rfl, _⟩ := h214_0; kernel_rfl
          refine q_build (ps := #[(0, (.int .i64 ((10 : Nat) : Int))), (1, (.int .i64 ((1 : Nat) : Int))), (2, (.int .i64 ((i : Nat) : Int))), (4, vq)]) (.agg #[(.int .i64 ((10 : Nat) : Int)), (.int .i64 ((1 : Nat) : Int)), (.int .i64 ((i : Nat) : Int)), (.int .i64 0), vq]) z26_5 (fun wq => hbd214 vq _ how.isSlS wq) zN (r_oneS (cs := [(.int .i64 ((10 : Nat) : Int)), (.int .i64 ((1 : Nat) : Int)), (.int .i64 ((i : Nat) : Int)), (.int .i64 0), vq]) (y := (.mk 10 1 ((i : Nat) : Int) 0 (callL 0 pa.toNat 0 mi.toNat))) (B := w184.heap.size) (good_oEx 31 6) u29 tiS31 rfl z26_6 rfl (FrN.le (FrN.mk1 (d := 3) (x := (.mk 10 1 ((i : Nat) : Int) 0 (callL 0 pa.toNat 0 mi.toNat))) oM (exR_mk oM oM oM oM) how) oM) oM zN fun v215 w215 hX215 hz215 hO215 => ?_)
          have hzs215 : w195.heap.size ≤ w215.heap.size := hX215.size
          have hE215 : Ext w w215 := hE195.trans hX215
          have hL195_1x215 := hL195_1.ext ((good_owS (good_oEx 31 6))) hX215
          have hL195_2x215 := hL195_2.ext ((good_owS (good_oFn 31 6))) hX215
          have hL195_3x215 := hL195_3.ext hX215
          have hL195_4x215 := hL195_4.ext ((good_owS (good_oEx 31 2))) hX215
          have hL195_5x215 := hL195_5.ext (o1) hX215
          have hL195_6x215 := hL195_6.ext hX215
          have hL195_7x215 := hL195_7.ext hX215
          have hL195_8x215 := hL195_8.ext hX215
          refine e_appS (v := vb) (a := v215) (good_oEx 31 6) u29 tiS31 rfl z26_6 rfl rfl hL195_1x215 oM hO215 oM oM (by rw [hys, chL_len]; omega) (by rw [hys, chL_len]; unfold maxLen; omega) zN fun v216 w216 F216 hC216 hF216 hO216 => ?_
          have hzs216 : w215.heap.size ≤ w216.heap.size := hC216.size
          have hE216 : Ext w w216 := hC216.below hE215 (fun c hc => by have := hF216 _ hc; omega) hE215.size
          have hF217 := hL195_2x215.chg ((good_owS (good_oFn 31 6))) hC216 (fun c hc => by have := hF216 _ hc; omega)
          have hF218 := hL195_3x215.chg hC216 (fun c hc => by have := hF216 _ hc; omega)
          have hF219 := hL195_4x215.chg ((good_owS (good_oEx 31 2))) hC216 (fun c hc => by have := hF216 _ hc; omega)
          have hF220 := hL195_5x215.chg (o1) hC216 (fun c hc => by have := hF216 _ hc; omega)
          have hF221 := hL195_6x215.chg hC216 (fun hm => by have := hF216 _ hm; omega)
          have hF222 := hL195_7x215.chg hC216 (fun hm => by have := hF216 _ hm; omega)
          have hF223 := hL195_8x215.chg hC216 (fun hm => by have := hF216 _ hm; omega)
          refine q_fldP (p := (.pointer (some ⟨w155.heap.size, 0, none⟩))) (b := w155.heap.size) (o := 0) 2 fd34_2 rfl rfl zN (e_setB (k := 2) (w := w216) sz29 rfl rfl (isSl_one hO216.isSlS) hF223 sM zN fun w224 hC224 hz224 hB224 => ?_)
          replace hB224 : BX w224.heap w155.heap.size [(.string (⟨#[98, 111, 116, 104]⟩)), (.int .i64 pa), v216] := hB224
          have hzs224 : w216.heap.size ≤ w224.heap.size := hC224.size
          have hE224 : Ext w w224 := hC224.below hE216 (fun c hc => by have := List.mem_singleton.1 hc; omega) hE216.size
          have hF225 := hF217.chg ((good_owS (good_oFn 31 6))) hC224 (fun c hc => by have := List.mem_singleton.1 hc; omega)
          have hF226 := hF218.chg hC224 (fun c hc => by have := List.mem_singleton.1 hc; omega)
          have hF227 := hF219.chg ((good_owS (good_oEx 31 2))) hC224 (fun c hc => by have := List.mem_singleton.1 hc; omega)
          have hF228 := hF220.chg (o1) hC224 (fun c hc => by have := List.mem_singleton.1 hc; omega)
          have hF229 := hF221.chg hC224 (fun hm => by have := List.mem_singleton.1 hm; omega)
          have hF230 := hF222.chg hC224 (fun hm => by have := List.mem_singleton.1 hm; omega)
          have hF231 := hO216.chg ((good_owS (good_oEx 31 6))) hC224 (fun c hc => by have := List.mem_singleton.1 hc; omega)
          exact lw_nil (wp_plain _ [0, 0, 0] rfl (lw_tv 1 rfl (q_add ((i + 1 : Nat) : Int) rfl rfl (w64n oM oM) zN (lw_tvn 1 rfl ⟨((i + 1), v216, (ys ++ [(.mk 10 1 ((i : Nat) : Int) 0 (callL 0 pa.toNat 0 mi.toNat))])), _, rfl, ⟨rfl, rfl, rfl, rfl, rfl, rfl, rfl, rfl, trivial⟩, ⟨hE224, hF231.up (good_owS (good_oEx 31 6)), hF225, hF226, hF227, hF228, hF229, hF230, hB224, oM, (by rw [hys, chL_snoc, Nat.zero_add]; rfl), oM, oM, oM, oM, oM, oM, oM, oM, oM⟩, by first | omega | (dsimp only; omega)⟩))))
      ·
        refine q_lss false rfl rfl (decide_eq_false hc190) zN (lw_nil (c_cond_f rfl (wp_exit (t_exit (t_exit (c_exit_here (wp_seq (wp_plain _ [0, 2, 2, 3, 4, 0, 4] rfl (q_fldP (p := (.pointer (some ⟨w2.heap.size, 0, none⟩))) (b := w2.heap.size) (o := 0) 0 fd37_0 rfl rfl zN (q_load (p := (padd (.pointer (some ⟨w2.heap.size, 0, none⟩)) 0)) (.inr rfl) vp one35 rfl (hL184_6.ldp (i := 0) sM) zN (q_loadA (p := (.pointer (some ⟨w155.heap.size, 0, none⟩))) (.inr rfl) [(.string (⟨#[98, 111, 116, 104]⟩)), (.int .i64 pa), vb] agg34 rfl (fun wq9 hw9 => LD.of_box (BX.ext (w := w184) hL184_7 hw9)) rfl zN ?_)))))))))))
        refine r_oneS (cs := [(.string (⟨#[98, 111, 116, 104]⟩)), (.int .i64 pa), vb]) (y := (Fn.mk (⟨#[98, 111, 116, 104]⟩) pa ys)) (B := w174.heap.size) (good_oFn 31 6) u35 tiS34 rfl z26_6 rfl (FrN.mkF (x := ⟨(⟨#[98, 111, 116, 104]⟩), pa, ys⟩) (i64_mk (a := pa) oM) hL184_0) oM zN fun v232 w232 hX232 hz232 hO232 => ?_
        have hzs232 : w184.heap.size ≤ w232.heap.size := hX232.size
        have hE232 : Ext w w232 := hE184.trans hX232
        have hL184_1x232 := hL184_1.ext ((good_owS (good_oFn 31 6))) hX232
        have hL184_2x232 := hL184_2.ext hX232
        have hL184_3x232 := hL184_3.ext ((good_owS (good_oEx 31 2))) hX232
        have hL184_4x232 := hL184_4.ext (o1) hX232
        have hL184_5x232 := hL184_5.ext hX232
        have hL184_6x232 := hL184_6.ext hX232
        have hL184_7x232 := hL184_7.ext hX232
        refine e_appS (v := vp) (a := v232) (good_oFn 31 6) u35 tiS34 rfl z26_6 rfl rfl hL184_1x232 oM hO232 oM oM oM (by unfold maxLen; omega) zN fun v233 w233 F233 hC233 hF233 hO233 => ?_
        have hzs233 : w232.heap.size ≤ w233.heap.size := hC233.size
        have hE233 : Ext w w233 := hC233.below hE232 (fun c hc => by have := hF233 _ hc; omega) hE232.size
        have hF234 := hL184_2x232.chg hC233 (fun c hc => by have := hF233 _ hc; omega)
        have hF235 := hL184_3x232.chg ((good_owS (good_oEx 31 2))) hC233 (fun c hc => by have := hF233 _ hc; omega)
        have hF236 := hL184_4x232.chg (o1) hC233 (fun c hc => by have := hF233 _ hc; omega)
        have hF237 := hL184_5x232.chg hC233 (fun hm => by have := hF233 _ hm; omega)
        have hF238 := hL184_6x232.chg hC233 (fun hm => by have := hF233 _ hm; omega)
        have hF239 := hL184_7x232.chg hC233 (fun hm => by have := hF233 _ hm; omega)
        refine q_fldP (p := (.pointer (some ⟨w2.heap.size, 0, none⟩))) (b := w2.heap.size) (o := 0) 0 fd37_0 rfl rfl zN (e_setB (k := 0) (w := w233) sz35 rfl rfl (isSl_one hO233.isSlS) hF238 sM zN fun w240 hC240 hz240 hB240 => ?_)
        replace hB240 : BX w240.heap w2.heap.size [v233] := hB240
        have hzs240 : w233.heap.size ≤ w240.heap.size := hC240.size
        have hE240 : Ext w w240 := hC240.below hE233 (fun c hc => by have := List.mem_singleton.1 hc; omega) hE233.size
        have hF241 := hF234.chg hC240 (fun c hc => by have := List.mem_singleton.1 hc; omega)
        have hF242 := hF235.chg ((good_owS (good_oEx 31 2))) hC240 (fun c hc => by have := List.mem_singleton.1 hc; omega)
        have hF243 := hF236.chg (o1) hC240 (fun c hc => by have := List.mem_singleton.1 hc; omega)
        have hF244 := hF237.chg hC240 (fun hm => by have := List.mem_singleton.1 hm; omega)
        have hF245 := hF239.chg hC240 (fun hm => by have := List.mem_singleton.1 hm; omega)
        have hF246 := hO233.chg ((good_owS (good_oFn 31 6))) hC240 (fun c hc => by have := List.mem_singleton.1 hc; omega)
        refine lw_nil (wp_seq ?_)
        letI : JR := jrC [gB2]
        refine Jx.wp_draw _ [1, 0, 0, 3, 4, 0] mixed (by kernel_rfl) (Jx.q_loadAJ (p := (.pointer (some ⟨w2.heap.size, 0, none⟩))) [v233] agg37 rfl (fun wj hj => LD.of_box (BX.chg (w := w240.drew) (F := [gB2]) hB240 hj (fun hm => by have := List.mem_singleton.1 hm; omega))) rfl zN (Jx.q_move (.pointer (some ⟨gB2, 0, none⟩)) rfl zN (Jx.q_move (.int .i64 pa) rfl zN (Jx.lw_call 38 [] [] [(.pointer (some ⟨gB2, 0, none⟩)), (.int .i64 pa)] rfl rfl cf38 zN (c_spec_l01Draw _ gB2 _ _ _ (pa) hF241 oM oM oM) ?_))))
        rintro e247 w247 ⟨v247_0, x247_0, n247, rfl, hC247, hs247, hb247, hO247_0, hp247_0⟩
        refine ⟨_, rfl, hC247, ?_⟩
        replace hO247_0 := hO247_0.low (B' := w240.heap.size) (Nat.le_refl _)
        replace hC247 := hC247.of_drew
        have hzs247 : w240.heap.size ≤ w247.heap.size := hC247.size
        have hE247 : Ext w w247 := hC247.below hE240 (fun c hc => by have := List.mem_singleton.1 hc; omega) hE240.size
        have hF248 := hF242.chg ((good_owS (good_oEx 31 2))) hC247 (fun c hc => by have := List.mem_singleton.1 hc; omega)
        have hF249 := hF243.chg (o1) hC247 (fun c hc => by have := List.mem_singleton.1 hc; omega)
        have hF250 := hF244.chg hC247 (fun hm => by have := List.mem_singleton.1 hm; omega)
        have hF251 := hB240.chg hC247 (fun hm => by have := List.mem_singleton.1 hm; omega)
        have hF252 := hF245.chg hC247 (fun hm => by have := List.mem_singleton.1 hm; omega)
        have hF253 := hF246.chg ((good_owS (good_oFn 31 6))) hC247 (fun c hc => by have := List.mem_singleton.1 hc; omega)
        have hst := hp247_0
        refine Jx.tail rfl (e_setA (vs := [v233]) agg37 rfl rfl (by intro u hu; simp only [List.mem_cons, List.not_mem_nil, or_false] at hu; rcases hu with rfl <;> first | exact ⟨rfl, rfl⟩ | exact isSl_one hF253.isSlS) hF250 rfl rfl zN fun w254 hC254 hz254 hB254 => ?_)
        replace hB254 : BX w254.heap w.heap.size [v233] := hB254
        have hzs254 : w247.heap.size ≤ w254.heap.size := hC254.size
        have hE254 : Ext w w254 := hC254.below hE247 (fun c hc => by have := List.mem_singleton.1 hc; omega) hE247.size
        have hF255 := hF248.chg ((good_owS (good_oEx 31 2))) hC254 (fun c hc => by have := List.mem_singleton.1 hc; omega)
        have hF256 := hF249.chg (o1) hC254 (fun c hc => by have := List.mem_singleton.1 hc; omega)
        have hF257 := hF251.chg hC254 (fun hm => by have := List.mem_singleton.1 hm; omega)
        have hF258 := hF252.chg hC254 (fun hm => by have := List.mem_singleton.1 hm; omega)
        have hF259 := hF253.chg ((good_owS (good_oFn 31 6))) hC254 (fun c hc => by have := List.mem_singleton.1 hc; omega)
        have hF260 := hO247_0.chg (o1) hC254 (fun c hc => by have := List.mem_singleton.1 hc; omega)
        exact lw_tvn 1 rfl (wp_ret (post_retC (t0 := 3) (ts := []) (cs := [v233]) [v247_0] rfl agg37 rfl hB254 rfl rfl ⟨v233, v247_0, (ps ++ [(Fn.mk (⟨#[98, 111, 116, 104]⟩) pa ys)]), x247_0, rfl, hE254, ((hF259.up (good_owS (good_oFn 31 6))).low (B' := w.heap.size) oM), ((hF260.up o1).low (B' := w.heap.size) oM), (by exact ChnD.mk' (p := ps) (g := ⟨(⟨#[98, 111, 116, 104]⟩), pa, ys⟩) (m := pa.toNat) (K0 := mi.toNat) (K1 := i) hdp hdn oM oM oM oM oM (by show pa = _; omega) rfl hys oM hst.2)⟩))
end Go.Proofs.Ytnokbaiemimhjaa
namespace Go.Proofs.Ytnokbaiemimhjaa
open Go Go.RowKit
set_option linter.unusedVariables false
set_option linter.unusedSimpArgs false
set_option maxHeartbeats 4000000
set_option maxRecDepth 100000
attribute [local irreducible] LW
theorem c_laws_a2Dot (w : World) (va : Value) (a : List Int) (vb : Value) (b : List Int) (ha : Rd (rdL rI) w.heap va a) (hb : Rd (rdL rI) w.heap vb b) (hl : b.length = a.length) :
    Calls Try.prog 29 #[va, vb] w (fun e w' => e = .returned (.int .i64 (dotG a b a.length)) ∧ Ext w w') := by
  refine calls_mk [va, vb] 31 Try.func29 rfl rfl sM ?_
  have hE0 : Ext w w := Ext.refl w
  have hl_va := ha.lenle
  have hl_vb := hb.lenle
  refine wp_seq (wp_plain _ [0] rfl (lw_tvn 1 rfl (wp_seq (wp_plain _ [0] rfl (lw_tvn 1 rfl (wp_seq (wp_seq (wp_plain _ [0] rfl (lw_tvn 1 rfl (wp_block ?_))))))))))
  refine c_loop (S := Nat × Int) (fun (⟨k, s⟩ : Nat × Int) => ([(5, (.int .i64 s)), (6, (.int .i64 ((k : Nat) : Int))), (0, va), (1, vb)] : List (Nat × Value))) (fun (⟨k, s⟩ : Nat × Int) (W : World) => Ext w W ∧ k ≤ a.length ∧ s = dotG a b k ∧ (0 ≤ s ∧ s < 1000003)) (fun (⟨k, s⟩ : Nat × Int) => a.length - k) (0, ((0 : Nat) : Int)) ⟨rfl, rfl, rfl, rfl, trivial⟩ ⟨hE0, sD, (by rfl), oM⟩ ?_
  clear hE0
  rintro ⟨k, s⟩ ρ1 w1 ⟨hE1, hp1_0, hs, hsr9⟩
  have hzs1 : w.heap.size ≤ w1.heap.size := hE1.size
  refine wp_seq (wp_seq (wp_plain _ [0, 0, 0, 0, 0, 0, 0, 0, 0, 0] rfl (lw_tv 2 rfl (q_len (v := va) u25 rfl ha.isSl zN ?_))))
  by_cases hc2 : ((k : Nat) : Int) < ((a.length : Nat) : Int)
  ·
    refine q_lss true rfl rfl (decide_eq_true hc2) zN (lw_tv 3 rfl (q_len (v := vb) u25 rfl hb.isSl (zS (e := 11) rfl rfl rfl) ?_))
    by_cases hc3 : ((k : Nat) : Int) < ((b.length : Nat) : Int)
    ·
      refine q_lss true rfl rfl (decide_eq_true hc3) (zS (e := 11) rfl rfl rfl) (lw_tvn 1 rfl (c_cond_t rfl (wp_skip (wp_seq (wp_block (wp_draw _ [0, 0, 0, 0, 1, 0, 0, 0, 1, 0, 0, 0] mixed (by kernel_rfl) (lw_tv 3 rfl (q_idx (v := va) k u25 ti2 rfl rfl ha.isSl rfl sD zN ?_))))))))
      refine q_load (p := eptr va k 1) (.inl rfl) (.int .i64 (a.getD k 0)) one2 rfl (ldH_ext hE1.drew (ha.getI sD).1) zN (lw_tv 2 rfl ?_)
      refine q_idx (v := vb) k u25 ti2 rfl rfl hb.isSl rfl sD zN ?_
      refine q_load (p := eptr vb k 1) (.inl rfl) (.int .i64 (b.getD k 0)) one2 rfl (ldH_ext hE1.drew (hb.getI sD).1) zN ?_
      refine lw_callq 15 [] [] [(.int .i64 (a.getD k 0)), (.int .i64 (b.getD k 0))] rfl rfl cf15 zN (.int .i64 (md ((a.getD k 0) * (b.getD k 0)))) (fun wq => c_spec_Times wq _ _ (ha.getI sD).2 (hb.getI sD).2) ?_
      refine lw_callq 77 [] [] [(.int .i64 s), (.int .i64 (md ((a.getD k 0) * (b.getD k 0))))] rfl rfl cf77 zN (.int .i64 (md (s + (md ((a.getD k 0) * (b.getD k 0)))))) (fun wq => c_spec_Plus wq _ _ oM (md_rng _)) (lw_tvn 1 rfl (wp_plain _ [0, 0, 0] rfl (lw_tv 1 rfl (q_add ((k + 1 : Nat) : Int) rfl rfl (w64n oM sD) zN (lw_tvn 1 rfl ?_)))))
      exact ⟨((k + 1), (md (s + (md ((a.getD k 0) * (b.getD k 0)))))), _, rfl, ⟨rfl, rfl, rfl, rfl, trivial⟩, ⟨hE1.drew, sD, (by rw [hs]; exact dotG_step a b k), (by exact md_num _)⟩, by first | omega | (dsimp only; omega)⟩
    ·
      exact q_lss false rfl rfl (decide_eq_false hc3) (zS (e := 11) rfl rfl rfl) (lw_tvn 1 rfl (c_cond_f rfl (wp_exit (t_exit (t_exit (c_exit_here (wp_seq (wp_plain _ [0, 0] rfl (lw_tvn 2 rfl (wp_ret (post_ret [4] rfl (.int .i64 s) rfl ⟨(ret_int (by rw [hs, show k = a.length by omega])), hE1⟩)))))))))))
  ·
    exact q_lss false rfl rfl (decide_eq_false hc2) zN (lw_tvn 6 rfl (c_cond_f rfl (wp_exit (t_exit (t_exit (c_exit_here (wp_seq (wp_plain _ [0, 0] rfl (lw_tvn 2 rfl (wp_ret (post_ret [4] rfl (.int .i64 s) rfl ⟨(ret_int (by rw [hs, show k = a.length by omega])), hE1⟩)))))))))))
theorem c_JacG (w : World) (dp : Nat) (vp : Value) (p : List Fn) (f : Int) (va : Value) (a : List Int) (hp : RP [] dp w.heap vp p) (_hf : -9223372036854775808 ≤ f ∧ f ≤ 9223372036854775807) (ha : Rd (rdL rI) w.heap va a) (hz : SzP p) (hli : liC p f a a = 0) (har : arC p f a = 0) :
    Calls Try.prog 28 #[(.agg #[vp]), .int .i64 f, va] w (fun e w' => ∃ v0 : Value, e = .returned (.tuple #[v0, .int .i64 (euC p f a)]) ∧ Ext w w' ∧ Fr (owL (owL rI 2) 25) w.heap.size w'.heap.size w'.heap v0 (if euC p f a = 0 then jaT p f.toNat a (p.getD f.toNat Fn.zero).outs.length a.length else [])) := by
  have h := c_impl_JacobianOf w dp vp p f va a hp _hf ha hz
  simp only [hli, true_and, if_true, ← euC_0 har] at h
  exact h
theorem li_ok {p : List Fn} {f : Int} {a d : Sr} (h : okP p = true) (hf : 0 ≤ f ∧ f < ((p.length : Nat) : Int)) (hl : ((a.length : Nat) : Int) = (p.getD f.toNat Fn.zero).params) (hn : allN a = true) (hl2 : ((d.length : Nat) : Int) = (p.getD f.toNat Fn.zero).params) (hn2 : allN d = true) : liC p f a d = 0 := by
  unfold liC isF
  rw [if_pos h, if_pos (by omega), hn, hn2, decide_eq_true hl, decide_eq_true hl2]; rfl
theorem c_wide_g (w : World) (va : Value) (a : List (List Int)) (n m : Int) (ha : Rd (rdL (rdL rI)) w.heap va a) (_hn : -9223372036854775808 ≤ n ∧ n ≤ 9223372036854775807) (_hm : -9223372036854775808 ≤ m ∧ m ≤ 9223372036854775807)
    (hl : ((a.length : Nat) : Int) = n) (hr : ∀ k, k < a.length → (((a.getD k []).length : Nat) : Int) = m) : Calls Try.prog 13 #[va, .int .i64 n, .int .i64 m] w (fun e w' => e = .returned (.bool true) ∧ Ext w w') := by
  have h := c_laws_a2Wide w va a n m ha _hn _hm
  have hq : (decide (((a.length : Nat) : Int) = n) && a.all (fun r => decide (((r.length : Nat) : Int) = m))) = true := by
    rw [decide_eq_true hl, Bool.true_and, List.all_eq_true]
    intro r hr'
    obtain ⟨j, hj, rfl⟩ := List.mem_iff_getElem.1 hr'
    have h9 := hr j hj
    rw [gd_at hj] at h9
    exact decide_eq_true h9
  rw [hq] at h; exact h
end Go.Proofs.Ytnokbaiemimhjaa
namespace Go.Proofs.Ytnokbaiemimhjaa
open Go Go.RowKit
set_option linter.unusedVariables false
set_option linter.unusedSimpArgs false
set_option maxHeartbeats 4000000
set_option maxRecDepth 100000
attribute [local irreducible] LW
section
variable {p : List Fn} {a : List Int}
theorem ChnD.ar0 (h : ChnD p a) : arC p ((0 : Nat) : Int) a = 0 := ar_ok h.dr.ok (by have := h.len; omega) h.la.1 h.la.2
theorem ChnD.ar2 (h : ChnD p a) : arC p ((2 : Nat) : Int) a = 0 := ar_ok h.dr.ok (by have := h.len; omega) (h.la.1.trans h.p2.symm) h.la.2
theorem ChnD.mid0 (h : ChnD p a) : euR p ((0 : Nat) : Int) a = nxR p 0 a := euR_0 h.ar0
theorem ChnD.c0 (h : ChnD p a) : euC p ((0 : Nat) : Int) a = nxC p 0 a := euC_0 h.ar0
theorem ChnD.c2 (h : ChnD p a) : euC p ((2 : Nat) : Int) a = nxC p 2 a := euC_0 h.ar2
theorem ChnD.midl (h : ChnD p a) (h0 : euC p ((0 : Nat) : Int) a = 0) : (((euR p ((0 : Nat) : Int) a).length : Nat) : Int) = (p.getD 1 Fn.zero).params ∧ allN (euR p ((0 : Nat) : Int) a) = true ∧ (euR p ((0 : Nat) : Int) a).length = (p.getD 0 Fn.zero).outs.length := by
  have := h.mid_len (h.c0 ▸ h0)
  rw [h.mid0]
  exact ⟨by rw [this.1]; exact h.mid, this.2, this.1⟩
theorem ChnD.ar1 (h : ChnD p a) (h0 : euC p ((0 : Nat) : Int) a = 0) : arC p ((1 : Nat) : Int) (euR p ((0 : Nat) : Int) a) = 0 := ar_ok h.dr.ok (by have := h.len; omega) (h.midl h0).1 (h.midl h0).2.1
theorem ChnD.codes (h : ChnD p a) (h0 : euC p ((0 : Nat) : Int) a = 0) : euC p ((2 : Nat) : Int) a = euC p ((1 : Nat) : Int) (euR p ((0 : Nat) : Int) a) ∨ euC p ((2 : Nat) : Int) a = 7 := by
  rw [euC_0 (h.ar1 h0), h.c2, h.mid0]
  exact h.ch.code rfl (h.at0 (h.c0 ▸ h0))
theorem ChnD.prod (h : ChnD p a) (h0 : euC p ((0 : Nat) : Int) a = 0) (h1 : euC p ((1 : Nat) : Int) (euR p ((0 : Nat) : Int) a) = 0) (h2 : euC p ((2 : Nat) : Int) a = 0) {i k : Nat} (hi : i < (p.getD 1 Fn.zero).outs.length) (hk : k < a.length) :
    ((jaT p 2 a (p.getD 2 Fn.zero).outs.length a.length).getD i []).getD k 0 = dotG ((jaT p 1 (euR p ((0 : Nat) : Int) a) (p.getD 1 Fn.zero).outs.length (euR p ((0 : Nat) : Int) a).length).getD i []) ((jaT p 0 a (p.getD 0 Fn.zero).outs.length a.length).map fun r => r.getD k 0) ((jaT p 1 (euR p ((0 : Nat) : Int) a) (p.getD 1 Fn.zero).outs.length (euR p ((0 : Nat) : Int) a).length).getD i []).length := by
  rw [euC_0 (h.ar1 h0), h.mid0] at h1
  have hA := h.at0 (h.c0 ▸ h0)
  have hr := h.rule (h.c0 ▸ h0) h1 (h.c2 ▸ h2) hi hk
  have hl : (drR p 0 a (eV a.length k)).length = (p.getD 0 Fn.zero).outs.length := (ev_P hA.v (n := 2) hA.lt (alS_ser (n := 2) hA.n (eV_num a.length k)) (by rw [alS_len]; exact hA.l)).len ((dr_c p 0 a _).trans hA.z)
  have hml := (h.mid_len (h.c0 ▸ h0)).1
  rw [h.mid0]
  unfold jaT
  rw [tab_get [] (by rw [h.o2]; exact hi), tab_get [] hi, jaP_len]
  unfold dotG
  unfold jaP
  rw [tab_get 0 hk]
  refine hr.trans (congrArg md (sm_congr fun j hj => ?_))
  rw [tab_get 0 hj, map_getD (d := []) (show j < (drR p 0 a (eV a.length k)).length by omega), map_getD (d := []) (by rw [tab_len]; omega), tab_get [] (by omega), tab_get 0 hk]
  rfl
end
theorem z5_0 {p : Prop} (h : p := by intro k hk; unfold jaT at hk ⊢; rw [tab_get [] (by simpa using hk), jaP_len]) : p := h
theorem z5_1 {p : Prop} (h : p := by unfold jaT; rw [tab_get [] (by rw [jaT_len] at *; omega), jaP_len]; omega) : p := h
theorem z5_2 {p : Prop} (h : p := by first | rfl | exact ret_bool (decide_eq_true oM)) : p := h
theorem z5_3 {p : Prop} (h : p := by rw [jaT_len] at *; omega) : p := h
theorem z5_4 {p : Prop} (h : p := by exact hCD.dr.szp) : p := h
theorem c_laws_FnChainRule (w : World) (vc : Value) (cs : List UInt8) (vd : Value) (ds : List UInt8) (hcs : Rd (rdL rU) w.heap vc cs) (hds : Rd (rdL rU) w.heap vd ds)  :
    Calls Try.prog 5 #[vc, vd] w (fun e w' => e = .returned (.bool true) ∧ Ext w w') := by
  refine calls_mk [vc, vd] 165 Try.func5 rfl rfl sM ?_
  have hE0 : Ext w w := Ext.refl w
  have hl_vc := hcs.lenle
  have hl_vd := hds.lenle
  refine wp_seq (wp_plain _ [0] rfl (lw_tvn 1 rfl (wp_seq (wp_seq (wp_plain _ [0, 0, 3] rfl (lw_tv 2 rfl (lw_call 7 [] [] [vc, vd] rfl rfl cf7 zN (c_laws_a2Long _ _ _ _ _ (hcs.ext good_u hE0) (hds.ext good_u hE0)) ?_)))))))
  rintro e1 w1 ⟨rfl, hX1⟩
  refine ⟨_, rfl, hX1, ?_⟩
  have hzs1 : w.heap.size ≤ w1.heap.size := hX1.size
  have hE1 : Ext w w1 := hE0.trans hX1
  refine lw_nil ?_
  cases hb2 : (decide (((3000 : Nat) : Int) < ((cs.length : Nat) : Int)) || decide (((3000 : Nat) : Int) < ((ds.length : Nat) : Int)))
  ·
    refine c_cond_f (by first | rfl | (show Value.bool _ = _; rw [hb2])) (wp_skip (wp_seq (wp_plain _ [0, 3, 0, 0, 0, 3, 4, 0] rfl (lw_tv 1 rfl (lw_call 26 [] [] [vc] rfl rfl cf26 zN (c_spec_A2Chain _ vc _ (hcs.ext good_u hE1)) ?_)))))
    rintro e3 w3 ⟨vD, vaD, pD, aD, rfl, hX3, hOD, hAD, hCD⟩
    refine ⟨_, rfl, hX3, ?_⟩
    have hzs3 : w1.heap.size ≤ w3.heap.size := hX3.size
    have hE3 : Ext w w3 := hE1.trans hX3
    have hlc := hCD.len
    have hla := hCD.la
    have hpa := hCD.dr.par 0 oM
    have hou := hCD.dr.outs 0 oM
    have hou1 := hCD.dr.outs 1 oM
    have hpa1 := hCD.dr.par 1 oM
    have hp2 := hCD.p2
    have ho2 := hCD.o2
    refine lw_tv 1 rfl (q_extract (vs := [(.agg #[vD]), vaD]) (.agg #[vD]) rfl rfl zN (q_extract (vs := [(.agg #[vD]), vaD]) vaD rfl rfl zN (r_allocA (z := .agg #[.slice none 0 0]) zr37 zN fun w4 hX4 hz4 hB4 => ?_)))
    have hzs4 : w3.heap.size ≤ w4.heap.size := hX4.size
    have hE4 : Ext w w4 := hE3.trans hX4
    have hODx4 := hOD.ext ((good_owS (good_oFn 31 6))) hX4
    have hADx4 := hAD.ext (o1) hX4
    replace hB4 : BX w4.heap w3.heap.size [(.slice none 0 0)] := hB4
    refine e_setA (vs := [vD]) agg37 rfl rfl (by intro u hu; simp only [List.mem_cons, List.not_mem_nil, or_false] at hu; rcases hu with rfl <;> first | exact ⟨rfl, rfl⟩ | exact isSl_one hODx4.isSlS) hB4 rfl rfl zN fun w5 hC5 hz5 hB5 => ?_
    replace hB5 : BX w5.heap w3.heap.size [vD] := hB5
    have hzs5 : w4.heap.size ≤ w5.heap.size := hC5.size
    have hE5 : Ext w w5 := hC5.below hE4 (fun c hc => by have := List.mem_singleton.1 hc; omega) hE4.size
    have hF6 := hODx4.chg ((good_owS (good_oFn 31 6))) hC5 (fun c hc => by have := List.mem_singleton.1 hc; omega)
    have hF7 := hADx4.chg (o1) hC5 (fun c hc => by have := List.mem_singleton.1 hc; omega)
    refine lw_tvn 1 rfl (wp_seq (wp_plain _ [2, 0, 3, 0, 0, 0, 0, 0, 0, 0] rfl (q_loadA (p := (.pointer (some ⟨w3.heap.size, 0, none⟩))) (.inr rfl) [vD] agg37 rfl (fun wq9 hw9 => LD.of_box (BX.ext (w := w5) hB5 hw9)) rfl zN (lw_tv 1 rfl (lw_call 27 [] [] [(.agg #[vD]), (.int .i64 ((0 : Nat) : Int)), vaD] rfl rfl cf27 zN (c_spec_Evaluate _ 6 vD (pD) _ _ _ (RN.of_frF hF6 (fun b hb => by cases hb)) oM hF7.rd1 z5_4) ?_)))))
    rintro e8 w8 ⟨v8_0, rfl, hX8, hO8_0⟩
    refine ⟨_, rfl, hX8, ?_⟩
    have hzs8 : w5.heap.size ≤ w8.heap.size := hX8.size
    have hE8 : Ext w w8 := hE5.trans hX8
    have hF6x8 := hF6.ext ((good_owS (good_oFn 31 6))) hX8
    have hF7x8 := hF7.ext (o1) hX8
    have hB5x8 := hB5.ext hX8
    refine lw_tv 1 rfl (q_extract (vs := [v8_0, (.int .i64 ((euT pD ((0 : Nat) : Int) aD : Nat) : Int)), (.int .i64 (euC pD ((0 : Nat) : Int) aD))]) v8_0 rfl rfl zN (q_extract (vs := [v8_0, (.int .i64 ((euT pD ((0 : Nat) : Int) aD : Nat) : Int)), (.int .i64 (euC pD ((0 : Nat) : Int) aD))]) (.int .i64 ((euT pD ((0 : Nat) : Int) aD : Nat) : Int)) rfl rfl zN (q_extract (vs := [v8_0, (.int .i64 ((euT pD ((0 : Nat) : Int) aD : Nat) : Int)), (.int .i64 (euC pD ((0 : Nat) : Int) aD))]) (.int .i64 (euC pD ((0 : Nat) : Int) aD)) rfl rfl zN (lw_tvn 3 rfl (wp_seq (wp_seq (wp_plain _ [0, 0] rfl (lw_tv 1 rfl ?_))))))))
    by_cases hc9 : euC pD ((0 : Nat) : Int) aD ≠ ((0 : Nat) : Int)
    ·
      refine q_neq true rfl rfl (decide_eq_true hc9) zN (lw_nil (c_cond_t rfl (wp_seq (wp_plain _ [2, 0, 3, 0, 0, 0, 0, 0] rfl (q_loadA (p := (.pointer (some ⟨w3.heap.size, 0, none⟩))) (.inr rfl) [vD] agg37 rfl (fun wq9 hw9 => LD.of_box (BX.ext (w := w8) hB5x8 hw9)) rfl zN (lw_tv 1 rfl (lw_call 28 [] [] [(.agg #[vD]), (.int .i64 ((0 : Nat) : Int)), vaD] rfl rfl cf28 zN (c_JacG _ 6 vD (pD) _ _ _ (RN.of_frF hF6x8 (fun b hb => by cases hb)) oM hF7x8.rd1 z5_4 (by exact li_ok hCD.dr.ok oM hla.1 hla.2 hla.1 hla.2) (by exact hCD.ar0)) ?_)))))))
      rintro e10 w10 ⟨v10_0, rfl, hX10, hO10_0⟩
      refine ⟨_, rfl, hX10, ?_⟩
      have hzs10 : w8.heap.size ≤ w10.heap.size := hX10.size
      have hE10 : Ext w w10 := hE8.trans hX10
      have hF6x10 := hF6x8.ext ((good_owS (good_oFn 31 6))) hX10
      have hF7x10 := hF7x8.ext (o1) hX10
      have hB5x10 := hB5x8.ext hX10
      have hO8_0x10 := hO8_0.ext (o1) hX10
      exact lw_tv 1 rfl (q_extract (vs := [v10_0, (.int .i64 (euC pD ((0 : Nat) : Int) aD))]) v10_0 rfl rfl zN (q_extract (vs := [v10_0, (.int .i64 (euC pD ((0 : Nat) : Int) aD))]) (.int .i64 (euC pD ((0 : Nat) : Int) aD)) rfl rfl zN (lw_tvn 2 rfl (wp_seq (wp_plain _ [0, 0, 0, 0] rfl (lw_tv 2 rfl (q_eql true rfl rfl sM zN (lw_tvn 1 rfl (wp_ret (t_ret (post_ret [4] rfl (.bool true) rfl ⟨z5_2, hE10⟩)))))))))))
    ·
      refine q_neq false rfl rfl (decide_eq_false hc9) zN (lw_nil (c_cond_f rfl (wp_skip (wp_seq (wp_plain _ [2, 0, 3, 0, 0, 0, 0, 0, 0, 0] rfl ?_)))))
      have h00 : euC pD ((0 : Nat) : Int) aD = 0 := by omega
      have hml := hCD.midl h00
      refine q_loadA (p := (.pointer (some ⟨w3.heap.size, 0, none⟩))) (.inr rfl) [vD] agg37 rfl (fun wq9 hw9 => LD.of_box (BX.ext (w := w8) hB5x8 hw9)) rfl zN (lw_tv 1 rfl (lw_call 27 [] [] [(.agg #[vD]), (.int .i64 ((1 : Nat) : Int)), v8_0] rfl rfl cf27 zN (c_spec_Evaluate _ 6 vD (pD) _ _ _ (RN.of_frF hF6x8 (fun b hb => by cases hb)) oM hO8_0.rd1 z5_4) ?_))
      rintro e11 w11 ⟨v11_0, rfl, hX11, hO11_0⟩
      refine ⟨_, rfl, hX11, ?_⟩
      have hzs11 : w8.heap.size ≤ w11.heap.size := hX11.size
      have hE11 : Ext w w11 := hE8.trans hX11
      have hF6x11 := hF6x8.ext ((good_owS (good_oFn 31 6))) hX11
      have hF7x11 := hF7x8.ext (o1) hX11
      have hB5x11 := hB5x8.ext hX11
      have hO8_0x11 := hO8_0.ext (o1) hX11
      refine lw_tv 1 rfl (q_extract (vs := [v11_0, (.int .i64 ((euT pD ((1 : Nat) : Int) (euR pD ((0 : Nat) : Int) aD) : Nat) : Int)), (.int .i64 (euC pD ((1 : Nat) : Int) (euR pD ((0 : Nat) : Int) aD)))]) v11_0 rfl rfl zN (q_extract (vs := [v11_0, (.int .i64 ((euT pD ((1 : Nat) : Int) (euR pD ((0 : Nat) : Int) aD) : Nat) : Int)), (.int .i64 (euC pD ((1 : Nat) : Int) (euR pD ((0 : Nat) : Int) aD)))]) (.int .i64 ((euT pD ((1 : Nat) : Int) (euR pD ((0 : Nat) : Int) aD) : Nat) : Int)) rfl rfl zN (q_extract (vs := [v11_0, (.int .i64 ((euT pD ((1 : Nat) : Int) (euR pD ((0 : Nat) : Int) aD) : Nat) : Int)), (.int .i64 (euC pD ((1 : Nat) : Int) (euR pD ((0 : Nat) : Int) aD)))]) (.int .i64 (euC pD ((1 : Nat) : Int) (euR pD ((0 : Nat) : Int) aD))) rfl rfl zN (lw_tvn 3 rfl (wp_seq (wp_plain _ [2, 0, 3, 0, 0, 0, 0, 0] rfl ?_))))))
      refine q_loadA (p := (.pointer (some ⟨w3.heap.size, 0, none⟩))) (.inr rfl) [vD] agg37 rfl (fun wq9 hw9 => LD.of_box (BX.ext (w := w11) hB5x11 hw9)) rfl zN (lw_tv 1 rfl (lw_call 28 [] [] [(.agg #[vD]), (.int .i64 ((0 : Nat) : Int)), vaD] rfl rfl cf28 zN (c_JacG _ 6 vD (pD) _ _ _ (RN.of_frF hF6x11 (fun b hb => by cases hb)) oM hF7x11.rd1 z5_4 (by exact li_ok hCD.dr.ok oM hla.1 hla.2 hla.1 hla.2) (by exact hCD.ar0)) ?_))
      rintro e12 w12 ⟨v12_0, rfl, hX12, hO12_0⟩
      refine ⟨_, rfl, hX12, ?_⟩
      have hzs12 : w11.heap.size ≤ w12.heap.size := hX12.size
      have hE12 : Ext w w12 := hE11.trans hX12
      have hF6x12 := hF6x11.ext ((good_owS (good_oFn 31 6))) hX12
      have hF7x12 := hF7x11.ext (o1) hX12
      have hB5x12 := hB5x11.ext hX12
      have hO8_0x12 := hO8_0x11.ext (o1) hX12
      have hO11_0x12 := hO11_0.ext (o1) hX12
      refine lw_tv 1 rfl (q_extract (vs := [v12_0, (.int .i64 (euC pD ((0 : Nat) : Int) aD))]) v12_0 rfl rfl zN (q_extract (vs := [v12_0, (.int .i64 (euC pD ((0 : Nat) : Int) aD))]) (.int .i64 (euC pD ((0 : Nat) : Int) aD)) rfl rfl zN (lw_tvn 2 rfl (wp_seq (wp_plain _ [2, 0, 3, 0, 0, 0, 0, 0] rfl (q_loadA (p := (.pointer (some ⟨w3.heap.size, 0, none⟩))) (.inr rfl) [vD] agg37 rfl (fun wq9 hw9 => LD.of_box (BX.ext (w := w12) hB5x12 hw9)) rfl zN (lw_tv 1 rfl (lw_call 28 [] [] [(.agg #[vD]), (.int .i64 ((1 : Nat) : Int)), v8_0] rfl rfl cf28 zN (c_JacG _ 6 vD (pD) _ _ _ (RN.of_frF hF6x12 (fun b hb => by cases hb)) oM hO8_0x12.rd1 z5_4 (by exact li_ok hCD.dr.ok oM hml.1 hml.2.1 hml.1 hml.2.1) (by exact (hCD.ar1 h00))) ?_))))))))
      rintro e13 w13 ⟨v13_0, rfl, hX13, hO13_0⟩
      refine ⟨_, rfl, hX13, ?_⟩
      have hzs13 : w12.heap.size ≤ w13.heap.size := hX13.size
      have hE13 : Ext w w13 := hE12.trans hX13
      have hF6x13 := hF6x12.ext ((good_owS (good_oFn 31 6))) hX13
      have hF7x13 := hF7x12.ext (o1) hX13
      have hB5x13 := hB5x12.ext hX13
      have hO8_0x13 := hO8_0x12.ext (o1) hX13
      have hO11_0x13 := hO11_0x12.ext (o1) hX13
      have hO12_0x13 := hO12_0.ext (o2) hX13
      refine lw_tv 1 rfl (q_extract (vs := [v13_0, (.int .i64 (euC pD ((1 : Nat) : Int) (euR pD ((0 : Nat) : Int) aD)))]) v13_0 rfl rfl zN (q_extract (vs := [v13_0, (.int .i64 (euC pD ((1 : Nat) : Int) (euR pD ((0 : Nat) : Int) aD)))]) (.int .i64 (euC pD ((1 : Nat) : Int) (euR pD ((0 : Nat) : Int) aD))) rfl rfl zN (lw_tvn 2 rfl (wp_seq (wp_plain _ [2, 0, 3, 0, 0, 0, 0, 0] rfl (q_loadA (p := (.pointer (some ⟨w3.heap.size, 0, none⟩))) (.inr rfl) [vD] agg37 rfl (fun wq9 hw9 => LD.of_box (BX.ext (w := w13) hB5x13 hw9)) rfl zN (lw_tv 1 rfl ?_)))))))
      refine lw_call 28 [] [] [(.agg #[vD]), (.int .i64 ((2 : Nat) : Int)), vaD] rfl rfl cf28 zN (c_JacG _ 6 vD (pD) _ _ _ (RN.of_frF hF6x13 (fun b hb => by cases hb)) oM hF7x13.rd1 z5_4 (by exact li_ok hCD.dr.ok oM (hla.1.trans hp2.symm) hla.2 (hla.1.trans hp2.symm) hla.2) (by exact hCD.ar2)) ?_
      rintro e14 w14 ⟨v14_0, rfl, hX14, hO14_0⟩
      refine ⟨_, rfl, hX14, ?_⟩
      have hzs14 : w13.heap.size ≤ w14.heap.size := hX14.size
      have hE14 : Ext w w14 := hE13.trans hX14
      have hF6x14 := hF6x13.ext ((good_owS (good_oFn 31 6))) hX14
      have hF7x14 := hF7x13.ext (o1) hX14
      have hB5x14 := hB5x13.ext hX14
      have hO8_0x14 := hO8_0x13.ext (o1) hX14
      have hO11_0x14 := hO11_0x13.ext (o1) hX14
      have hO12_0x14 := hO12_0x13.ext (o2) hX14
      have hO13_0x14 := hO13_0.ext (o2) hX14
      refine lw_tv 1 rfl (q_extract (vs := [v14_0, (.int .i64 (euC pD ((2 : Nat) : Int) aD))]) v14_0 rfl rfl zN (q_extract (vs := [v14_0, (.int .i64 (euC pD ((2 : Nat) : Int) aD))]) (.int .i64 (euC pD ((2 : Nat) : Int) aD)) rfl rfl zN (lw_tvn 2 rfl (wp_seq (wp_seq (wp_plain _ [0, 0, 0, 0, 0, 0, 0] rfl ?_))))))
      have hcd := hCD.codes h00
      refine lw_tv 1 rfl ?_
      have hc15 : ¬ (euC pD ((0 : Nat) : Int) aD ≠ ((0 : Nat) : Int)) := oM
      refine q_neq false rfl rfl (decide_eq_false hc15) zN (lw_tv 3 rfl (q_neq false rfl rfl sM (zS (e := 79) rfl rfl rfl) (lw_tvn 1 rfl (c_cond_f rfl (wp_skip (wp_seq (wp_seq (wp_plain _ [0, 0] rfl (lw_tv 1 rfl ?_)))))))))
      by_cases hc16 : euC pD ((1 : Nat) : Int) (euR pD ((0 : Nat) : Int) aD) ≠ ((0 : Nat) : Int)
      ·
        refine q_neq true rfl rfl (decide_eq_true hc16) zN (lw_nil (c_cond_t rfl (wp_seq (wp_plain _ [0, 0, 0, 0, 0, 0, 0, 0] rfl (lw_tv 2 rfl ?_)))))
        by_cases hc17 : euC pD ((2 : Nat) : Int) aD = euC pD ((1 : Nat) : Int) (euR pD ((0 : Nat) : Int) aD)
        ·
          exact q_eql true rfl rfl (decide_eq_true hc17) zN (lw_tvn 5 rfl (wp_ret (t_ret (post_ret [4] rfl (.bool true) rfl ⟨z5_2, hE14⟩))))
        ·
          exact q_eql false rfl rfl (decide_eq_false hc17) zN (lw_tv 2 rfl (q_eql (decide (euC pD ((2 : Nat) : Int) aD = ((7 : Nat) : Int))) rfl rfl rfl (zS (e := 89) rfl rfl rfl) (lw_tvn 2 rfl (wp_ret (t_ret (post_ret [4] rfl (.bool (decide (euC pD ((2 : Nat) : Int) aD = ((7 : Nat) : Int)))) rfl ⟨z5_2, hE14⟩))))))
      ·
        refine q_neq false rfl rfl (decide_eq_false hc16) zN (lw_nil (c_cond_f rfl (wp_skip (wp_seq (wp_seq (wp_plain _ [0, 0] rfl (lw_tv 1 rfl ?_)))))))
        by_cases hc18 : euC pD ((2 : Nat) : Int) aD = ((7 : Nat) : Int)
        ·
          refine q_eql true rfl rfl (decide_eq_true hc18) zN (lw_nil (c_cond_t rfl (wp_seq (wp_plain _ [2, 0, 3, 0, 0, 0, 0, 0, 0, 0] rfl (q_loadA (p := (.pointer (some ⟨w3.heap.size, 0, none⟩))) (.inr rfl) [vD] agg37 rfl (fun wq9 hw9 => LD.of_box (BX.ext (w := w14) hB5x14 hw9)) rfl zN (lw_tv 1 rfl (lw_call 27 [] [] [(.agg #[vD]), (.int .i64 ((2 : Nat) : Int)), vaD] rfl rfl cf27 zN (c_spec_Evaluate _ 6 vD (pD) _ _ _ (RN.of_frF hF6x14 (fun b hb => by cases hb)) oM hF7x14.rd1 z5_4) ?_)))))))
          rintro e19 w19 ⟨v19_0, rfl, hX19, hO19_0⟩
          refine ⟨_, rfl, hX19, ?_⟩
          have hzs19 : w14.heap.size ≤ w19.heap.size := hX19.size
          have hE19 : Ext w w19 := hE14.trans hX19
          have hF6x19 := hF6x14.ext ((good_owS (good_oFn 31 6))) hX19
          have hF7x19 := hF7x14.ext (o1) hX19
          have hB5x19 := hB5x14.ext hX19
          have hO8_0x19 := hO8_0x14.ext (o1) hX19
          have hO11_0x19 := hO11_0x14.ext (o1) hX19
          have hO12_0x19 := hO12_0x14.ext (o2) hX19
          have hO13_0x19 := hO13_0x14.ext (o2) hX19
          have hO14_0x19 := hO14_0.ext (o2) hX19
          refine lw_tv 1 rfl (q_extract (vs := [v19_0, (.int .i64 ((euT pD ((2 : Nat) : Int) aD : Nat) : Int)), (.int .i64 (euC pD ((2 : Nat) : Int) aD))]) v19_0 rfl rfl zN (q_extract (vs := [v19_0, (.int .i64 ((euT pD ((2 : Nat) : Int) aD : Nat) : Int)), (.int .i64 (euC pD ((2 : Nat) : Int) aD))]) (.int .i64 ((euT pD ((2 : Nat) : Int) aD : Nat) : Int)) rfl rfl zN (q_extract (vs := [v19_0, (.int .i64 ((euT pD ((2 : Nat) : Int) aD : Nat) : Int)), (.int .i64 (euC pD ((2 : Nat) : Int) aD))]) (.int .i64 (euC pD ((2 : Nat) : Int) aD)) rfl rfl zN (lw_tvn 3 rfl (wp_seq (wp_plain _ [0, 0, 0] rfl (lw_tv 1 rfl (q_eql (decide (euC pD ((2 : Nat) : Int) aD = ((7 : Nat) : Int))) rfl rfl rfl zN (lw_tvn 1 rfl (wp_ret (t_ret ?_)))))))))))
          exact post_ret [4] rfl (.bool (decide (euC pD ((2 : Nat) : Int) aD = ((7 : Nat) : Int)))) rfl ⟨z5_2, hE19⟩
        ·
          refine q_eql false rfl rfl (decide_eq_false hc18) zN (lw_nil (c_cond_f rfl (wp_skip (wp_seq (wp_seq (wp_plain _ [0, 0, 0, 0, 0, 0, 0, 0, 3, 0, 0, 0, 0, 0, 2, 0, 0, 2, 0, 0, 0, 3, 0, 0, 0, 0, 0, 0, 0, 0, 3, 0, 0] rfl ?_))))))
          have h11 : euC pD ((1 : Nat) : Int) (euR pD ((0 : Nat) : Int) aD) = 0 := by omega
          have h22 : euC pD ((2 : Nat) : Int) aD = 0 := by omega
          have hjl1 : (jaT pD 1 (euR pD ((0 : Nat) : Int) aD) (pD.getD 1 Fn.zero).outs.length (euR pD ((0 : Nat) : Int) aD).length).length = (pD.getD 1 Fn.zero).outs.length := jaT_len _ _ _ _ _
          have hin := hO12_0x14
          rw [if_pos h00] at hin
          replace hin : Fr _ _ _ _ _ (jaT pD 0 aD (pD.getD 0 Fn.zero).outs.length aD.length) := hin
          have hot := hO13_0x14
          rw [if_pos h11] at hot
          replace hot : Fr _ _ _ _ _ (jaT pD 1 (euR pD ((0 : Nat) : Int) aD) (pD.getD 1 Fn.zero).outs.length (euR pD ((0 : Nat) : Int) aD).length) := hot
          have hbo := hO14_0
          rw [if_pos h22] at hbo
          replace hbo : Fr _ _ _ _ _ (jaT pD 2 aD (pD.getD 2 Fn.zero).outs.length aD.length) := hbo
          refine lw_tv 1 rfl ?_
          have hc20 : ¬ (euC pD ((2 : Nat) : Int) aD ≠ ((0 : Nat) : Int)) := oM
          refine q_neq false rfl rfl (decide_eq_false hc20) zN (lw_tv 3 rfl (q_len (v := v8_0) u25 rfl hO8_0x14.isSl (zS (e := 106) rfl rfl rfl) (lw_tv 1 rfl (q_len (v := vaD) u25 rfl hF7x14.isSl (zS (e := 106) rfl rfl rfl) (lw_call 13 [] [] [v12_0, (.int .i64 (((euR pD ((0 : Nat) : Int) aD).length : Nat) : Int)), (.int .i64 ((aD.length : Nat) : Int))] rfl rfl cf13 (zS (e := 106) rfl rfl rfl) (c_wide_g _ _ _ _ _ hin.rd2 oM oM (by rw [jaT_len, hml.2.2]) z5_0) ?_)))))
          rintro e21 w21 ⟨rfl, hX21⟩
          refine ⟨_, rfl, hX21, ?_⟩
          have hzs21 : w14.heap.size ≤ w21.heap.size := hX21.size
          have hE21 : Ext w w21 := hE14.trans hX21
          have hF6x21 := hF6x14.ext ((good_owS (good_oFn 31 6))) hX21
          have hF7x21 := hF7x14.ext (o1) hX21
          have hB5x21 := hB5x14.ext hX21
          have hO8_0x21 := hO8_0x14.ext (o1) hX21
          have hO11_0x21 := hO11_0x14.ext (o1) hX21
          have hinx21 := hin.ext (o2) hX21
          have hotx21 := hot.ext (o2) hX21
          have hbox21 := hbo.ext (o2) hX21
          refine q_not false rfl rfl (zS (e := 106) rfl rfl rfl) (lw_tv 3 rfl (q_fldP (p := (.pointer (some ⟨w3.heap.size, 0, none⟩))) (b := w3.heap.size) (o := 0) 0 fd37_0 rfl rfl (zS (e := 115) rfl rfl rfl) (q_load (p := (padd (.pointer (some ⟨w3.heap.size, 0, none⟩)) 0)) (.inr rfl) vD one35 rfl (hB5x21.ldp (i := 0) sM) (zS (e := 115) rfl rfl rfl) (q_idx (v := vD) 1 u35 tiS34 rfl rfl hF6x21.isSlS rfl sD (zS (e := 115) rfl rfl rfl) ?_))))
          obtain ⟨cs22, hr22, hl22⟩ := RN.get (S := []) (good_rFn 6) Fn.zero (k := 1) (RN.of_frF hF6x21 (fun b hb => by cases hb)) sD
          obtain ⟨ve22, rfl, hx22⟩ := RF.of hr22
          have hln22 := hx22.rn.lenle
          unfold maxLen at hln22
          refine q_fldL (p := eptr vD 1 3) 2 fd34_2 rfl (hl22 _ (Chg.refl [] _)) (zS (e := 115) rfl rfl rfl) (q_load (p := (padd (eptr vD 1 3) 2)) (.inr rfl) ve22 one29 rfl ((hl22 _ (Chg.refl [] _)).ld (i := 2) (by simp [exC, fnC])) (zS (e := 115) rfl rfl rfl) (q_len (v := ve22) u29 rfl hx22.rn.isSl (zS (e := 115) rfl rfl rfl) (lw_tv 1 rfl (q_len (v := v8_0) u25 rfl hO8_0x21.isSl (zS (e := 115) rfl rfl rfl) (lw_call 13 [] [] [v13_0, (.int .i64 (((pD.getD 1 Fn.zero).outs.length : Nat) : Int)), (.int .i64 (((euR pD ((0 : Nat) : Int) aD).length : Nat) : Int))] rfl rfl cf13 (zS (e := 115) rfl rfl rfl) (c_wide_g _ _ _ _ _ hotx21.rd2 oM oM (by rw [jaT_len]) z5_0) ?_)))))
          rintro e23 w23 ⟨rfl, hX23⟩
          refine ⟨_, rfl, hX23, ?_⟩
          have hzs23 : w21.heap.size ≤ w23.heap.size := hX23.size
          have hE23 : Ext w w23 := hE21.trans hX23
          have hF6x23 := hF6x21.ext ((good_owS (good_oFn 31 6))) hX23
          have hF7x23 := hF7x21.ext (o1) hX23
          have hB5x23 := hB5x21.ext hX23
          have hO8_0x23 := hO8_0x21.ext (o1) hX23
          have hO11_0x23 := hO11_0x21.ext (o1) hX23
          have hinx23 := hinx21.ext (o2) hX23
          have hotx23 := hotx21.ext (o2) hX23
          have hbox23 := hbox21.ext (o2) hX23
          refine q_not false rfl rfl (zS (e := 115) rfl rfl rfl) (lw_tv 4 rfl (q_len (v := v13_0) u24 rfl hotx23.isSl (zS (e := 128) rfl rfl rfl) (lw_tv 1 rfl (q_len (v := vaD) u25 rfl hF7x23.isSl (zS (e := 128) rfl rfl rfl) (lw_call 13 [] [] [v14_0, (.int .i64 (((jaT pD 1 (euR pD ((0 : Nat) : Int) aD) (pD.getD 1 Fn.zero).outs.length (euR pD ((0 : Nat) : Int) aD).length).length : Nat) : Int)), (.int .i64 ((aD.length : Nat) : Int))] rfl rfl cf13 (zS (e := 128) rfl rfl rfl) (c_wide_g _ _ _ _ _ hbox23.rd2 oM oM (by rw [jaT_len, jaT_len, ho2]) z5_0) ?_)))))
          rintro e24 w24 ⟨rfl, hX24⟩
          refine ⟨_, rfl, hX24, ?_⟩
          have hzs24 : w23.heap.size ≤ w24.heap.size := hX24.size
          have hE24 : Ext w w24 := hE23.trans hX24
          have hF6x24 := hF6x23.ext ((good_owS (good_oFn 31 6))) hX24
          have hF7x24 := hF7x23.ext (o1) hX24
          have hB5x24 := hB5x23.ext hX24
          have hO8_0x24 := hO8_0x23.ext (o1) hX24
          have hO11_0x24 := hO11_0x23.ext (o1) hX24
          have hinx24 := hinx23.ext (o2) hX24
          have hotx24 := hotx23.ext (o2) hX24
          have hbox24 := hbox23.ext (o2) hX24
          refine q_not false rfl rfl (zS (e := 128) rfl rfl rfl) (lw_tvn 1 rfl (c_cond_f rfl (wp_skip (wp_seq (wp_seq (wp_plain _ [0] rfl (lw_tvn 1 rfl (wp_block ?_))))))))
          refine c_loop (S := Nat) (fun (i : Nat) => ([(24, (.int .i64 ((i : Nat) : Int))), (6, vaD), (15, v12_0), (17, v13_0), (19, v14_0)] : List (Nat × Value))) (fun (i : Nat) (W : World) => Ext w W ∧ Fr (owS 3 (oFn 31 6) 34) w1.heap.size w3.heap.size W.heap vD pD ∧ Fr (owL rI 2) w1.heap.size w3.heap.size W.heap vaD aD ∧ Fr (owL (owL rI 2) 25) w11.heap.size w12.heap.size W.heap v12_0 (jaT pD 0 aD (pD.getD 0 Fn.zero).outs.length aD.length) ∧ Fr (owL (owL rI 2) 25) w12.heap.size w13.heap.size W.heap v13_0 (jaT pD 1 (euR pD ((0 : Nat) : Int) aD) (pD.getD 1 Fn.zero).outs.length (euR pD ((0 : Nat) : Int) aD).length) ∧ Fr (owL (owL rI 2) 25) w13.heap.size w14.heap.size W.heap v14_0 (jaT pD 2 aD (pD.getD 2 Fn.zero).outs.length aD.length) ∧ i ≤ (jaT pD 2 aD (pD.getD 2 Fn.zero).outs.length aD.length).length ∧ w1.heap.size ≤ W.heap.size) (fun (i : Nat) => (jaT pD 2 aD (pD.getD 2 Fn.zero).outs.length aD.length).length - i) 0 ⟨rfl, rfl, rfl, rfl, rfl, trivial⟩ ⟨hE24, hF6x24, hF7x24, hinx24, hotx24, hbox24, oM, oM⟩ ?_
          clear hE0 hX1 hX3 hz4 hX4 hzs4 hE4 hz5 hC5 hzs5 hE5 hF6 hF7 hO8_0 hX8 hzs8 hE8 hF6x8 hF7x8 hO11_0 hX11 hF6x11 hF7x11 hO8_0x11 hO12_0 hX12 hF6x12 hF7x12 hO8_0x12 hO11_0x12 hO13_0 hX13 hF6x13 hF7x13 hO8_0x13 hO11_0x13 hO12_0x13 hO14_0 hX14 hF6x14 hF7x14 hO8_0x14 hO11_0x14 hO12_0x14 hO13_0x14 hX21 hzs21 hE21 hF6x21 hF7x21 hO8_0x21 hO11_0x21 hln22 hX23 hzs23 hE23 hF6x23 hF7x23 hO8_0x23 hO11_0x23 hX24 hzs24 hE24 hF6x24 hF7x24 hO8_0x24 hO11_0x24
          rintro i ρ25 w25 ⟨hE25, hL25_0, hL25_1, hL25_2, hL25_3, hL25_4, hp25_0, hkB26⟩
          have hzs25 : w.heap.size ≤ w25.heap.size := hE25.size
          refine wp_seq (wp_seq (wp_plain _ [0, 0, 0, 0] rfl (lw_tv 2 rfl (q_len (v := v14_0) u24 rfl hL25_4.isSl zN ?_))))
          by_cases hc27 : ((i : Nat) : Int) < (((jaT pD 2 aD (pD.getD 2 Fn.zero).outs.length aD.length).length : Nat) : Int)
          ·
            refine q_lss true rfl rfl (decide_eq_true hc27) zN (lw_nil (c_cond_t rfl (wp_skip (wp_seq (wp_block (wp_seq (wp_plain _ [0] rfl (lw_tvn 1 rfl (wp_block ?_)))))))))
            refine c_loop (S := Nat) (fun (k : Nat) => ([(25, (.int .i64 ((k : Nat) : Int))), (6, vaD), (15, v12_0), (17, v13_0), (19, v14_0), (24, (.int .i64 ((i : Nat) : Int)))] : List (Nat × Value))) (fun (k : Nat) (W : World) => Ext w W ∧ Fr (owS 3 (oFn 31 6) 34) w1.heap.size w3.heap.size W.heap vD pD ∧ Fr (owL rI 2) w1.heap.size w3.heap.size W.heap vaD aD ∧ Fr (owL (owL rI 2) 25) w11.heap.size w12.heap.size W.heap v12_0 (jaT pD 0 aD (pD.getD 0 Fn.zero).outs.length aD.length) ∧ Fr (owL (owL rI 2) 25) w12.heap.size w13.heap.size W.heap v13_0 (jaT pD 1 (euR pD ((0 : Nat) : Int) aD) (pD.getD 1 Fn.zero).outs.length (euR pD ((0 : Nat) : Int) aD).length) ∧ Fr (owL (owL rI 2) 25) w13.heap.size w14.heap.size W.heap v14_0 (jaT pD 2 aD (pD.getD 2 Fn.zero).outs.length aD.length) ∧ k ≤ aD.length ∧ w1.heap.size ≤ W.heap.size) (fun (k : Nat) => aD.length - k) 0 ⟨rfl, rfl, rfl, rfl, rfl, rfl, trivial⟩ ⟨hE25, hL25_0, hL25_1, hL25_2, hL25_3, hL25_4, oM, oM⟩ ?_
            clear hL25_4 hL25_3 hL25_2 hL25_1 hL25_0 hE25 hzs25
            rintro k ρ28 w28 ⟨hE28, hL28_0, hL28_1, hL28_2, hL28_3, hL28_4, hp28_0, hkB29⟩
            have hzs28 : w.heap.size ≤ w28.heap.size := hE28.size
            refine wp_seq (wp_seq (wp_plain _ [0, 0, 0, 0] rfl (lw_tv 2 rfl (q_len (v := vaD) u25 rfl hL28_1.isSl zN ?_))))
            by_cases hc30 : ((k : Nat) : Int) < ((aD.length : Nat) : Int)
            ·
              refine q_lss true rfl rfl (decide_eq_true hc30) zN (lw_nil (c_cond_t rfl (wp_skip (wp_seq (wp_block (wp_seq (wp_draw _ [0, 0, 0, 1, 0, 0, 1, 0, 0, 0, 1, 0, 0, 3, 3, 0] mixed (by kernel_rfl) (lw_tv 2 rfl (q_idx (v := v14_0) i u24 ti25 rfl rfl hL28_4.isSl rfl sD zN ?_)))))))))
              obtain ⟨ue31, hl31, hd31⟩ := hL28_4.rd2.get (k := i) [] sD
              have hln31 := hd31.lenle
              refine q_load (p := eptr v14_0 i 1) (.inl rfl) ue31 one25 rfl hl31 zN (lw_tv 1 rfl (q_idx (v := ue31) k u25 ti2 rfl rfl hd31.isSl rfl z5_1 zN (q_load (p := eptr ue31 k 1) (.inl rfl) (.int .i64 (((jaT pD 2 aD (pD.getD 2 Fn.zero).outs.length aD.length).getD i []).getD k 0)) one2 rfl (hd31.getI z5_1).1 zN (lw_tv 2 rfl (q_idx (v := v13_0) i u24 ti25 rfl rfl hL28_3.isSl rfl z5_3 zN ?_)))))
              obtain ⟨ue32, hl32, hd32⟩ := hL28_3.rd2.get (k := i) [] z5_3
              have hln32 := hd32.lenle
              refine q_load (p := eptr v13_0 i 1) (.inl rfl) ue32 one25 rfl hl32 zN (lw_tv 2 rfl (lw_call 30 [] [] [v12_0, (.int .i64 ((k : Nat) : Int))] rfl rfl cf30 zN (c_laws_a2Column _ _ _ (k) hL28_2.rd2 sD (by rw [jaT_len]; omega) (by intro r hr; unfold jaT at hr ⊢; rw [tab_get [] (by simpa using hr), jaP_len]; omega)) ?_))
              rintro e33 w33 ⟨v33_0, rfl, hX33, hO33_0⟩
              refine ⟨_, rfl, hX33, ?_⟩
              replace hX33 := hX33.of_drew
              have hzs33 : w28.heap.size ≤ w33.heap.size := hX33.size
              have hE33 : Ext w w33 := hE28.trans hX33
              have hL28_0x33 := hL28_0.ext ((good_owS (good_oFn 31 6))) hX33
              have hL28_1x33 := hL28_1.ext (o1) hX33
              have hL28_2x33 := hL28_2.ext (o2) hX33
              have hL28_3x33 := hL28_3.ext (o2) hX33
              have hL28_4x33 := hL28_4.ext (o2) hX33
              have hd31x33 := hd31.ext g1 hX33
              have hlx34 := ldH_ext hX33 hl31
              have hd32x33 := hd32.ext g1 hX33
              have hlx35 := ldH_ext hX33 hl32
              replace hO33_0 := hO33_0.low (B' := w28.heap.size) (Nat.le_refl _)
              refine lw_call 29 [] [] [ue32, v33_0] rfl rfl cf29 zN (c_laws_a2Dot _ _ _ _ _ hd32x33 hO33_0.rd1 (by rw [List.length_map, jaT_len]; unfold jaT; rw [tab_get [] z5_3, jaP_len, hml.2.2])) ?_
              rintro e36 w36 ⟨rfl, hX36⟩
              refine ⟨_, rfl, hX36, ?_⟩
              have hzs36 : w33.heap.size ≤ w36.heap.size := hX36.size
              have hE36 : Ext w w36 := hE33.trans hX36
              have hL28_0x36 := hL28_0x33.ext ((good_owS (good_oFn 31 6))) hX36
              have hL28_1x36 := hL28_1x33.ext (o1) hX36
              have hL28_2x36 := hL28_2x33.ext (o2) hX36
              have hL28_3x36 := hL28_3x33.ext (o2) hX36
              have hL28_4x36 := hL28_4x33.ext (o2) hX36
              have hd31x36 := hd31x33.ext g1 hX36
              have hlx37 := ldH_ext hX36 hlx34
              have hd32x36 := hd32x33.ext g1 hX36
              have hlx38 := ldH_ext hX36 hlx35
              have hO33_0x36 := hO33_0.ext (o1) hX36
              have hc39 : ¬ (((jaT pD 2 aD (pD.getD 2 Fn.zero).outs.length aD.length).getD i []).getD k 0 ≠ dotG ((jaT pD 1 (euR pD ((0 : Nat) : Int) aD) (pD.getD 1 Fn.zero).outs.length (euR pD ((0 : Nat) : Int) aD).length).getD i []) ((jaT pD 0 aD (pD.getD 0 Fn.zero).outs.length aD.length).map (fun r => r.getD k 0)) ((jaT pD 1 (euR pD ((0 : Nat) : Int) aD) (pD.getD 1 Fn.zero).outs.length (euR pD ((0 : Nat) : Int) aD).length).getD i []).length) := (fun h9 => h9 (hCD.prod h00 h11 h22 z5_3 oM))
              exact q_neq false rfl rfl (decide_eq_false hc39) zN (lw_nil (c_cond_f rfl (wp_skip (wp_plain _ [0, 0, 0] rfl (lw_tv 1 rfl (q_add ((k + 1 : Nat) : Int) rfl rfl (w64n oM oM) zN (lw_tvn 1 rfl ⟨(k + 1), _, rfl, ⟨rfl, rfl, rfl, rfl, rfl, rfl, trivial⟩, ⟨hE36, hL28_0x36, hL28_1x36, hL28_2x36, hL28_3x36, hL28_4x36, oM, oM⟩, by first | omega | (dsimp only; omega)⟩)))))))
            ·
              exact q_lss false rfl rfl (decide_eq_false hc30) zN (lw_nil (c_cond_f rfl (wp_exit (t_exit (t_exit (c_exit_here (wp_plain _ [0, 0, 0] rfl (lw_tv 1 rfl (q_add ((i + 1 : Nat) : Int) rfl rfl (w64n oM z5_3) zN (lw_tvn 1 rfl ⟨(i + 1), _, rfl, ⟨rfl, rfl, rfl, rfl, rfl, trivial⟩, ⟨hE28, hL28_0, hL28_1, hL28_2, hL28_3, hL28_4, oM, oM⟩, by first | omega | (dsimp only; omega)⟩))))))))))
          ·
            exact q_lss false rfl rfl (decide_eq_false hc27) zN (lw_nil (c_cond_f rfl (wp_exit (t_exit (t_exit (c_exit_here (wp_seq (wp_plain _ [0] rfl (lw_tvn 1 rfl (wp_ret (post_ret [4] rfl (.bool true) rfl ⟨z5_2, hE25⟩)))))))))))
  ·
    exact c_cond_t (by first | rfl | (show Value.bool _ = _; rw [hb2])) (wp_seq (wp_plain _ [0] rfl (lw_tvn 1 rfl (wp_ret (t_ret (post_ret [4] rfl (.bool true) rfl ⟨z5_2, hE1⟩))))))
end Go.Proofs.Ytnokbaiemimhjaa
