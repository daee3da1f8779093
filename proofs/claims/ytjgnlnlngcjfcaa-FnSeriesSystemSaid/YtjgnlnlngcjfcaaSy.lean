/- Contracts of functions: each says what the function returns for all arguments that meet its premises. Printed by gen.py. -/
import Derived.Test.YtjgnlnlngcjfcaaMs
import Derived.Test.YtjgnlnlngcjfcaaFwN
import Derived.Test.YtjgnlnlngcjfcaaT
import Derived.Test.YtjgnlnlngcjfcaaSa
import Derived.Test.YtjgnlnlngcjfcaaSb
import Derived.Test.YtjgnlnlngcjfcaaSc
import Derived.Test.YtjgnlnlngcjfcaaSf
import Derived.Test.YtjgnlnlngcjfcaaSn
import Derived.Test.YtjgnlnlngcjfcaaSr
import Derived.Test.YtjgnlnlngcjfcaaSt
import Derived.Test.YtjgnlnlngcjfcaaSw
import Derived.Test.YtjgnlnlngcjfcaaSx
import Derived.Test.YtjgnlnlngcjfcaaProg
namespace Go.Proofs.Ytjgnlnlngcjfcaa
open Go Go.RowKit
set_option linter.unusedVariables false
set_option linter.unusedSimpArgs false
attribute [local irreducible] LW
/- laws.FnSeriesSystem -/
set_option maxHeartbeats 4000000 in
set_option maxRecDepth 100000 in
theorem c_laws_FnSeriesSystem (w : World) (vc : Value) (cs : List UInt8) (vd : Value) (ds : List UInt8) (hcs : Rd (rdL rU) w.heap vc cs) (hds : Rd (rdL rU) w.heap vd ds)  :
    Calls Try.prog 7 #[vc, vd] w (fun e w' => e = .returned (.bool true) ∧ Ext w w') := by
  refine calls_mk [vc, vd] 160 Try.func7 rfl rfl (by simp) ?_
  have hE0 : Ext w w := Ext.refl w
  have hl_vc := hcs.lenle
  have hl_vd := hds.lenle
  refine wp_seq ?_
  refine wp_plain _ [0] rfl ?_
  refine q_assign (.bool false) rfl up_none ?_
  refine lw_nil ?_
  refine wp_seq ?_
  refine wp_seq ?_
  refine wp_plain _ [0, 0, 3] rfl ?_
  refine q_move vc rfl up_none ?_
  refine q_move vd rfl up_none ?_
  refine lw_call 28 [] [] [vc, vd] rfl rfl cf28 up_none (c_laws_a2Long _ _ _ _ _ (hcs.ext good_u hE0) (hds.ext good_u hE0)) ?_
  rintro e1 w1 ⟨rfl, hX1⟩
  refine ⟨_, rfl, hX1, ?_⟩
  have hzs1 : w.heap.size ≤ w1.heap.size := hX1.size
  have hE1 : Ext w w1 := hE0.trans hX1
  refine lw_nil ?_
  cases hb2 : (decide (((3000 : Nat) : Int) < ((cs.length : Nat) : Int)) || decide (((3000 : Nat) : Int) < ((ds.length : Nat) : Int)))
  ·
    refine c_cond_f (by first | rfl | (show Value.bool _ = _; rw [hb2])) ?_
    refine wp_skip ?_
    refine wp_seq ?_
    refine wp_plain _ [0, 3, 0, 0, 0, 0, 0] rfl ?_
    refine q_move vc rfl up_none ?_
    refine lw_call 29 [] [] [vc] rfl rfl cf29 up_none (c_spec_A2Matrix _ _ _ (hcs.ext good_u hE1)) ?_
    rintro e3 w3 ⟨v3_0, v3_1, x3_0, x3_1, rfl, hX3, hO3_0, hO3_1, hp3_0, hp3_1⟩
    refine ⟨_, rfl, hX3, ?_⟩
    have hzs3 : w1.heap.size ≤ w3.heap.size := hX3.size
    have hE3 : Ext w w3 := hE1.trans hX3
    refine q_move (.tuple #[v3_0, v3_1]) rfl up_none ?_
    refine q_extract (vs := [v3_0, v3_1]) v3_0 rfl rfl up_none ?_
    refine q_extract (vs := [v3_0, v3_1]) v3_1 rfl rfl up_none ?_
    refine q_assign v3_0 rfl up_none ?_
    refine q_assign v3_1 rfl up_none ?_
    refine lw_nil ?_
    refine wp_seq ?_
    refine wp_plain _ [0, 0, 0] rfl ?_
    refine q_move v3_0 rfl up_none ?_
    refine q_len (v := v3_0) u22 rfl hO3_0.isSl up_none ?_
    refine q_assign (.int .i64 ((x3_0.length : Nat) : Int)) rfl up_none ?_
    refine lw_nil ?_
    refine wp_seq ?_
    refine wp_plain _ [0, 3, 0, 0] rfl ?_
    have hsz := a2at_num ds ((0 : Nat) : Int) ((6 : Nat) : Int)
    refine q_move vd rfl up_none ?_
    refine lw_call 30 [] [] [vd, (.int .i64 ((0 : Nat) : Int)), (.int .i64 ((6 : Nat) : Int))] rfl rfl cf30 up_none (c_laws_a2At _ _ _ _ _ (hds.ext good_u hE3) (by omega) (by omega) (by omega)) ?_
    rintro e4 w4 ⟨rfl, hX4⟩
    refine ⟨_, rfl, hX4, ?_⟩
    have hzs4 : w3.heap.size ≤ w4.heap.size := hX4.size
    have hE4 : Ext w w4 := hE3.trans hX4
    have hO3_0x4 := hO3_0.ext (o2) hX4
    have hO3_1x4 := hO3_1.ext (o1) hX4
    refine q_add (((1 : Nat) : Int) + (a2at ds ((0 : Nat) : Int) ((6 : Nat) : Int))) rfl rfl (w64 (by first | omega | assumption | (simp only [List.length_nil, List.length_cons, List.length_append, List.length_set, List.length_replicate]; omega) | (simp [List.length_nil, List.length_cons, List.length_append, List.length_set, List.length_replicate]; done) | (simp [List.length_nil, List.length_cons, List.length_append, List.length_set, List.length_replicate]; omega)) (by first | omega | assumption | (simp only [List.length_nil, List.length_cons, List.length_append, List.length_set, List.length_replicate]; omega) | (simp [List.length_nil, List.length_cons, List.length_append, List.length_set, List.length_replicate]; done) | (simp [List.length_nil, List.length_cons, List.length_append, List.length_set, List.length_replicate]; omega))) up_none ?_
    refine q_assign (.int .i64 (((1 : Nat) : Int) + (a2at ds ((0 : Nat) : Int) ((6 : Nat) : Int)))) rfl up_none ?_
    refine lw_nil ?_
    refine wp_seq ?_
    refine wp_plain _ [3, 0] rfl ?_
    refine r_nil (owL (owL rI 2) 29) o2 u45 ti22 up_none ?_
    intro v5 w5 hX5 hz5 hO5
    have hzs5 : w4.heap.size ≤ w5.heap.size := hX5.size
    have hE5 : Ext w w5 := hE4.trans hX5
    have hO3_0x5 := hO3_0x4.ext (o2) hX5
    have hO3_1x5 := hO3_1x4.ext (o1) hX5
    refine q_assign v5 rfl up_none ?_
    refine lw_nil ?_
    refine wp_seq ?_
    refine wp_plain _ [3, 0] rfl ?_
    refine r_nil (owL rI 2) o1 u22 ti29 up_none ?_
    intro v6 w6 hX6 hz6 hO6
    have hzs6 : w5.heap.size ≤ w6.heap.size := hX6.size
    have hE6 : Ext w w6 := hE5.trans hX6
    have hO3_0x6 := hO3_0x5.ext (o2) hX6
    have hO3_1x6 := hO3_1x5.ext (o1) hX6
    have hO5x6 := hO5.ext (o3) hX6
    refine q_assign v6 rfl up_none ?_
    refine lw_nil ?_
    refine wp_seq ?_
    refine wp_seq ?_
    refine wp_plain _ [0] rfl ?_
    refine q_assign (.int .i64 ((0 : Nat) : Int)) rfl up_none ?_
    refine lw_nil ?_
    refine wp_block ?_
    obtain ⟨N, hN⟩ : ∃ N : Nat, ((N : Nat) : Int) = (((1 : Nat) : Int) + (a2at ds ((0 : Nat) : Int) ((6 : Nat) : Int))) ∧ 1 ≤ N ∧ N ≤ 6 := ⟨((((1 : Nat) : Int) + (a2at ds ((0 : Nat) : Int) ((6 : Nat) : Int)))).toNat, by omega⟩
    obtain ⟨nn, hnn⟩ : ∃ nn : Nat, nn = x3_0.length := ⟨_, rfl⟩
    obtain ⟨Fa0, hoa⟩ := Ow.of_fr hO5x6 (Nat.le_refl _)
    obtain ⟨Fb0, hob⟩ := Ow.of_fr hO6 (Nat.le_refl _)
    have hdab : ∀ b ∈ Fa0, b ∉ Fb0 := fun b hb hm => by have := hoa.high b hb; have := hob.low b hm; omega
    refine c_loop (S := Nat × Value × Value × List (List (List Int)) × List (List Int) × List Nat × List Nat) (fun (⟨i, va, vb, A, Bs, Fa, Fb⟩ : Nat × Value × Value × List (List (List Int)) × List (List Int) × List Nat × List Nat) => ([(9, va), (10, vb), (11, (.int .i64 ((i : Nat) : Int))), (0, vc), (1, vd), (5, v3_0), (6, v3_1), (7, (.int .i64 ((x3_0.length : Nat) : Int))), (8, (.int .i64 (((1 : Nat) : Int) + (a2at ds ((0 : Nat) : Int) ((6 : Nat) : Int)))))] : List (Nat × Value))) (fun (⟨i, va, vb, A, Bs, Fa, Fb⟩ : Nat × Value × Value × List (List (List Int)) × List (List Int) × List Nat × List Nat) (W : World) => Ext w W ∧ Ow (owL (owL (owL rI 2) 29) 22) w4.heap.size W.heap.size W.heap va A Fa ∧ Ow (owL (owL rI 2) 29) w5.heap.size W.heap.size W.heap vb Bs Fb ∧ (∀ b ∈ Fa, b ∉ Fb) ∧ Fr (owL (owL rI 2) 29) w1.heap.size w3.heap.size W.heap v3_0 x3_0 ∧ Fr (owL rI 2) w1.heap.size w3.heap.size W.heap v3_1 x3_1 ∧ i ≤ nn ∧ Dr x3_0 x3_1 nn N i A Bs ∧ w4.heap.size ≤ W.heap.size ∧ w5.heap.size ≤ W.heap.size) (fun (⟨i, va, vb, A, Bs, Fa, Fb⟩ : Nat × Value × Value × List (List (List Int)) × List (List Int) × List Nat × List Nat) => nn - i) (0, v5, v6, [], [], Fa0, Fb0) ⟨rfl, rfl, rfl, rfl, rfl, rfl, rfl, rfl, rfl, trivial⟩ ⟨hE6, (hoa.up (by omega)), (hob.up (by omega)), hdab, hO3_0x6, hO3_1x6, (by omega), (by exact Dr.nil _ _ _ _), (by omega), (by omega)⟩ ?_
    clear hE0 hX1 hO3_1 hO3_0 hX3 hX4 hO3_0x4 hO3_1x4 hO5 hz5 hX5 hO3_0x5 hO3_1x5 hO6 hz6 hX6 hzs6 hE6 hO3_0x6 hO3_1x6 hO5x6
    rintro ⟨i, va, vb, A, Bs, Fa, Fb⟩ ρ7 w7 ⟨hE7, hL7_0, hL7_1, hL7_2, hL7_3, hL7_4, hp7_0, hdr, hkB8, hkB9⟩
    have hzs7 : w.heap.size ≤ w7.heap.size := hE7.size
    refine wp_seq ?_
    refine wp_seq ?_
    refine wp_plain _ [0, 0, 0] rfl ?_
    refine q_move (.int .i64 ((i : Nat) : Int)) rfl up_none ?_
    refine q_move (.int .i64 ((x3_0.length : Nat) : Int)) rfl up_none ?_
    by_cases hc10 : ((i : Nat) : Int) < ((x3_0.length : Nat) : Int)
    ·
      refine q_lss true rfl rfl (decide_eq_true hc10) up_none ?_
      refine lw_nil ?_
      refine c_cond_t rfl ?_
      refine wp_skip ?_
      refine wp_seq ?_
      refine wp_block ?_
      refine wp_seq ?_
      refine wp_plain _ [3, 0] rfl ?_
      refine r_nil (owL rI 2) o1 u22 ti29 up_none ?_
      intro v11 w11 hX11 hz11 hO11
      have hzs11 : w7.heap.size ≤ w11.heap.size := hX11.size
      have hE11 : Ext w w11 := hE7.trans hX11
      have hL7_0x11 := hL7_0.ext (o3) hX11
      have hL7_1x11 := hL7_1.ext (o2) hX11
      have hL7_3x11 := hL7_3.ext (o2) hX11
      have hL7_4x11 := hL7_4.ext (o1) hX11
      refine q_assign v11 rfl up_none ?_
      refine lw_nil ?_
      refine wp_seq ?_
      refine wp_seq ?_
      refine wp_plain _ [0] rfl ?_
      refine q_assign (.int .i64 ((0 : Nat) : Int)) rfl up_none ?_
      refine lw_nil ?_
      refine wp_block ?_
      refine c_loop (S := Nat × Value × List (List Int)) (fun (⟨k, vr, R⟩ : Nat × Value × List (List Int)) => ([(12, vr), (13, (.int .i64 ((k : Nat) : Int))), (0, vc), (1, vd), (5, v3_0), (6, v3_1), (7, (.int .i64 ((x3_0.length : Nat) : Int))), (8, (.int .i64 (((1 : Nat) : Int) + (a2at ds ((0 : Nat) : Int) ((6 : Nat) : Int))))), (9, va), (10, vb), (11, (.int .i64 ((i : Nat) : Int)))] : List (Nat × Value))) (fun (⟨k, vr, R⟩ : Nat × Value × List (List Int)) (W : World) => Ext w W ∧ Fr (owL (owL rI 2) 29) w7.heap.size W.heap.size W.heap vr R ∧ Ow (owL (owL (owL rI 2) 29) 22) w4.heap.size w7.heap.size W.heap va A Fa ∧ Ow (owL (owL rI 2) 29) w5.heap.size w7.heap.size W.heap vb Bs Fb ∧ (∀ b ∈ Fa, b ∉ Fb) ∧ Fr (owL (owL rI 2) 29) w1.heap.size w3.heap.size W.heap v3_0 x3_0 ∧ Fr (owL rI 2) w1.heap.size w3.heap.size W.heap v3_1 x3_1 ∧ k ≤ nn ∧ Drw x3_0 i N k R ∧ w7.heap.size ≤ W.heap.size ∧ w4.heap.size ≤ W.heap.size ∧ w5.heap.size ≤ W.heap.size) (fun (⟨k, vr, R⟩ : Nat × Value × List (List Int)) => nn - k) (0, v11, []) ⟨rfl, rfl, rfl, rfl, rfl, rfl, rfl, rfl, rfl, rfl, rfl, trivial⟩ ⟨hE11, hO11.up o2, hL7_0x11, hL7_1x11, hL7_2, hL7_3x11, hL7_4x11, (by omega), (by exact Drw.nil _ _ _), (by omega), (by omega), (by omega)⟩ ?_
      clear hL7_4 hL7_3 hL7_2 hL7_1 hL7_0 hO11 hz11 hX11 hzs11 hE11 hL7_0x11 hL7_1x11 hL7_3x11 hL7_4x11
      rintro ⟨k, vr, R⟩ ρ12 w12 ⟨hE12, hL12_0, hL12_1, hL12_2, hL12_3, hL12_4, hL12_5, hp12_0, hdw, hkB13, hkB14, hkB15⟩
      have hzs12 : w.heap.size ≤ w12.heap.size := hE12.size
      refine wp_seq ?_
      refine wp_seq ?_
      refine wp_plain _ [0, 0, 0] rfl ?_
      refine q_move (.int .i64 ((k : Nat) : Int)) rfl up_none ?_
      refine q_move (.int .i64 ((x3_0.length : Nat) : Int)) rfl up_none ?_
      by_cases hc16 : ((k : Nat) : Int) < ((x3_0.length : Nat) : Int)
      ·
        refine q_lss true rfl rfl (decide_eq_true hc16) up_none ?_
        refine lw_nil ?_
        refine c_cond_t rfl ?_
        refine wp_skip ?_
        refine wp_seq ?_
        refine wp_block ?_
        refine wp_seq ?_
        refine wp_plain _ [0, 0, 3, 0, 0, 0, 0, 0, 3, 0] rfl ?_
        refine q_move vd rfl up_none ?_
        refine q_move (.int .i64 (((1 : Nat) : Int) + (a2at ds ((0 : Nat) : Int) ((6 : Nat) : Int)))) rfl up_none ?_
        refine lw_call 32 [] [] [vd, (.int .i64 (((1 : Nat) : Int) + (a2at ds ((0 : Nat) : Int) ((6 : Nat) : Int))))] rfl rfl cf32 up_none (c_spec_A2List _ _ _ _ (hds.ext good_u hE12) (by omega) (by omega)) ?_
        rintro e17 w17 ⟨v17_0, x17_0, rfl, hX17, hO17_0, hp17_0⟩
        refine ⟨_, rfl, hX17, ?_⟩
        have hzs17 : w12.heap.size ≤ w17.heap.size := hX17.size
        have hE17 : Ext w w17 := hE12.trans hX17
        have hL12_0x17 := hL12_0.ext (o2) hX17
        have hL12_1x17 := hL12_1.ext (o3) hX17
        have hL12_2x17 := hL12_2.ext (o2) hX17
        have hL12_4x17 := hL12_4.ext (o2) hX17
        have hL12_5x17 := hL12_5.ext (o1) hX17
        refine q_move (.int .i64 ((i : Nat) : Int)) rfl up_none ?_
        refine q_add (((1 : Nat) : Int) + ((i : Nat) : Int)) rfl rfl (w64 (by first | omega | assumption | (simp only [List.length_nil, List.length_cons, List.length_append, List.length_set, List.length_replicate]; omega) | (simp [List.length_nil, List.length_cons, List.length_append, List.length_set, List.length_replicate]; done) | (simp [List.length_nil, List.length_cons, List.length_append, List.length_set, List.length_replicate]; omega)) (by first | omega | assumption | (simp only [List.length_nil, List.length_cons, List.length_append, List.length_set, List.length_replicate]; omega) | (simp [List.length_nil, List.length_cons, List.length_append, List.length_set, List.length_replicate]; done) | (simp [List.length_nil, List.length_cons, List.length_append, List.length_set, List.length_replicate]; omega))) up_none ?_
        refine q_move (.int .i64 ((k : Nat) : Int)) rfl up_none ?_
        refine q_mul (((2 : Nat) : Int) * ((k : Nat) : Int)) rfl rfl (w64 (by first | omega | assumption | (simp only [List.length_nil, List.length_cons, List.length_append, List.length_set, List.length_replicate]; omega) | (simp [List.length_nil, List.length_cons, List.length_append, List.length_set, List.length_replicate]; done) | (simp [List.length_nil, List.length_cons, List.length_append, List.length_set, List.length_replicate]; omega)) (by first | omega | assumption | (simp only [List.length_nil, List.length_cons, List.length_append, List.length_set, List.length_replicate]; omega) | (simp [List.length_nil, List.length_cons, List.length_append, List.length_set, List.length_replicate]; done) | (simp [List.length_nil, List.length_cons, List.length_append, List.length_set, List.length_replicate]; omega))) up_none ?_
        refine q_add ((((1 : Nat) : Int) + ((i : Nat) : Int)) + (((2 : Nat) : Int) * ((k : Nat) : Int))) rfl rfl (w64 (by first | omega | assumption | (simp only [List.length_nil, List.length_cons, List.length_append, List.length_set, List.length_replicate]; omega) | (simp [List.length_nil, List.length_cons, List.length_append, List.length_set, List.length_replicate]; done) | (simp [List.length_nil, List.length_cons, List.length_append, List.length_set, List.length_replicate]; omega)) (by first | omega | assumption | (simp only [List.length_nil, List.length_cons, List.length_append, List.length_set, List.length_replicate]; omega) | (simp [List.length_nil, List.length_cons, List.length_append, List.length_set, List.length_replicate]; done) | (simp [List.length_nil, List.length_cons, List.length_append, List.length_set, List.length_replicate]; omega))) up_none ?_
        refine lw_call 31 [] [] [v17_0, (.int .i64 ((((1 : Nat) : Int) + ((i : Nat) : Int)) + (((2 : Nat) : Int) * ((k : Nat) : Int))))] rfl rfl cf31 up_none (c_laws_a2Scale _ _ _ _ hO17_0.rd1 (by omega) (by omega)) ?_
        rintro e18 w18 ⟨v18_0, rfl, hX18, hO18_0⟩
        refine ⟨_, rfl, hX18, ?_⟩
        have hzs18 : w17.heap.size ≤ w18.heap.size := hX18.size
        have hE18 : Ext w w18 := hE17.trans hX18
        have hL12_0x18 := hL12_0x17.ext (o2) hX18
        have hL12_1x18 := hL12_1x17.ext (o3) hX18
        have hL12_2x18 := hL12_2x17.ext (o2) hX18
        have hL12_4x18 := hL12_4x17.ext (o2) hX18
        have hL12_5x18 := hL12_5x17.ext (o1) hX18
        have hO17_0x18 := hO17_0.ext (o1) hX18
        refine q_assign v18_0 rfl up_none ?_
        refine lw_nil ?_
        refine wp_plain _ [0, 0, 0, 0, 0, 2, 0, 0, 2, 3, 3, 4, 0] rfl ?_
        have hrl : (x3_0.getD i []).length = nn := by have := hp3_0.2.2.row i (by omega); omega
        have hRl := hdw.len
        refine q_move vr rfl up_none ?_
        refine q_move v18_0 rfl up_none ?_
        refine q_move v3_0 rfl up_none ?_
        refine q_move (.int .i64 ((i : Nat) : Int)) rfl up_none ?_
        refine q_idx (v := v3_0) i u22 ti29 rfl rfl hL12_4x18.isSl rfl (by first | omega | assumption | (simp only [List.length_nil, List.length_cons, List.length_append, List.length_set, List.length_replicate]; omega) | (simp [List.length_nil, List.length_cons, List.length_append, List.length_set, List.length_replicate]; done) | (simp [List.length_nil, List.length_cons, List.length_append, List.length_set, List.length_replicate]; omega)) up_none ?_
        obtain ⟨ue19, hl19, hd19⟩ := hL12_4x18.rd2.get (k := i) [] (by first | omega | assumption | (simp only [List.length_nil, List.length_cons, List.length_append, List.length_set, List.length_replicate]; omega) | (simp [List.length_nil, List.length_cons, List.length_append, List.length_set, List.length_replicate]; done) | (simp [List.length_nil, List.length_cons, List.length_append, List.length_set, List.length_replicate]; omega))
        have hln19 := hd19.lenle
        refine q_load (p := eptr v3_0 i 1) (.inr rfl) ue19 one29 rfl hl19 up_none ?_
        refine q_move (.int .i64 ((k : Nat) : Int)) rfl up_none ?_
        refine q_idx (v := ue19) k u29 ti2 rfl rfl hd19.isSl rfl (by first | omega | assumption | (simp only [List.length_nil, List.length_cons, List.length_append, List.length_set, List.length_replicate]; omega) | (simp [List.length_nil, List.length_cons, List.length_append, List.length_set, List.length_replicate]; done) | (simp [List.length_nil, List.length_cons, List.length_append, List.length_set, List.length_replicate]; omega)) up_none ?_
        refine q_load (p := eptr ue19 k 1) (.inr rfl) (.int .i64 ((x3_0.getD i []).getD k 0)) one2 rfl (hd19.getI (by first | omega | assumption | (simp only [List.length_nil, List.length_cons, List.length_append, List.length_set, List.length_replicate]; omega) | (simp [List.length_nil, List.length_cons, List.length_append, List.length_set, List.length_replicate]; done) | (simp [List.length_nil, List.length_cons, List.length_append, List.length_set, List.length_replicate]; omega))).1 up_none ?_
        refine lw_call 33 [] [] [v18_0, (.int .i64 ((x3_0.getD i []).getD k 0))] rfl rfl cf33 up_none (c_laws_a2Begin _ _ _ _ hO18_0.rd1 (hd19.getI (by first | omega | assumption | (simp only [List.length_nil, List.length_cons, List.length_append, List.length_set, List.length_replicate]; omega) | (simp [List.length_nil, List.length_cons, List.length_append, List.length_set, List.length_replicate]; done) | (simp [List.length_nil, List.length_cons, List.length_append, List.length_set, List.length_replicate]; omega))).2 (by first | omega | assumption | (simp only [List.length_nil, List.length_cons, List.length_append, List.length_set, List.length_replicate]; omega) | (simp [List.length_nil, List.length_cons, List.length_append, List.length_set, List.length_replicate]; done) | (simp [List.length_nil, List.length_cons, List.length_append, List.length_set, List.length_replicate]; omega))) ?_
        rintro e20 w20 ⟨v20_0, rfl, hX20, hO20_0⟩
        refine ⟨_, rfl, hX20, ?_⟩
        have hzs20 : w18.heap.size ≤ w20.heap.size := hX20.size
        have hE20 : Ext w w20 := hE18.trans hX20
        have hL12_0x20 := hL12_0x18.ext (o2) hX20
        have hL12_1x20 := hL12_1x18.ext (o3) hX20
        have hL12_2x20 := hL12_2x18.ext (o2) hX20
        have hL12_4x20 := hL12_4x18.ext (o2) hX20
        have hL12_5x20 := hL12_5x18.ext (o1) hX20
        have hO17_0x20 := hO17_0x18.ext (o1) hX20
        have hO18_0x20 := hO18_0.ext (o1) hX20
        have hd19x20 := hd19.ext g1 hX20
        have hlx21 := ldH_ext hX20 hl19
        refine r_one (u := v20_0) (B := w18.heap.size) o1 u22 ti29 rfl rfl hO20_0 (by first | exact Nat.le_refl _ | omega) up_none ?_
        intro v22 w22 hX22 hz22 hO22
        have hzs22 : w20.heap.size ≤ w22.heap.size := hX22.size
        have hE22 : Ext w w22 := hE20.trans hX22
        have hL12_0x22 := hL12_0x20.ext (o2) hX22
        have hL12_1x22 := hL12_1x20.ext (o3) hX22
        have hL12_2x22 := hL12_2x20.ext (o2) hX22
        have hL12_4x22 := hL12_4x20.ext (o2) hX22
        have hL12_5x22 := hL12_5x20.ext (o1) hX22
        have hO17_0x22 := hO17_0x20.ext (o1) hX22
        have hO18_0x22 := hO18_0x20.ext (o1) hX22
        have hd19x22 := hd19x20.ext g1 hX22
        have hlx23 := ldH_ext hX22 hlx21
        refine e_appF o1 (v := vr) (a := v22) u22 ti29 rfl rfl rfl hL12_0x22 (by omega) hO22 (by omega) (by omega) (by first | omega | assumption | (simp only [List.length_nil, List.length_cons, List.length_append, List.length_set, List.length_replicate]; omega) | (simp [List.length_nil, List.length_cons, List.length_append, List.length_set, List.length_replicate]; done) | (simp [List.length_nil, List.length_cons, List.length_append, List.length_set, List.length_replicate]; omega)) (by unfold maxLen; first | omega | assumption | (simp only [List.length_nil, List.length_cons, List.length_append, List.length_set, List.length_replicate]; omega) | (simp [List.length_nil, List.length_cons, List.length_append, List.length_set, List.length_replicate]; done) | (simp [List.length_nil, List.length_cons, List.length_append, List.length_set, List.length_replicate]; omega)) up_none ?_
        intro v24 w24 F24 hC24 hF24 hO24
        have hE24 : Ext w w24 := hC24.below hE22 (fun c hc => Nat.le_trans hE7.size (hF24 c hc).1) hE22.size
        have hzs24 : w22.heap.size ≤ w24.heap.size := hC24.size
        have hF25 := hL12_1x22.keep (o3) hC24 (fun c hc hm => by have := hF24 c hc; have := hL12_1x22.high c hm; omega)
        have hF26 := hL12_2x22.keep (o2) hC24 (fun c hc hm => by have := hF24 c hc; have := hL12_2x22.high c hm; omega)
        have hF27 := hL12_4x22.chg (o2) hC24 (fun c hc => by have := hF24 c hc; omega)
        have hF28 := hL12_5x22.chg (o1) hC24 (fun c hc => by have := hF24 c hc; omega)
        have hF29 := hO17_0x22.chg (o1) hC24 (fun c hc => by have := hF24 c hc; omega)
        have hF30 := hO18_0x22.chg (o1) hC24 (fun c hc => by have := hF24 c hc; omega)
        refine q_assign v24 rfl up_none ?_
        refine lw_nil ?_
        refine wp_plain _ [0, 0, 0] rfl ?_
        refine q_move (.int .i64 ((k : Nat) : Int)) rfl up_none ?_
        refine q_add ((k + 1 : Nat) : Int) rfl rfl (w64n (by omega) (by omega)) up_none ?_
        refine q_assign (.int .i64 ((k + 1 : Nat) : Int)) rfl up_none ?_
        refine lw_nil ?_
        exact ⟨(((((k + 1 : Nat) : Int)).toNat), v24, (R ++ [(scl x17_0 ((((1 : Nat) : Int) + ((i : Nat) : Int)) + (((2 : Nat) : Int) * ((k : Nat) : Int)))).set 0 ((x3_0.getD i []).getD k 0)])), _, rfl, ⟨rfl, rfl, rfl, rfl, rfl, rfl, rfl, rfl, rfl, rfl, rfl, trivial⟩, ⟨hE24, hO24.up o2, hF25, hF26, hL12_3, hF27, hF28, (by omega), (by exact hdw.snoc (ser_begin (by omega) (by omega) (allN_get (hp3_0.2.2.num _) _))), (by omega), (by omega), (by omega)⟩, by first | omega | (dsimp only; omega)⟩
      ·
        refine q_lss false rfl rfl (decide_eq_false hc16) up_none ?_
        refine lw_nil ?_
        refine c_cond_f rfl ?_
        refine wp_exit ?_
        refine t_exit ?_
        refine t_exit ?_
        refine c_exit_here ?_
        refine wp_seq ?_
        refine wp_plain _ [0, 0, 3, 4, 0] rfl ?_
        have hal := hdr.la
        have hbl := hdr.lb
        refine q_move va rfl up_none ?_
        refine q_move vr rfl up_none ?_
        refine r_one (u := vr) (B := w7.heap.size) o2 u45 ti22 rfl rfl hL12_0 (by first | exact Nat.le_refl _ | omega) up_none ?_
        intro v31 w31 hX31 hz31 hO31
        have hzs31 : w12.heap.size ≤ w31.heap.size := hX31.size
        have hE31 : Ext w w31 := hE12.trans hX31
        have hL12_1x31 := hL12_1.ext (o3) hX31
        have hL12_2x31 := hL12_2.ext (o2) hX31
        have hL12_4x31 := hL12_4.ext (o2) hX31
        have hL12_5x31 := hL12_5.ext (o1) hX31
        refine e_appO o2 (v := va) (a := v31) u45 ti22 rfl rfl rfl hL12_1x31 hO31 (by omega) (by omega) (by omega) (by first | omega | assumption | (simp only [List.length_nil, List.length_cons, List.length_append, List.length_set, List.length_replicate]; omega) | (simp [List.length_nil, List.length_cons, List.length_append, List.length_set, List.length_replicate]; done) | (simp [List.length_nil, List.length_cons, List.length_append, List.length_set, List.length_replicate]; omega)) (by unfold maxLen; first | omega | assumption | (simp only [List.length_nil, List.length_cons, List.length_append, List.length_set, List.length_replicate]; omega) | (simp [List.length_nil, List.length_cons, List.length_append, List.length_set, List.length_replicate]; done) | (simp [List.length_nil, List.length_cons, List.length_append, List.length_set, List.length_replicate]; omega)) up_none ?_
        intro v32 w32 F32 hC32 hO32 hU32
        have hzs32 : w31.heap.size ≤ w32.heap.size := hC32.size
        have hE32 : Ext w w32 := hC32.below hE31 (fun c hc => Nat.le_trans hE4.size (hL12_1x31.low c (List.mem_of_mem_take hc))) hE31.size
        have hF33 := hL12_2x31.keep (o2) hC32 (fun c hc hm => hL12_3 c (List.mem_of_mem_take hc) hm)
        have hD34 : ∀ b ∈ F32, b ∉ Fb := fun b hb hm => (hU32 b hb).elim (fun hh => hL12_3 b hh hm) (fun hh => by have := hL12_2x31.high b hm; omega)
        have hF35 := hL12_4x31.chg (o2) hC32 (fun c hc => by have := hL12_1x31.high c (List.mem_of_mem_take hc); have := hL12_1x31.low c (List.mem_of_mem_take hc); omega)
        have hF36 := hL12_5x31.chg (o1) hC32 (fun c hc => by have := hL12_1x31.high c (List.mem_of_mem_take hc); have := hL12_1x31.low c (List.mem_of_mem_take hc); omega)
        refine q_assign v32 rfl up_none ?_
        refine lw_nil ?_
        refine wp_draw _ [0, 0, 0, 3, 0, 0, 3, 0, 0, 0, 1, 3, 3, 4, 0] mixed (by kernel_rfl) ?_
        have hbl2 : x3_1.length = nn := by omega
        refine q_move vb rfl up_none ?_
        refine q_move vc rfl up_none ?_
        refine q_move (.int .i64 (((1 : Nat) : Int) + (a2at ds ((0 : Nat) : Int) ((6 : Nat) : Int)))) rfl up_none ?_
        refine lw_call 32 [] [] [vc, (.int .i64 (((1 : Nat) : Int) + (a2at ds ((0 : Nat) : Int) ((6 : Nat) : Int))))] rfl rfl cf32 up_none (c_spec_A2List _ _ _ _ (hcs.ext good_u hE32.drew) (by omega) (by omega)) ?_
        rintro e37 w37 ⟨v37_0, x37_0, rfl, hX37, hO37_0, hp37_0⟩
        refine ⟨_, rfl, hX37, ?_⟩
        replace hX37 := hX37.of_drew
        have hzs37 : w32.heap.size ≤ w37.heap.size := hX37.size
        have hE37 : Ext w w37 := hE32.trans hX37
        have hF33x37 := hF33.ext (o2) hX37
        have hF35x37 := hF35.ext (o2) hX37
        have hF36x37 := hF36.ext (o1) hX37
        have hO32x37 := hO32.ext (o3) hX37
        replace hO37_0 := hO37_0.low (B' := w32.heap.size) (Nat.le_refl _)
        refine q_move (.int .i64 ((i : Nat) : Int)) rfl up_none ?_
        refine q_add (((1 : Nat) : Int) + ((i : Nat) : Int)) rfl rfl (w64 (by first | omega | assumption | (simp only [List.length_nil, List.length_cons, List.length_append, List.length_set, List.length_replicate]; omega) | (simp [List.length_nil, List.length_cons, List.length_append, List.length_set, List.length_replicate]; done) | (simp [List.length_nil, List.length_cons, List.length_append, List.length_set, List.length_replicate]; omega)) (by first | omega | assumption | (simp only [List.length_nil, List.length_cons, List.length_append, List.length_set, List.length_replicate]; omega) | (simp [List.length_nil, List.length_cons, List.length_append, List.length_set, List.length_replicate]; done) | (simp [List.length_nil, List.length_cons, List.length_append, List.length_set, List.length_replicate]; omega))) up_none ?_
        refine lw_call 31 [] [] [v37_0, (.int .i64 (((1 : Nat) : Int) + ((i : Nat) : Int)))] rfl rfl cf31 up_none (c_laws_a2Scale _ _ _ _ hO37_0.rd1 (by omega) (by omega)) ?_
        rintro e38 w38 ⟨v38_0, rfl, hX38, hO38_0⟩
        refine ⟨_, rfl, hX38, ?_⟩
        have hzs38 : w37.heap.size ≤ w38.heap.size := hX38.size
        have hE38 : Ext w w38 := hE37.trans hX38
        have hF33x38 := hF33x37.ext (o2) hX38
        have hF35x38 := hF35x37.ext (o2) hX38
        have hF36x38 := hF36x37.ext (o1) hX38
        have hO32x38 := hO32x37.ext (o3) hX38
        have hO37_0x38 := hO37_0.ext (o1) hX38
        refine q_move v3_1 rfl up_none ?_
        refine q_move (.int .i64 ((i : Nat) : Int)) rfl up_none ?_
        refine q_idx (v := v3_1) i u29 ti2 rfl rfl hF36x38.isSl rfl (by first | omega | assumption | (simp only [List.length_nil, List.length_cons, List.length_append, List.length_set, List.length_replicate]; omega) | (simp [List.length_nil, List.length_cons, List.length_append, List.length_set, List.length_replicate]; done) | (simp [List.length_nil, List.length_cons, List.length_append, List.length_set, List.length_replicate]; omega)) up_none ?_
        refine q_load (p := eptr v3_1 i 1) (.inl rfl) (.int .i64 (x3_1.getD i 0)) one2 rfl (hF36.rd1.getI (by first | omega | assumption | (simp only [List.length_nil, List.length_cons, List.length_append, List.length_set, List.length_replicate]; omega) | (simp [List.length_nil, List.length_cons, List.length_append, List.length_set, List.length_replicate]; done) | (simp [List.length_nil, List.length_cons, List.length_append, List.length_set, List.length_replicate]; omega))).1 up_none ?_
        refine lw_call 33 [] [] [v38_0, (.int .i64 (x3_1.getD i 0))] rfl rfl cf33 up_none (c_laws_a2Begin _ _ _ _ hO38_0.rd1 (hF36.rd1.getI (by first | omega | assumption | (simp only [List.length_nil, List.length_cons, List.length_append, List.length_set, List.length_replicate]; omega) | (simp [List.length_nil, List.length_cons, List.length_append, List.length_set, List.length_replicate]; done) | (simp [List.length_nil, List.length_cons, List.length_append, List.length_set, List.length_replicate]; omega))).2 (by first | omega | assumption | (simp only [List.length_nil, List.length_cons, List.length_append, List.length_set, List.length_replicate]; omega) | (simp [List.length_nil, List.length_cons, List.length_append, List.length_set, List.length_replicate]; done) | (simp [List.length_nil, List.length_cons, List.length_append, List.length_set, List.length_replicate]; omega))) ?_
        rintro e39 w39 ⟨v39_0, rfl, hX39, hO39_0⟩
        refine ⟨_, rfl, hX39, ?_⟩
        have hzs39 : w38.heap.size ≤ w39.heap.size := hX39.size
        have hE39 : Ext w w39 := hE38.trans hX39
        have hF33x39 := hF33x38.ext (o2) hX39
        have hF35x39 := hF35x38.ext (o2) hX39
        have hF36x39 := hF36x38.ext (o1) hX39
        have hO32x39 := hO32x38.ext (o3) hX39
        have hO37_0x39 := hO37_0x38.ext (o1) hX39
        have hO38_0x39 := hO38_0.ext (o1) hX39
        refine r_one (u := v39_0) (B := w38.heap.size) o1 u22 ti29 rfl rfl hO39_0 (by first | exact Nat.le_refl _ | omega) up_none ?_
        intro v40 w40 hX40 hz40 hO40
        have hzs40 : w39.heap.size ≤ w40.heap.size := hX40.size
        have hE40 : Ext w w40 := hE39.trans hX40
        have hF33x40 := hF33x39.ext (o2) hX40
        have hF35x40 := hF35x39.ext (o2) hX40
        have hF36x40 := hF36x39.ext (o1) hX40
        have hO32x40 := hO32x39.ext (o3) hX40
        have hO37_0x40 := hO37_0x39.ext (o1) hX40
        have hO38_0x40 := hO38_0x39.ext (o1) hX40
        refine e_appO o1 (v := vb) (a := v40) u22 ti29 rfl rfl rfl hF33x40 hO40 (by omega) (by omega) (by omega) (by first | omega | assumption | (simp only [List.length_nil, List.length_cons, List.length_append, List.length_set, List.length_replicate]; omega) | (simp [List.length_nil, List.length_cons, List.length_append, List.length_set, List.length_replicate]; done) | (simp [List.length_nil, List.length_cons, List.length_append, List.length_set, List.length_replicate]; omega)) (by unfold maxLen; first | omega | assumption | (simp only [List.length_nil, List.length_cons, List.length_append, List.length_set, List.length_replicate]; omega) | (simp [List.length_nil, List.length_cons, List.length_append, List.length_set, List.length_replicate]; done) | (simp [List.length_nil, List.length_cons, List.length_append, List.length_set, List.length_replicate]; omega)) up_none ?_
        intro v41 w41 F41 hC41 hO41 hU41
        have hzs41 : w40.heap.size ≤ w41.heap.size := hC41.size
        have hE41 : Ext w w41 := hC41.below hE40 (fun c hc => Nat.le_trans hE5.size (hF33x40.low c (List.mem_of_mem_take hc))) hE40.size
        have hF42 := hF35x40.chg (o2) hC41 (fun c hc => by have := hF33x40.high c (List.mem_of_mem_take hc); have := hF33x40.low c (List.mem_of_mem_take hc); omega)
        have hF43 := hF36x40.chg (o1) hC41 (fun c hc => by have := hF33x40.high c (List.mem_of_mem_take hc); have := hF33x40.low c (List.mem_of_mem_take hc); omega)
        have hF44 := hO32x40.keep (o3) hC41 (fun c hc hm => (fun b hb hm => hD34 b hm hb) c (List.mem_of_mem_take hc) hm)
        have hD45 : ∀ b ∈ F41, b ∉ F32 := fun b hb hm => (hU41 b hb).elim (fun hh => (fun b hb hm => hD34 b hm hb) b hh hm) (fun hh => by have := hO32x40.high b hm; omega)
        have hF46 := hO37_0x40.chg (o1) hC41 (fun c hc => by have := hF33x40.high c (List.mem_of_mem_take hc); have := hF33x40.low c (List.mem_of_mem_take hc); omega)
        have hF47 := hO38_0x40.chg (o1) hC41 (fun c hc => by have := hF33x40.high c (List.mem_of_mem_take hc); have := hF33x40.low c (List.mem_of_mem_take hc); omega)
        refine q_assign v41 rfl up_none ?_
        refine lw_nil ?_
        refine wp_plain _ [0, 0, 0] rfl ?_
        refine q_move (.int .i64 ((i : Nat) : Int)) rfl up_none ?_
        refine q_add ((i + 1 : Nat) : Int) rfl rfl (w64n (by omega) (by omega)) up_none ?_
        refine q_assign (.int .i64 ((i + 1 : Nat) : Int)) rfl up_none ?_
        refine lw_nil ?_
        exact ⟨((i + 1), v32, v41, (A ++ [R]), (Bs ++ [(scl x37_0 (((1 : Nat) : Int) + ((i : Nat) : Int))).set 0 (x3_1.getD i 0)]), F32, F41), _, rfl, ⟨rfl, rfl, rfl, rfl, rfl, rfl, rfl, rfl, rfl, trivial⟩, ⟨hE41, (by have h := hF44.up (T' := w41.heap.size) (by omega); exact h), (by have h := hO41.up (T' := w41.heap.size) (by omega); exact h), (fun b hb hm => hD45 b hm hb), hF42, hF43, (by omega), (by exact hdr.snoc (show Drw x3_0 i N nn R from (show k = nn by omega) ▸ hdw) (ser_begin (by omega) (by omega) (allN_get hp3_1.2 _))), (by omega), (by omega)⟩, by first | omega | (dsimp only; omega)⟩
    ·
      refine q_lss false rfl rfl (decide_eq_false hc10) up_none ?_
      refine lw_nil ?_
      refine c_cond_f rfl ?_
      refine wp_exit ?_
      refine t_exit ?_
      refine t_exit ?_
      refine c_exit_here ?_
      refine wp_seq ?_
      refine wp_plain _ [0, 0, 3, 0, 0, 0, 0, 0] rfl ?_
      have hfr48 := hL7_0.fr
      have hfr49 := hL7_1.fr
      refine q_move v3_0 rfl up_none ?_
      refine q_move v3_1 rfl up_none ?_
      refine lw_call 23 [] [] [v3_0, v3_1] rfl rfl cf23 up_none (c_spec_SolveLinear _ _ _ _ _ hL7_3.rd2 hL7_4.rd1) ?_
      rintro e50 w50 ⟨v50_0, rfl, hX50, hO50_0⟩
      refine ⟨_, rfl, hX50, ?_⟩
      have hzs50 : w7.heap.size ≤ w50.heap.size := hX50.size
      have hE50 : Ext w w50 := hE7.trans hX50
      have hfr48x50 := hfr48.ext (o3) hX50
      have hfr49x50 := hfr49.ext (o2) hX50
      have hL7_3x50 := hL7_3.ext (o2) hX50
      have hL7_4x50 := hL7_4.ext (o1) hX50
      refine q_move (.tuple #[v50_0, (.int .i64 (slC x3_0 x3_1))]) rfl up_none ?_
      refine q_extract (vs := [v50_0, (.int .i64 (slC x3_0 x3_1))]) v50_0 rfl rfl up_none ?_
      refine q_extract (vs := [v50_0, (.int .i64 (slC x3_0 x3_1))]) (.int .i64 (slC x3_0 x3_1)) rfl rfl up_none ?_
      refine q_assign v50_0 rfl up_none ?_
      refine q_assign (.int .i64 (slC x3_0 x3_1)) rfl up_none ?_
      refine lw_nil ?_
      refine wp_seq ?_
      refine wp_plain _ [0, 0, 3, 0, 0, 0, 0, 0] rfl ?_
      have hal := hdr.la
      have hbl := hdr.lb
      refine q_move va rfl up_none ?_
      refine q_move vb rfl up_none ?_
      refine lw_call 34 [] [] [va, vb] rfl rfl cf34 up_none (c_impl_SolveSeries _ _ _ _ _ hfr48x50.rd3 hfr49x50.rd2 (by first | omega | assumption | (simp only [List.length_nil, List.length_cons, List.length_append, List.length_set, List.length_replicate]; omega) | (simp [List.length_nil, List.length_cons, List.length_append, List.length_set, List.length_replicate]; done) | (simp [List.length_nil, List.length_cons, List.length_append, List.length_set, List.length_replicate]; omega))) ?_
      rintro e51 w51 ⟨v51_0, rfl, hX51, hO51_0⟩
      refine ⟨_, rfl, hX51, ?_⟩
      have hzs51 : w50.heap.size ≤ w51.heap.size := hX51.size
      have hE51 : Ext w w51 := hE50.trans hX51
      have hfr48x51 := hfr48x50.ext (o3) hX51
      have hfr49x51 := hfr49x50.ext (o2) hX51
      have hL7_3x51 := hL7_3x50.ext (o2) hX51
      have hL7_4x51 := hL7_4x50.ext (o1) hX51
      have hO50_0x51 := hO50_0.ext (o1) hX51
      refine q_move (.tuple #[v51_0, (.int .i64 (ssC A Bs))]) rfl up_none ?_
      refine q_extract (vs := [v51_0, (.int .i64 (ssC A Bs))]) v51_0 rfl rfl up_none ?_
      refine q_extract (vs := [v51_0, (.int .i64 (ssC A Bs))]) (.int .i64 (ssC A Bs)) rfl rfl up_none ?_
      refine q_assign v51_0 rfl up_none ?_
      refine q_assign (.int .i64 (ssC A Bs)) rfl up_none ?_
      refine lw_nil ?_
      refine wp_seq ?_
      refine wp_seq ?_
      refine wp_plain _ [0, 0, 0] rfl ?_
      obtain ⟨hcode, hgood⟩ := Dr.codes (show Dr x3_0 x3_1 nn N nn A Bs from (show i = nn by omega) ▸ hdr) (hnn ▸ hp3_0.2.2) (by omega) hp3_1.2 (by omega) (by omega)
      refine q_move (.int .i64 (ssC A Bs)) rfl up_none ?_
      refine q_move (.int .i64 (slC x3_0 x3_1)) rfl up_none ?_
      by_cases hc52 : ssC A Bs ≠ slC x3_0 x3_1
      ·
        refine q_neq true rfl rfl (decide_eq_true hc52) up_none ?_
        refine lw_nil ?_
        refine c_cond_t rfl ?_
        refine wp_seq ?_
        refine wp_plain _ [0] rfl ?_
        refine q_assign (.bool false) rfl up_none ?_
        refine lw_nil ?_
        refine wp_ret ?_
        refine t_ret ?_
        exact post_ret [4] rfl (.bool false) rfl ⟨(by first | rfl | (exfalso; omega) | (exfalso; exact absurd ‹(!(decide (((((ssR A Bs).length : Nat) : Int)) = ((x3_0.length : Nat) : Int)) && (ssR A Bs).all (fun r => decide (((r.length : Nat) : Int) = (((1 : Nat) : Int) + (a2at ds ((0 : Nat) : Int) ((6 : Nat) : Int))))))) = true› (by rw [hwide]; decide)) | simp_all), hE51⟩
      ·
        refine q_neq false rfl rfl (decide_eq_false hc52) up_none ?_
        refine lw_nil ?_
        refine c_cond_f rfl ?_
        refine wp_skip ?_
        refine wp_seq ?_
        refine wp_seq ?_
        refine wp_plain _ [0, 0] rfl ?_
        refine q_move (.int .i64 (slC x3_0 x3_1)) rfl up_none ?_
        by_cases hc53 : slC x3_0 x3_1 ≠ ((0 : Nat) : Int)
        ·
          refine q_neq true rfl rfl (decide_eq_true hc53) up_none ?_
          refine lw_nil ?_
          refine c_cond_t rfl ?_
          refine wp_seq ?_
          refine wp_plain _ [0] rfl ?_
          refine q_assign (.bool true) rfl up_none ?_
          refine lw_nil ?_
          refine wp_ret ?_
          refine t_ret ?_
          exact post_ret [4] rfl (.bool true) rfl ⟨(by first | rfl | (exfalso; omega) | (exfalso; exact absurd ‹(!(decide (((((ssR A Bs).length : Nat) : Int)) = ((x3_0.length : Nat) : Int)) && (ssR A Bs).all (fun r => decide (((r.length : Nat) : Int) = (((1 : Nat) : Int) + (a2at ds ((0 : Nat) : Int) ((6 : Nat) : Int))))))) = true› (by rw [hwide]; decide)) | simp_all), hE51⟩
        ·
          refine q_neq false rfl rfl (decide_eq_false hc53) up_none ?_
          refine lw_nil ?_
          refine c_cond_f rfl ?_
          refine wp_skip ?_
          refine wp_seq ?_
          refine wp_seq ?_
          refine wp_plain _ [0, 0, 0, 3, 0, 0, 0, 3, 0, 3, 0, 0] rfl ?_
          obtain ⟨hsp, hd, hx, hw, hxl, hxs⟩ := hgood (by simp_all)
          have hal : A.length = nn := by have := hdr.la; omega
          have hbl : Bs.length = nn := by have := hdr.lb; omega
          have hacc : ∀ i, i < A.length → accS (A.getD i []) (ssR A Bs) (List.replicate N 0) A.length = Bs.getD i [] := fun i hi => by rw [hx]; exact acc_sol hsp hd hi
          have haln : ∀ i k, i < A.length → k ≤ A.length → (accS (A.getD i []) (ssR A Bs) (List.replicate N 0) k).length = N := fun i k hi hk => by rw [hx]; exact (acc_at hsp hd hi k hk).1
          rw [← hx] at hxl hxs hw
          have hsr : ∀ r, r < (ssR A Bs).length → 0 < ((ssR A Bs).getD r []).length := fun r hr => by have := (hxs r (by omega)).1; omega
          have hwide : (decide (((((ssR A Bs).length : Nat) : Int)) = ((x3_0.length : Nat) : Int)) && (ssR A Bs).all (fun r => decide (((r.length : Nat) : Int) = (((1 : Nat) : Int) + (a2at ds ((0 : Nat) : Int) ((6 : Nat) : Int)))))) = true := by rw [decide_eq_true (by omega), Bool.true_and, List.all_eq_true]; intro r hr; obtain ⟨j, hj, rfl⟩ := List.mem_iff_getElem.1 hr; have h9 := (hxs j (by omega)).1; rw [gd_at hj] at h9; exact decide_eq_true (by omega)
          have hcol : (ssR A Bs).map (fun r => r.getD 0 0) = slR x3_0 x3_1 := hw.symm
          refine q_move v51_0 rfl up_none ?_
          refine q_move (.int .i64 ((x3_0.length : Nat) : Int)) rfl up_none ?_
          refine q_move (.int .i64 (((1 : Nat) : Int) + (a2at ds ((0 : Nat) : Int) ((6 : Nat) : Int)))) rfl up_none ?_
          refine lw_call 35 [] [] [v51_0, (.int .i64 ((x3_0.length : Nat) : Int)), (.int .i64 (((1 : Nat) : Int) + (a2at ds ((0 : Nat) : Int) ((6 : Nat) : Int))))] rfl rfl cf35 up_none (c_laws_a2Wide _ _ _ _ _ hO51_0.rd2 (by omega) (by omega)) ?_
          rintro e54 w54 ⟨rfl, hX54⟩
          refine ⟨_, rfl, hX54, ?_⟩
          have hzs54 : w51.heap.size ≤ w54.heap.size := hX54.size
          have hE54 : Ext w w54 := hE51.trans hX54
          have hfr48x54 := hfr48x51.ext (o3) hX54
          have hfr49x54 := hfr49x51.ext (o2) hX54
          have hL7_3x54 := hL7_3x51.ext (o2) hX54
          have hL7_4x54 := hL7_4x51.ext (o1) hX54
          have hO50_0x54 := hO50_0x51.ext (o1) hX54
          have hO51_0x54 := hO51_0.ext (o2) hX54
          refine q_not (!(decide ((((ssR A Bs).length : Nat) : Int) = ((x3_0.length : Nat) : Int)) && (ssR A Bs).all (fun r => decide (((r.length : Nat) : Int) = (((1 : Nat) : Int) + (a2at ds ((0 : Nat) : Int) ((6 : Nat) : Int))))))) rfl rfl up_none ?_
          refine q_move (.bool (!(decide ((((ssR A Bs).length : Nat) : Int) = ((x3_0.length : Nat) : Int)) && (ssR A Bs).all (fun r => decide (((r.length : Nat) : Int) = (((1 : Nat) : Int) + (a2at ds ((0 : Nat) : Int) ((6 : Nat) : Int)))))))) rfl up_none ?_
          cases hb55 : (!(decide ((((ssR A Bs).length : Nat) : Int) = ((x3_0.length : Nat) : Int)) && (ssR A Bs).all (fun r => decide (((r.length : Nat) : Int) = (((1 : Nat) : Int) + (a2at ds ((0 : Nat) : Int) ((6 : Nat) : Int)))))))
          ·
            refine q_move v51_0 rfl (up_some (e := 111) rfl rfl rfl) ?_
            refine lw_call 37 [] [] [v51_0, (.int .i64 ((0 : Nat) : Int))] rfl rfl cf37 (up_some (e := 111) rfl rfl rfl) (c_laws_a2Column _ _ _ (0) hO51_0x54.rd2 (by first | omega | assumption | (simp only [List.length_nil, List.length_cons, List.length_append, List.length_set, List.length_replicate]; omega) | (simp [List.length_nil, List.length_cons, List.length_append, List.length_set, List.length_replicate]; done) | (simp [List.length_nil, List.length_cons, List.length_append, List.length_set, List.length_replicate]; omega)) (by omega) (by exact hsr)) ?_
            rintro e56 w56 ⟨v56_0, rfl, hX56, hO56_0⟩
            refine ⟨_, rfl, hX56, ?_⟩
            have hzs56 : w54.heap.size ≤ w56.heap.size := hX56.size
            have hE56 : Ext w w56 := hE54.trans hX56
            have hfr48x56 := hfr48x54.ext (o3) hX56
            have hfr49x56 := hfr49x54.ext (o2) hX56
            have hL7_3x56 := hL7_3x54.ext (o2) hX56
            have hL7_4x56 := hL7_4x54.ext (o1) hX56
            have hO50_0x56 := hO50_0x54.ext (o1) hX56
            have hO51_0x56 := hO51_0x54.ext (o2) hX56
            refine q_move v50_0 rfl (up_some (e := 111) rfl rfl rfl) ?_
            refine lw_call 36 [] [] [v56_0, v50_0] rfl rfl cf36 (up_some (e := 111) rfl rfl rfl) (c_laws_a2Same _ _ _ _ _ hO56_0.rd1 hO50_0x56.rd1) ?_
            rintro e57 w57 ⟨rfl, hX57⟩
            refine ⟨_, rfl, hX57, ?_⟩
            have hzs57 : w56.heap.size ≤ w57.heap.size := hX57.size
            have hE57 : Ext w w57 := hE56.trans hX57
            have hfr48x57 := hfr48x56.ext (o3) hX57
            have hfr49x57 := hfr49x56.ext (o2) hX57
            have hL7_3x57 := hL7_3x56.ext (o2) hX57
            have hL7_4x57 := hL7_4x56.ext (o1) hX57
            have hO50_0x57 := hO50_0x56.ext (o1) hX57
            have hO51_0x57 := hO51_0x56.ext (o2) hX57
            have hO56_0x57 := hO56_0.ext (o1) hX57
            refine q_not (!(decide (((ssR A Bs).map (fun r => r.getD 0 0)) = (slR x3_0 x3_1)))) rfl rfl (up_some (e := 111) rfl rfl rfl) ?_
            refine q_pick false (.bool (!(decide (((ssR A Bs).map (fun r => r.getD 0 0)) = (slR x3_0 x3_1))))) rfl rfl up_none ?_
            refine lw_nil ?_
            cases hb58 : (!(decide (((ssR A Bs).map (fun r => r.getD 0 0)) = (slR x3_0 x3_1))))
            ·
              refine c_cond_f (by first | rfl | (show Value.bool _ = _; rw [hb58])) ?_
              refine wp_skip ?_
              refine wp_seq ?_
              refine wp_seq ?_
              refine wp_plain _ [0] rfl ?_
              refine q_assign (.int .i64 ((0 : Nat) : Int)) rfl up_none ?_
              refine lw_nil ?_
              refine wp_block ?_
              refine c_loop (S := Nat) (fun (i : Nat) => ([(19, (.int .i64 ((i : Nat) : Int))), (7, (.int .i64 ((x3_0.length : Nat) : Int))), (9, va), (10, vb), (17, v51_0)] : List (Nat × Value))) (fun (i : Nat) (W : World) => Ext w W ∧ Fr (owL (owL (owL rI 2) 29) 22) w4.heap.size w7.heap.size W.heap va A ∧ Fr (owL (owL rI 2) 29) w5.heap.size w7.heap.size W.heap vb Bs ∧ Fr (owL (owL rI 2) 29) w50.heap.size w51.heap.size W.heap v51_0 (ssR A Bs) ∧ i ≤ A.length) (fun (i : Nat) => A.length - i) 0 ⟨rfl, rfl, rfl, rfl, rfl, trivial⟩ ⟨hE57, hfr48x57, hfr49x57, hO51_0x57, (by omega)⟩ ?_
              clear hzs1 hE1 hzs3 hE3 hL7_4 hL7_3 hL7_2 hL7_1 hL7_0 hO50_0 hX50 hL7_3x50 hL7_4x50 hO51_0 hX51 hL7_3x51 hL7_4x51 hO50_0x51 hX54 hzs54 hE54 hL7_3x54 hL7_4x54 hO50_0x54 hO51_0x54 hO56_0 hX56 hzs56 hE56 hL7_3x56 hL7_4x56 hO50_0x56 hO51_0x56 hX57 hzs57 hE57 hL7_3x57 hL7_4x57 hO50_0x57 hO51_0x57 hO56_0x57
              rintro i ρ59 w59 ⟨hE59, hL59_0, hL59_1, hL59_2, hp59_0⟩
              have hzs59 : w.heap.size ≤ w59.heap.size := hE59.size
              refine wp_seq ?_
              refine wp_seq ?_
              refine wp_plain _ [0, 0, 0] rfl ?_
              refine q_move (.int .i64 ((i : Nat) : Int)) rfl up_none ?_
              refine q_move (.int .i64 ((x3_0.length : Nat) : Int)) rfl up_none ?_
              by_cases hc60 : ((i : Nat) : Int) < ((x3_0.length : Nat) : Int)
              ·
                refine q_lss true rfl rfl (decide_eq_true hc60) up_none ?_
                refine lw_nil ?_
                refine c_cond_t rfl ?_
                refine wp_skip ?_
                refine wp_seq ?_
                refine wp_block ?_
                refine wp_seq ?_
                refine wp_plain _ [0, 0, 0, 2, 3, 0] rfl ?_
                have hbi := (hsp.bser i (by omega)).1
                refine q_move vb rfl up_none ?_
                refine q_move (.int .i64 ((i : Nat) : Int)) rfl up_none ?_
                refine q_idx (v := vb) i u22 ti29 rfl rfl hL59_1.isSl rfl (by first | omega | assumption | (simp only [List.length_nil, List.length_cons, List.length_append, List.length_set, List.length_replicate]; omega) | (simp [List.length_nil, List.length_cons, List.length_append, List.length_set, List.length_replicate]; done) | (simp [List.length_nil, List.length_cons, List.length_append, List.length_set, List.length_replicate]; omega)) up_none ?_
                obtain ⟨ue61, hl61, hd61⟩ := hL59_1.rd2.get (k := i) [] (by first | omega | assumption | (simp only [List.length_nil, List.length_cons, List.length_append, List.length_set, List.length_replicate]; omega) | (simp [List.length_nil, List.length_cons, List.length_append, List.length_set, List.length_replicate]; done) | (simp [List.length_nil, List.length_cons, List.length_append, List.length_set, List.length_replicate]; omega))
                have hln61 := hd61.lenle
                refine q_load (p := eptr vb i 1) (.inr rfl) ue61 one29 rfl hl61 up_none ?_
                refine lw_call 31 [] [] [ue61, (.int .i64 ((0 : Nat) : Int))] rfl rfl cf31 up_none (c_laws_a2Scale _ _ _ _ hd61 (by omega) (by omega)) ?_
                rintro e62 w62 ⟨v62_0, rfl, hX62, hO62_0⟩
                refine ⟨_, rfl, hX62, ?_⟩
                have hzs62 : w59.heap.size ≤ w62.heap.size := hX62.size
                have hE62 : Ext w w62 := hE59.trans hX62
                have hL59_0x62 := hL59_0.ext (o3) hX62
                have hL59_1x62 := hL59_1.ext (o2) hX62
                have hL59_2x62 := hL59_2.ext (o2) hX62
                have hd61x62 := hd61.ext g1 hX62
                have hlx63 := ldH_ext hX62 hl61
                refine q_assign v62_0 rfl up_none ?_
                refine lw_nil ?_
                refine wp_seq ?_
                refine wp_seq ?_
                refine wp_plain _ [0] rfl ?_
                refine q_assign (.int .i64 ((0 : Nat) : Int)) rfl up_none ?_
                refine lw_nil ?_
                refine wp_block ?_
                refine c_loop (S := Nat × Value) (fun (⟨k, vs⟩ : Nat × Value) => ([(20, vs), (21, (.int .i64 ((k : Nat) : Int))), (7, (.int .i64 ((x3_0.length : Nat) : Int))), (9, va), (10, vb), (17, v51_0), (19, (.int .i64 ((i : Nat) : Int)))] : List (Nat × Value))) (fun (⟨k, vs⟩ : Nat × Value) (W : World) => Ext w W ∧ Fr (owL rI 2) w.heap.size W.heap.size W.heap vs (accS (A.getD i []) (ssR A Bs) (List.replicate N 0) k) ∧ Fr (owL (owL (owL rI 2) 29) 22) w4.heap.size w7.heap.size W.heap va A ∧ Fr (owL (owL rI 2) 29) w5.heap.size w7.heap.size W.heap vb Bs ∧ Fr (owL (owL rI 2) 29) w50.heap.size w51.heap.size W.heap v51_0 (ssR A Bs) ∧ k ≤ A.length) (fun (⟨k, vs⟩ : Nat × Value) => A.length - k) (0, v62_0) ⟨rfl, rfl, rfl, rfl, rfl, rfl, rfl, trivial⟩ ⟨hE62, (by have h := (hO62_0.up o1).low hE59.size; rw [show (((0 : Nat) : Int)) = 0 from rfl, scl_zero hbi] at h; exact h), hL59_0x62, hL59_1x62, hL59_2x62, (by omega)⟩ ?_
                clear hL59_2 hL59_1 hL59_0 hE59 hzs59 hln61 hO62_0 hX62 hzs62 hE62 hL59_0x62 hL59_1x62 hL59_2x62 hlx63
                rintro ⟨k, vs⟩ ρ64 w64 ⟨hE64, hL64_0, hL64_1, hL64_2, hL64_3, hp64_0⟩
                have hzs64 : w.heap.size ≤ w64.heap.size := hE64.size
                refine wp_seq ?_
                refine wp_seq ?_
                refine wp_plain _ [0, 0, 0] rfl ?_
                refine q_move (.int .i64 ((k : Nat) : Int)) rfl up_none ?_
                refine q_move (.int .i64 ((x3_0.length : Nat) : Int)) rfl up_none ?_
                by_cases hc65 : ((k : Nat) : Int) < ((x3_0.length : Nat) : Int)
                ·
                  refine q_lss true rfl rfl (decide_eq_true hc65) up_none ?_
                  refine lw_nil ?_
                  refine c_cond_t rfl ?_
                  refine wp_skip ?_
                  refine wp_seq ?_
                  refine wp_block ?_
                  refine wp_seq ?_
                  refine wp_draw _ [0, 0, 0, 1, 0, 0, 1, 0, 0, 0, 1, 3, 0, 0, 0, 0, 0] mixed (by kernel_rfl) ?_
                  have hrw := hsp.row i (by omega)
                  have hik := hsp.ser i k (by omega) (by omega)
                  have hxk := hxs k (by omega)
                  have hac := haln i k (by omega) (by omega)
                  have hik1 := hik.1
                  have hxk1 := hxk.1
                  refine q_move va rfl up_none ?_
                  refine q_move (.int .i64 ((i : Nat) : Int)) rfl up_none ?_
                  refine q_idx (v := va) i u45 ti22 rfl rfl hL64_1.isSl rfl (by first | omega | assumption | (simp only [List.length_nil, List.length_cons, List.length_append, List.length_set, List.length_replicate]; omega) | (simp [List.length_nil, List.length_cons, List.length_append, List.length_set, List.length_replicate]; done) | (simp [List.length_nil, List.length_cons, List.length_append, List.length_set, List.length_replicate]; omega)) up_none ?_
                  obtain ⟨ue66, hl66, hd66⟩ := hL64_1.rd3.get (k := i) [] (by first | omega | assumption | (simp only [List.length_nil, List.length_cons, List.length_append, List.length_set, List.length_replicate]; omega) | (simp [List.length_nil, List.length_cons, List.length_append, List.length_set, List.length_replicate]; done) | (simp [List.length_nil, List.length_cons, List.length_append, List.length_set, List.length_replicate]; omega))
                  have hln66 := hd66.lenle
                  refine q_load (p := eptr va i 1) (.inl rfl) ue66 one22 rfl hl66 up_none ?_
                  refine q_move (.int .i64 ((k : Nat) : Int)) rfl up_none ?_
                  refine q_idx (v := ue66) k u22 ti29 rfl rfl hd66.isSl rfl (by first | omega | assumption | (simp only [List.length_nil, List.length_cons, List.length_append, List.length_set, List.length_replicate]; omega) | (simp [List.length_nil, List.length_cons, List.length_append, List.length_set, List.length_replicate]; done) | (simp [List.length_nil, List.length_cons, List.length_append, List.length_set, List.length_replicate]; omega)) up_none ?_
                  obtain ⟨ue67, hl67, hd67⟩ := hd66.get (k := k) [] (by first | omega | assumption | (simp only [List.length_nil, List.length_cons, List.length_append, List.length_set, List.length_replicate]; omega) | (simp [List.length_nil, List.length_cons, List.length_append, List.length_set, List.length_replicate]; done) | (simp [List.length_nil, List.length_cons, List.length_append, List.length_set, List.length_replicate]; omega))
                  have hln67 := hd67.lenle
                  refine q_load (p := eptr ue66 k 1) (.inl rfl) ue67 one29 rfl hl67 up_none ?_
                  refine q_move v51_0 rfl up_none ?_
                  refine q_move (.int .i64 ((k : Nat) : Int)) rfl up_none ?_
                  refine q_idx (v := v51_0) k u22 ti29 rfl rfl hL64_3.isSl rfl (by first | omega | assumption | (simp only [List.length_nil, List.length_cons, List.length_append, List.length_set, List.length_replicate]; omega) | (simp [List.length_nil, List.length_cons, List.length_append, List.length_set, List.length_replicate]; done) | (simp [List.length_nil, List.length_cons, List.length_append, List.length_set, List.length_replicate]; omega)) up_none ?_
                  obtain ⟨ue68, hl68, hd68⟩ := hL64_3.rd2.get (k := k) [] (by first | omega | assumption | (simp only [List.length_nil, List.length_cons, List.length_append, List.length_set, List.length_replicate]; omega) | (simp [List.length_nil, List.length_cons, List.length_append, List.length_set, List.length_replicate]; done) | (simp [List.length_nil, List.length_cons, List.length_append, List.length_set, List.length_replicate]; omega))
                  have hln68 := hd68.lenle
                  refine q_load (p := eptr v51_0 k 1) (.inl rfl) ue68 one29 rfl hl68 up_none ?_
                  refine lw_call 38 [] [] [ue67, ue68] rfl rfl cf38 up_none (c_impl_MulSeries _ _ _ _ _ hd67 hd68 (by exact okS_iff.2 ⟨⟨by omega, by omega⟩, hik.2⟩) (by exact okS_iff.2 ⟨⟨by omega, by omega⟩, hxk.2⟩) (by omega)) ?_
                  rintro e69 w69 ⟨v69_0, rfl, hX69, hO69_0⟩
                  refine ⟨_, rfl, hX69, ?_⟩
                  replace hX69 := hX69.of_drew
                  have hzs69 : w64.heap.size ≤ w69.heap.size := hX69.size
                  have hE69 : Ext w w69 := hE64.trans hX69
                  have hL64_0x69 := hL64_0.ext (o1) hX69
                  have hL64_1x69 := hL64_1.ext (o3) hX69
                  have hL64_2x69 := hL64_2.ext (o2) hX69
                  have hL64_3x69 := hL64_3.ext (o2) hX69
                  have hd66x69 := hd66.ext g2 hX69
                  have hlx70 := ldH_ext hX69 hl66
                  have hd67x69 := hd67.ext g1 hX69
                  have hlx71 := ldH_ext hX69 hl67
                  have hd68x69 := hd68.ext g1 hX69
                  have hlx72 := ldH_ext hX69 hl68
                  replace hO69_0 := hO69_0.low (B' := w64.heap.size) (Nat.le_refl _)
                  refine q_move (.tuple #[v69_0, (.int .i64 0)]) rfl up_none ?_
                  refine q_extract (vs := [v69_0, (.int .i64 0)]) v69_0 rfl rfl up_none ?_
                  refine q_extract (vs := [v69_0, (.int .i64 0)]) (.int .i64 0) rfl rfl up_none ?_
                  refine q_assign v69_0 rfl up_none ?_
                  refine q_assign (.int .i64 0) rfl up_none ?_
                  refine lw_nil ?_
                  refine wp_seq ?_
                  refine wp_seq ?_
                  refine wp_plain _ [0, 0] rfl ?_
                  refine q_move (.int .i64 0) rfl up_none ?_
                  by_cases hc73 : 0 ≠ ((0 : Nat) : Int)
                  ·
                    refine q_neq true rfl rfl (decide_eq_true hc73) up_none ?_
                    refine lw_nil ?_
                    refine c_cond_t rfl ?_
                    refine wp_seq ?_
                    refine wp_plain _ [0] rfl ?_
                    refine q_assign (.bool false) rfl up_none ?_
                    refine lw_nil ?_
                    refine wp_ret ?_
                    refine t_ret ?_
                    refine b_ret ?_
                    refine t_ret ?_
                    refine t_ret ?_
                    refine b_ret ?_
                    refine t_ret ?_
                    refine b_ret ?_
                    refine t_ret ?_
                    refine t_ret ?_
                    refine b_ret ?_
                    refine t_ret ?_
                    exact post_ret [4] rfl (.bool false) rfl ⟨(by first | rfl | (exfalso; omega) | (exfalso; exact absurd ‹(!(decide (((((ssR A Bs).length : Nat) : Int)) = ((x3_0.length : Nat) : Int)) && (ssR A Bs).all (fun r => decide (((r.length : Nat) : Int) = (((1 : Nat) : Int) + (a2at ds ((0 : Nat) : Int) ((6 : Nat) : Int))))))) = true› (by rw [hwide]; decide)) | simp_all), hE69⟩
                  ·
                    refine q_neq false rfl rfl (decide_eq_false hc73) up_none ?_
                    refine lw_nil ?_
                    refine c_cond_f rfl ?_
                    refine wp_skip ?_
                    refine wp_plain _ [0, 0, 3, 0] rfl ?_
                    refine q_move vs rfl up_none ?_
                    refine q_move v69_0 rfl up_none ?_
                    refine lw_call 39 [] [] [vs, v69_0] rfl rfl cf39 up_none (c_laws_a2Add _ _ _ _ _ hL64_0x69.rd1 hO69_0.rd1 (by omega) (by rw [proS_len]; omega)) ?_
                    rintro e74 w74 ⟨v74_0, rfl, hX74, hO74_0⟩
                    refine ⟨_, rfl, hX74, ?_⟩
                    have hzs74 : w69.heap.size ≤ w74.heap.size := hX74.size
                    have hE74 : Ext w w74 := hE69.trans hX74
                    have hL64_0x74 := hL64_0x69.ext (o1) hX74
                    have hL64_1x74 := hL64_1x69.ext (o3) hX74
                    have hL64_2x74 := hL64_2x69.ext (o2) hX74
                    have hL64_3x74 := hL64_3x69.ext (o2) hX74
                    have hd66x74 := hd66x69.ext g2 hX74
                    have hlx75 := ldH_ext hX74 hlx70
                    have hd67x74 := hd67x69.ext g1 hX74
                    have hlx76 := ldH_ext hX74 hlx71
                    have hd68x74 := hd68x69.ext g1 hX74
                    have hlx77 := ldH_ext hX74 hlx72
                    have hO69_0x74 := hO69_0.ext (o1) hX74
                    refine q_assign v74_0 rfl up_none ?_
                    refine lw_nil ?_
                    refine wp_plain _ [0, 0, 0] rfl ?_
                    refine q_move (.int .i64 ((k : Nat) : Int)) rfl up_none ?_
                    refine q_add ((k + 1 : Nat) : Int) rfl rfl (w64n (by omega) (by first | omega | assumption | (simp only [List.length_nil, List.length_cons, List.length_append, List.length_set, List.length_replicate]; omega) | (simp [List.length_nil, List.length_cons, List.length_append, List.length_set, List.length_replicate]; done) | (simp [List.length_nil, List.length_cons, List.length_append, List.length_set, List.length_replicate]; omega))) up_none ?_
                    refine q_assign (.int .i64 ((k + 1 : Nat) : Int)) rfl up_none ?_
                    refine lw_nil ?_
                    exact ⟨((k + 1), v74_0), _, rfl, ⟨rfl, rfl, rfl, rfl, rfl, rfl, rfl, trivial⟩, ⟨hE74, (by rw [show accS (A.getD i []) (ssR A Bs) (List.replicate N 0) (k + 1) = addL (accS (A.getD i []) (ssR A Bs) (List.replicate N 0) k) (proS ((A.getD i []).getD k []) ((ssR A Bs).getD k [])) from rfl, ← addS_addL (by rw [proS_len]; omega)]; exact (hO74_0.up o1).low hE69.size), hL64_1x74, hL64_2x74, hL64_3x74, (by omega)⟩, by first | omega | (dsimp only; omega)⟩
                ·
                  refine q_lss false rfl rfl (decide_eq_false hc65) up_none ?_
                  refine lw_nil ?_
                  refine c_cond_f rfl ?_
                  refine wp_exit ?_
                  refine t_exit ?_
                  refine t_exit ?_
                  refine c_exit_here ?_
                  refine wp_seq ?_
                  refine wp_plain _ [0, 0, 0, 0, 2, 3, 0] rfl ?_
                  have hsame : accS (A.getD i []) (ssR A Bs) (List.replicate N 0) k = Bs.getD i [] := by rw [show k = A.length by omega]; exact hacc i (by omega)
                  refine q_move vs rfl up_none ?_
                  refine q_move vb rfl up_none ?_
                  refine q_move (.int .i64 ((i : Nat) : Int)) rfl up_none ?_
                  refine q_idx (v := vb) i u22 ti29 rfl rfl hL64_2.isSl rfl (by first | omega | assumption | (simp only [List.length_nil, List.length_cons, List.length_append, List.length_set, List.length_replicate]; omega) | (simp [List.length_nil, List.length_cons, List.length_append, List.length_set, List.length_replicate]; done) | (simp [List.length_nil, List.length_cons, List.length_append, List.length_set, List.length_replicate]; omega)) up_none ?_
                  obtain ⟨ue78, hl78, hd78⟩ := hL64_2.rd2.get (k := i) [] (by first | omega | assumption | (simp only [List.length_nil, List.length_cons, List.length_append, List.length_set, List.length_replicate]; omega) | (simp [List.length_nil, List.length_cons, List.length_append, List.length_set, List.length_replicate]; done) | (simp [List.length_nil, List.length_cons, List.length_append, List.length_set, List.length_replicate]; omega))
                  have hln78 := hd78.lenle
                  refine q_load (p := eptr vb i 1) (.inr rfl) ue78 one29 rfl hl78 up_none ?_
                  refine lw_call 36 [] [] [vs, ue78] rfl rfl cf36 up_none (c_laws_a2Same _ _ _ _ _ hL64_0.rd1 hd78) ?_
                  rintro e79 w79 ⟨rfl, hX79⟩
                  refine ⟨_, rfl, hX79, ?_⟩
                  have hzs79 : w64.heap.size ≤ w79.heap.size := hX79.size
                  have hE79 : Ext w w79 := hE64.trans hX79
                  have hL64_0x79 := hL64_0.ext (o1) hX79
                  have hL64_1x79 := hL64_1.ext (o3) hX79
                  have hL64_2x79 := hL64_2.ext (o2) hX79
                  have hL64_3x79 := hL64_3.ext (o2) hX79
                  have hd78x79 := hd78.ext g1 hX79
                  have hlx80 := ldH_ext hX79 hl78
                  refine q_not (!(decide ((accS (A.getD i []) (ssR A Bs) (List.replicate N 0) k) = (Bs.getD i [])))) rfl rfl up_none ?_
                  refine lw_nil ?_
                  cases hb81 : (!(decide ((accS (A.getD i []) (ssR A Bs) (List.replicate N 0) k) = (Bs.getD i []))))
                  ·
                    refine c_cond_f (by first | rfl | (show Value.bool _ = _; rw [hb81])) ?_
                    refine wp_skip ?_
                    refine wp_plain _ [0, 0, 0] rfl ?_
                    refine q_move (.int .i64 ((i : Nat) : Int)) rfl up_none ?_
                    refine q_add ((i + 1 : Nat) : Int) rfl rfl (w64n (by omega) (by first | omega | assumption | (simp only [List.length_nil, List.length_cons, List.length_append, List.length_set, List.length_replicate]; omega) | (simp [List.length_nil, List.length_cons, List.length_append, List.length_set, List.length_replicate]; done) | (simp [List.length_nil, List.length_cons, List.length_append, List.length_set, List.length_replicate]; omega))) up_none ?_
                    refine q_assign (.int .i64 ((i + 1 : Nat) : Int)) rfl up_none ?_
                    refine lw_nil ?_
                    exact ⟨(i + 1), _, rfl, ⟨rfl, rfl, rfl, rfl, rfl, trivial⟩, ⟨hE79, hL64_1x79, hL64_2x79, hL64_3x79, (by omega)⟩, by first | omega | (dsimp only; omega)⟩
                  ·
                    refine c_cond_t (by first | rfl | (show Value.bool _ = _; rw [hb81])) ?_
                    refine wp_seq ?_
                    refine wp_plain _ [0] rfl ?_
                    refine q_assign (.bool false) rfl up_none ?_
                    refine lw_nil ?_
                    refine wp_ret ?_
                    refine b_ret ?_
                    refine t_ret ?_
                    refine t_ret ?_
                    refine b_ret ?_
                    refine t_ret ?_
                    exact post_ret [4] rfl (.bool false) rfl ⟨(by first | rfl | (exfalso; omega) | (exfalso; exact absurd ‹(!(decide (((((ssR A Bs).length : Nat) : Int)) = ((x3_0.length : Nat) : Int)) && (ssR A Bs).all (fun r => decide (((r.length : Nat) : Int) = (((1 : Nat) : Int) + (a2at ds ((0 : Nat) : Int) ((6 : Nat) : Int))))))) = true› (by rw [hwide]; decide)) | simp_all), hE79⟩
              ·
                refine q_lss false rfl rfl (decide_eq_false hc60) up_none ?_
                refine lw_nil ?_
                refine c_cond_f rfl ?_
                refine wp_exit ?_
                refine t_exit ?_
                refine t_exit ?_
                refine c_exit_here ?_
                refine wp_seq ?_
                refine wp_plain _ [0] rfl ?_
                refine q_assign (.bool true) rfl up_none ?_
                refine lw_nil ?_
                refine wp_ret ?_
                exact post_ret [4] rfl (.bool true) rfl ⟨(by first | rfl | (exfalso; omega) | (exfalso; exact absurd ‹(!(decide (((((ssR A Bs).length : Nat) : Int)) = ((x3_0.length : Nat) : Int)) && (ssR A Bs).all (fun r => decide (((r.length : Nat) : Int) = (((1 : Nat) : Int) + (a2at ds ((0 : Nat) : Int) ((6 : Nat) : Int))))))) = true› (by rw [hwide]; decide)) | simp_all), hE59⟩
            ·
              refine c_cond_t (by first | rfl | (show Value.bool _ = _; rw [hb58])) ?_
              refine wp_seq ?_
              refine wp_plain _ [0] rfl ?_
              refine q_assign (.bool false) rfl up_none ?_
              refine lw_nil ?_
              refine wp_ret ?_
              refine t_ret ?_
              exact post_ret [4] rfl (.bool false) rfl ⟨(by first | rfl | (exfalso; omega) | (exfalso; exact absurd ‹(!(decide (((((ssR A Bs).length : Nat) : Int)) = ((x3_0.length : Nat) : Int)) && (ssR A Bs).all (fun r => decide (((r.length : Nat) : Int) = (((1 : Nat) : Int) + (a2at ds ((0 : Nat) : Int) ((6 : Nat) : Int))))))) = true› (by rw [hwide]; decide)) | simp_all), hE57⟩
          ·
            refine lw_skip (e := 111) (c := true) rfl rfl rfl rfl ?_
            refine lw_skip (e := 111) (c := true) rfl rfl rfl rfl ?_
            refine lw_skip (e := 111) (c := true) rfl rfl rfl rfl ?_
            refine lw_skip (e := 111) (c := true) rfl rfl rfl rfl ?_
            refine lw_skip (e := 111) (c := true) rfl rfl rfl rfl ?_
            refine q_pick true (.bool true) rfl rfl up_none ?_
            refine lw_nil ?_
            refine c_cond_t rfl ?_
            refine wp_seq ?_
            refine wp_plain _ [0] rfl ?_
            refine q_assign (.bool false) rfl up_none ?_
            refine lw_nil ?_
            refine wp_ret ?_
            refine t_ret ?_
            exact post_ret [4] rfl (.bool false) rfl ⟨(by first | rfl | (exfalso; omega) | (exfalso; exact absurd ‹(!(decide (((((ssR A Bs).length : Nat) : Int)) = ((x3_0.length : Nat) : Int)) && (ssR A Bs).all (fun r => decide (((r.length : Nat) : Int) = (((1 : Nat) : Int) + (a2at ds ((0 : Nat) : Int) ((6 : Nat) : Int))))))) = true› (by rw [hwide]; decide)) | simp_all), hE54⟩
  ·
    refine c_cond_t (by first | rfl | (show Value.bool _ = _; rw [hb2])) ?_
    refine wp_seq ?_
    refine wp_plain _ [0] rfl ?_
    refine q_assign (.bool true) rfl up_none ?_
    refine lw_nil ?_
    refine wp_ret ?_
    refine t_ret ?_
    exact post_ret [4] rfl (.bool true) rfl ⟨(by first | rfl | (exfalso; omega) | (exfalso; exact absurd ‹(!(decide (((((ssR A Bs).length : Nat) : Int)) = ((x3_0.length : Nat) : Int)) && (ssR A Bs).all (fun r => decide (((r.length : Nat) : Int) = (((1 : Nat) : Int) + (a2at ds ((0 : Nat) : Int) ((6 : Nat) : Int))))))) = true› (by rw [hwide]; decide)) | simp_all), hE1⟩
end Go.Proofs.Ytjgnlnlngcjfcaa
