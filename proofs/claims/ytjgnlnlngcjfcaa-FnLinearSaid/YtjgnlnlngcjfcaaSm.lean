/- Contracts of functions: each says what the function returns for all arguments that meet its premises. Printed by gen.py. -/
import Derived.Test.YtjgnlnlngcjfcaaMg
import Derived.Test.YtjgnlnlngcjfcaaT
import Derived.Test.YtjgnlnlngcjfcaaSa
import Derived.Test.YtjgnlnlngcjfcaaSb
import Derived.Test.YtjgnlnlngcjfcaaSc
import Derived.Test.YtjgnlnlngcjfcaaSk
import Derived.Test.YtjgnlnlngcjfcaaProg
namespace Go.Proofs.Ytjgnlnlngcjfcaa
open Go Go.RowKit
set_option linter.unusedVariables false
set_option linter.unusedSimpArgs false
attribute [local irreducible] LW
/- slices.Clone[[][]int64,[]int64] -/
set_option maxHeartbeats 4000000 in
set_option maxRecDepth 100000 in
theorem c_slices_Clone_____int64___int64_ (w : World) (va : Value) (us : List Value) (hus : Rd (rdL rV) w.heap va us) (hla : us.length ≤ 1000000000000) :
    Calls Try.prog 81 #[va] w (fun e w' => ∃ v0 : Value, e = .returned (v0) ∧ Ext w w' ∧ Fr (owL rV 29) w.heap.size w'.heap.size w'.heap v0 us) := by
  refine calls_mk [va] 8 Try.func81 rfl rfl (by simp) ?_
  have hE0 : Ext w w := Ext.refl w
  have hl_va := hus.lenle
  refine wp_seq ?_
  refine wp_plain _ [0] rfl ?_
  refine q_assign (.slice none 0 0) rfl up_none ?_
  refine lw_nil ?_
  refine wp_seq ?_
  refine wp_seq ?_
  refine wp_plain _ [0, 0] rfl ?_
  refine q_move va rfl up_none ?_
  cases hc1 : isNilV va
  ·
    refine q_nilq (v := va) false u22 rfl rfl hus.isSl hc1 up_none ?_
    refine lw_nil ?_
    refine c_cond_f rfl ?_
    refine wp_skip ?_
    refine wp_seq ?_
    refine wp_plain _ [3, 0, 4, 0] rfl ?_
    refine r_nil (rV) good_rV u22 ti29 up_none ?_
    intro v2 w2 hX2 hz2 hO2
    have hzs2 : w.heap.size ≤ w2.heap.size := hX2.size
    have hE2 : Ext w w2 := hE0.trans hX2
    refine q_move va rfl up_none ?_
    refine e_appV (v := v2) (a := va) u22 ti29 rfl rfl rfl hO2 hE2.size (hus.ext gV hE2) (by first | omega | assumption | (simp only [List.length_nil, List.length_cons, List.length_append, List.length_set, List.length_replicate]; omega) | (simp [List.length_nil, List.length_cons, List.length_append, List.length_set, List.length_replicate]; done) | (simp [List.length_nil, List.length_cons, List.length_append, List.length_set, List.length_replicate]; omega)) (by unfold maxLen; first | omega | assumption | (simp only [List.length_nil, List.length_cons, List.length_append, List.length_set, List.length_replicate]; omega) | (simp [List.length_nil, List.length_cons, List.length_append, List.length_set, List.length_replicate]; done) | (simp [List.length_nil, List.length_cons, List.length_append, List.length_set, List.length_replicate]; omega)) up_none ?_
    intro v3 w3 F3 hC3 hF3 hO3
    have hE3 : Ext w w3 := hC3.below hE2 (fun c hc => Nat.le_trans (Nat.le_refl _) (hF3 c hc).1) hE2.size
    have hzs3 : w2.heap.size ≤ w3.heap.size := hC3.size
    refine q_assign v3 rfl up_none ?_
    refine lw_nil ?_
    refine wp_ret ?_
    exact post_ret [2] rfl v3 rfl ⟨v3, rfl, hE3, hO3.up oV⟩
  ·
    refine q_nilq (v := va) true u22 rfl rfl hus.isSl hc1 up_none ?_
    refine lw_nil ?_
    refine c_cond_t rfl ?_
    refine wp_seq ?_
    refine wp_plain _ [0] rfl ?_
    refine q_assign (.slice none 0 0) rfl up_none ?_
    refine lw_nil ?_
    refine wp_ret ?_
    refine t_ret ?_
    have hnil : us = [] := hus.nil_of (by assumption)
    subst hnil
    exact post_ret [2] rfl (.slice none 0 0) rfl ⟨(.slice none 0 0), rfl, hE0, frNil _ _ _⟩

/- impl.solved -/
attribute [local irreducible] mix rowsJ rowC rowE divJ quoS proS redS

set_option maxHeartbeats 4000000 in
set_option maxRecDepth 100000 in
theorem c_impl_solved (w : World) (va : Value) (a : List (List (List Int))) (vb : Value) (b : List (List Int)) (ha : Rd (rdL (rdL (rdL rI))) w.heap va a) (hb : Rd (rdL (rdL rI)) w.heap vb b) (h6 : a.length ≤ 1000) (hba : b.length = a.length) (hra : ∀ r, r < a.length → (a.getD r []).length = a.length) (hA0 : ∃ N, 1 ≤ N ∧ N ≤ 1000 ∧ Sh (Ser1 N) [] a.length (a.length + 1) (augS a b)) :
    Calls Try.prog 71 #[va, vb] w (fun e w' => ∃ v0 : Value, e = .returned (.tuple #[v0, .bool ((jorS a b).isSome)]) ∧ Ext w w' ∧ Fr (owL (owL rI 2) 29) w.heap.size w'.heap.size w'.heap v0 (solS a b)) := by
  refine calls_mk [va, vb] 176 Try.func71 rfl rfl (by simp) ?_
  have hE0 : Ext w w := Ext.refl w
  have hl_va := ha.lenle
  have hl_vb := hb.lenle
  obtain ⟨N, hN1, hN2, hA⟩ := hA0
  refine wp_seq ?_
  refine wp_plain _ [0, 0] rfl ?_
  refine q_assign (.slice none 0 0) rfl up_none ?_
  refine q_assign (.bool false) rfl up_none ?_
  refine lw_nil ?_
  refine wp_seq ?_
  refine wp_plain _ [0, 0, 3, 0, 0] rfl ?_
  refine q_move va rfl up_none ?_
  refine q_len (v := va) u45 rfl ha.isSl up_none ?_
  refine r_nil (owL rV 29) oV u45 ti22 up_none ?_
  intro v1 w1 hX1 hz1 hO1
  have hzs1 : w.heap.size ≤ w1.heap.size := hX1.size
  have hE1 : Ext w w1 := hE0.trans hX1
  refine q_assign (.int .i64 ((a.length : Nat) : Int)) rfl up_none ?_
  refine q_assign v1 rfl up_none ?_
  refine lw_nil ?_
  refine wp_seq ?_
  refine wp_seq ?_
  refine wp_plain _ [0, 0, 0] rfl ?_
  refine q_move va rfl up_none ?_
  refine q_len (v := va) u45 rfl ha.isSl up_none ?_
  refine q_move (.int .i64 ((0 : Nat) : Int)) rfl up_none ?_
  refine lw_nil ?_
  refine wp_block ?_
  refine c_loop (S := Nat × Value × List (List Value)) (fun (⟨k, vo, V0⟩ : Nat × Value × List (List Value)) => ([(7, vo), (25, (.int .i64 ((k : Nat) : Int))), (1, vb), (6, (.int .i64 ((a.length : Nat) : Int))), (23, va), (24, (.int .i64 ((a.length : Nat) : Int)))] : List (Nat × Value))) (fun (⟨k, vo, V0⟩ : Nat × Value × List (List Value)) (W : World) => Ext w W ∧ Fr (owL (owL rV 29) 22) w.heap.size W.heap.size W.heap vo V0 ∧ k ≤ a.length ∧ HdB w.heap a.length V0 (augS a b) k) (fun (⟨k, vo, V0⟩ : Nat × Value × List (List Value)) => a.length - k) (0, v1, ([] : List (List Value))) ⟨rfl, rfl, rfl, rfl, rfl, rfl, trivial⟩ ⟨hE1, hO1.up oV2, (by first | omega | assumption | (simp only [List.length_nil, List.length_cons, List.length_append, List.length_set, List.length_replicate]; omega) | (simp [List.length_nil, List.length_cons, List.length_append, List.length_set, List.length_replicate]; done) | (simp [List.length_nil, List.length_cons, List.length_append, List.length_set, List.length_replicate]; omega)), (by exact HdB.zero _ _ _)⟩ ?_
  clear hE0 hO1 hz1 hX1 hzs1 hE1
  rintro ⟨k, vo, V0⟩ ρ2 w2 ⟨hE2, hL2_0, hp2_0, hH⟩
  have hzs2 : w.heap.size ≤ w2.heap.size := hE2.size
  have hHl := hH.len
  refine wp_seq ?_
  refine wp_plain _ [0] rfl ?_
  by_cases hc3 : ((k : Nat) : Int) < ((a.length : Nat) : Int)
  ·
    refine q_lss true rfl rfl (decide_eq_true hc3) up_none ?_
    refine lw_nil ?_
    refine wp_seq ?_
    refine c_cond_t rfl ?_
    refine wp_skip ?_
    refine wp_seq ?_
    refine wp_block ?_
    refine wp_seq ?_
    refine wp_plain _ [0, 0, 2, 0, 0] rfl ?_
    refine q_move (.int .i64 ((k : Nat) : Int)) rfl up_none ?_
    refine q_idx (v := va) k u45 ti22 rfl rfl ha.isSl rfl (by first | omega | assumption | (simp only [List.length_nil, List.length_cons, List.length_append, List.length_set, List.length_replicate]; omega) | (simp [List.length_nil, List.length_cons, List.length_append, List.length_set, List.length_replicate]; done) | (simp [List.length_nil, List.length_cons, List.length_append, List.length_set, List.length_replicate]; omega)) up_none ?_
    obtain ⟨ue4, hl4, hd4⟩ := ha.get (k := k) [] (by first | omega | assumption | (simp only [List.length_nil, List.length_cons, List.length_append, List.length_set, List.length_replicate]; omega) | (simp [List.length_nil, List.length_cons, List.length_append, List.length_set, List.length_replicate]; done) | (simp [List.length_nil, List.length_cons, List.length_append, List.length_set, List.length_replicate]; omega))
    have hln4 := hd4.lenle
    refine q_load (p := eptr va k 1) (.inr rfl) ue4 one22 rfl (ldH_ext hE2 hl4) up_none ?_
    refine q_assign (.int .i64 ((k : Nat) : Int)) rfl up_none ?_
    refine q_assign ue4 rfl up_none ?_
    refine lw_nil ?_
    refine wp_draw2 _ [0, 0, 3, 0, 0, 0, 1, 3, 4, 3, 4, 0] 2 7 [0, 1, 3, 4, 5, 6, 7, 2, 8, 9, 10, 11] [_, _, _, _, _, _, _, _, _, _, _, _] [0, 0, 0, 0, 0, 1, 3, 3, 4, 3, 4, 0] mixed (by kernel_rfl) rfl ⟨rfl, rfl, ⟨rfl, rfl, ⟨rfl, rfl, ⟨rfl, rfl, ⟨rfl, rfl, ⟨rfl, rfl, ⟨rfl, rfl, ⟨rfl, rfl, ⟨rfl, rfl, ⟨rfl, rfl, ⟨rfl, rfl, ⟨rfl, rfl, trivial⟩⟩⟩⟩⟩⟩⟩⟩⟩⟩⟩⟩ ?_ ?_
    ·
      have hrk := hra k (by omega)
      obtain ⟨us, hus, hul, hur⟩ := hd4.heads g1 []
      refine q_move vo rfl up_none ?_
      refine q_move ue4 rfl up_none ?_
      refine lw_call 81 [] [] [ue4] rfl rfl cf81 up_none (c_slices_Clone_____int64___int64_ _ _ _ (hus.ext gV hE2.drew) (by omega)) ?_
      rintro e5 w5 ⟨v5_0, rfl, hX5, hO5_0⟩
      refine ⟨_, rfl, hX5, ?_⟩
      replace hX5 := hX5.of_drew
      have hzs5 : w2.heap.size ≤ w5.heap.size := hX5.size
      have hE5 : Ext w w5 := hE2.trans hX5
      have hL2_0x5 := hL2_0.ext (oV2) hX5
      replace hO5_0 := hO5_0.low (B' := w2.heap.size) (Nat.le_refl _)
      refine q_move vb rfl up_none ?_
      refine q_move (.int .i64 ((k : Nat) : Int)) rfl up_none ?_
      refine q_idx (v := vb) k u22 ti29 rfl rfl hb.isSl rfl (by first | omega | assumption | (simp only [List.length_nil, List.length_cons, List.length_append, List.length_set, List.length_replicate]; omega) | (simp [List.length_nil, List.length_cons, List.length_append, List.length_set, List.length_replicate]; done) | (simp [List.length_nil, List.length_cons, List.length_append, List.length_set, List.length_replicate]; omega)) up_none ?_
      obtain ⟨ue6, hl6, hd6⟩ := hb.get (k := k) [] (by first | omega | assumption | (simp only [List.length_nil, List.length_cons, List.length_append, List.length_set, List.length_replicate]; omega) | (simp [List.length_nil, List.length_cons, List.length_append, List.length_set, List.length_replicate]; done) | (simp [List.length_nil, List.length_cons, List.length_append, List.length_set, List.length_replicate]; omega))
      have hln6 := hd6.lenle
      refine q_load (p := eptr vb k 1) (.inl rfl) ue6 one29 rfl (ldH_ext hE2.drew hl6) up_none ?_
      have hbk := hd6
      refine r_one (u := ue6) (B := w5.heap.size) good_rV u22 ti29 rfl rfl (frV w5.heap.size w5.heap.size _ (isSl_cells hd6.isSl)) (Nat.le_refl _) up_none ?_
      intro v7 w7 hX7 hz7 hO7
      have hzs7 : w5.heap.size ≤ w7.heap.size := hX7.size
      have hE7 : Ext w w7 := hE5.trans hX7
      have hL2_0x7 := hL2_0x5.ext (oV2) hX7
      have hO5_0x7 := hO5_0.ext (oV) hX7
      refine e_appV (v := v5_0) (a := v7) u22 ti29 rfl rfl rfl hO5_0x7 (by omega) hO7.rdV1 (by first | omega | assumption | (simp only [List.length_nil, List.length_cons, List.length_append, List.length_set, List.length_replicate]; omega) | (simp [List.length_nil, List.length_cons, List.length_append, List.length_set, List.length_replicate]; done) | (simp [List.length_nil, List.length_cons, List.length_append, List.length_set, List.length_replicate]; omega)) (by unfold maxLen; first | omega | assumption | (simp only [List.length_nil, List.length_cons, List.length_append, List.length_set, List.length_replicate]; omega) | (simp [List.length_nil, List.length_cons, List.length_append, List.length_set, List.length_replicate]; done) | (simp [List.length_nil, List.length_cons, List.length_append, List.length_set, List.length_replicate]; omega)) up_none ?_
      intro v8 w8 F8 hC8 hF8 hO8
      have hE8 : Ext w w8 := hC8.below hE7 (fun c hc => Nat.le_trans hE2.size (hF8 c hc).1) hE7.size
      have hzs8 : w7.heap.size ≤ w8.heap.size := hC8.size
      have hF9 := hL2_0x7.chg (oV2) hC8 (fun c hc => by have := hF8 c hc; omega)
      refine r_one (u := v8) (B := w2.heap.size) oV u45 ti22 rfl rfl hO8 (by first | exact Nat.le_refl _ | omega) up_none ?_
      intro v10 w10 hX10 hz10 hO10
      have hzs10 : w8.heap.size ≤ w10.heap.size := hX10.size
      have hE10 : Ext w w10 := hE8.trans hX10
      have hF9x10 := hF9.ext (oV2) hX10
      refine e_appF oV (v := vo) (a := v10) u45 ti22 rfl rfl rfl hF9x10 hE10.size hO10 (by omega) hE2.size (by first | omega | assumption | (simp only [List.length_nil, List.length_cons, List.length_append, List.length_set, List.length_replicate]; omega) | (simp [List.length_nil, List.length_cons, List.length_append, List.length_set, List.length_replicate]; done) | (simp [List.length_nil, List.length_cons, List.length_append, List.length_set, List.length_replicate]; omega)) (by unfold maxLen; first | omega | assumption | (simp only [List.length_nil, List.length_cons, List.length_append, List.length_set, List.length_replicate]; omega) | (simp [List.length_nil, List.length_cons, List.length_append, List.length_set, List.length_replicate]; done) | (simp [List.length_nil, List.length_cons, List.length_append, List.length_set, List.length_replicate]; omega)) up_none ?_
      intro v11 w11 F11 hC11 hF11 hO11
      have hE11 : Ext w w11 := hC11.below hE10 (fun c hc => Nat.le_trans (Nat.le_refl _) (hF11 c hc).1) hE10.size
      have hzs11 : w10.heap.size ≤ w11.heap.size := hC11.size
      refine q_assign v11 rfl up_none ?_
      refine lw_nil ?_
      refine wp_plain _ [0, 0] rfl ?_
      refine q_add ((k + 1 : Nat) : Int) rfl rfl (w64n (by omega) (by first | omega | assumption | (simp only [List.length_nil, List.length_cons, List.length_append, List.length_set, List.length_replicate]; omega) | (simp [List.length_nil, List.length_cons, List.length_append, List.length_set, List.length_replicate]; done) | (simp [List.length_nil, List.length_cons, List.length_append, List.length_set, List.length_replicate]; omega))) up_none ?_
      refine q_move (.int .i64 ((k + 1 : Nat) : Int)) rfl up_none ?_
      refine lw_nil ?_
      exact ⟨((k + 1), v11, (V0 ++ [us ++ [ue6]])), _, rfl, ⟨rfl, rfl, rfl, rfl, rfl, rfl, trivial⟩, ⟨hE11, hO11.up oV2, (by first | omega | assumption | (simp only [List.length_nil, List.length_cons, List.length_append, List.length_set, List.length_replicate]; omega) | (simp [List.length_nil, List.length_cons, List.length_append, List.length_set, List.length_replicate]; done) | (simp [List.length_nil, List.length_cons, List.length_append, List.length_set, List.length_replicate]; omega)), (by exact hH.snoc (augS_get a b (by omega)) hrk hul hur hbk)⟩, by first | omega | (dsimp only; omega)⟩
    ·
      have hrk := hra k (by omega)
      obtain ⟨us, hus, hul, hur⟩ := hd4.heads g1 []
      refine q_move vo rfl up_none ?_
      refine q_move ue4 rfl up_none ?_
      refine q_move vb rfl up_none ?_
      refine q_move (.int .i64 ((k : Nat) : Int)) rfl up_none ?_
      refine q_idx (v := vb) k u22 ti29 rfl rfl hb.isSl rfl (by first | omega | assumption | (simp only [List.length_nil, List.length_cons, List.length_append, List.length_set, List.length_replicate]; omega) | (simp [List.length_nil, List.length_cons, List.length_append, List.length_set, List.length_replicate]; done) | (simp [List.length_nil, List.length_cons, List.length_append, List.length_set, List.length_replicate]; omega)) up_none ?_
      obtain ⟨ue12, hl12, hd12⟩ := hb.get (k := k) [] (by first | omega | assumption | (simp only [List.length_nil, List.length_cons, List.length_append, List.length_set, List.length_replicate]; omega) | (simp [List.length_nil, List.length_cons, List.length_append, List.length_set, List.length_replicate]; done) | (simp [List.length_nil, List.length_cons, List.length_append, List.length_set, List.length_replicate]; omega))
      have hln12 := hd12.lenle
      refine q_load (p := eptr vb k 1) (.inl rfl) ue12 one29 rfl (ldH_ext hE2.drew hl12) up_none ?_
      have hbk := hd12
      refine r_one (u := ue12) (B := w2.heap.size) good_rV u22 ti29 rfl rfl (frV w2.heap.size w2.heap.size _ (isSl_cells hd12.isSl)) (Nat.le_refl _) up_none ?_
      intro v13 w13 hX13 hz13 hO13
      replace hX13 := hX13.of_drew
      have hzs13 : w2.heap.size ≤ w13.heap.size := hX13.size
      have hE13 : Ext w w13 := hE2.trans hX13
      have hL2_0x13 := hL2_0.ext (oV2) hX13
      refine lw_call 81 [] [] [ue4] rfl rfl cf81 up_none (c_slices_Clone_____int64___int64_ _ _ _ (hus.ext gV hE13) (by omega)) ?_
      rintro e14 w14 ⟨v14_0, rfl, hX14, hO14_0⟩
      refine ⟨_, rfl, hX14, ?_⟩
      have hzs14 : w13.heap.size ≤ w14.heap.size := hX14.size
      have hE14 : Ext w w14 := hE13.trans hX14
      have hL2_0x14 := hL2_0x13.ext (oV2) hX14
      have hO13x14 := hO13.ext (oV) hX14
      refine e_appV (v := v14_0) (a := v13) u22 ti29 rfl rfl rfl hO14_0 (by omega) hO13x14.rdV1 (by first | omega | assumption | (simp only [List.length_nil, List.length_cons, List.length_append, List.length_set, List.length_replicate]; omega) | (simp [List.length_nil, List.length_cons, List.length_append, List.length_set, List.length_replicate]; done) | (simp [List.length_nil, List.length_cons, List.length_append, List.length_set, List.length_replicate]; omega)) (by unfold maxLen; first | omega | assumption | (simp only [List.length_nil, List.length_cons, List.length_append, List.length_set, List.length_replicate]; omega) | (simp [List.length_nil, List.length_cons, List.length_append, List.length_set, List.length_replicate]; done) | (simp [List.length_nil, List.length_cons, List.length_append, List.length_set, List.length_replicate]; omega)) up_none ?_
      intro v15 w15 F15 hC15 hF15 hO15
      have hE15 : Ext w w15 := hC15.below hE14 (fun c hc => Nat.le_trans hE13.size (hF15 c hc).1) hE14.size
      have hzs15 : w14.heap.size ≤ w15.heap.size := hC15.size
      have hF16 := hL2_0x14.chg (oV2) hC15 (fun c hc => by have := hF15 c hc; omega)
      refine r_one (u := v15) (B := w13.heap.size) oV u45 ti22 rfl rfl hO15 (by first | exact Nat.le_refl _ | omega) up_none ?_
      intro v17 w17 hX17 hz17 hO17
      have hzs17 : w15.heap.size ≤ w17.heap.size := hX17.size
      have hE17 : Ext w w17 := hE15.trans hX17
      have hF16x17 := hF16.ext (oV2) hX17
      refine e_appF oV (v := vo) (a := v17) u45 ti22 rfl rfl rfl hF16x17 hE17.size hO17 (by omega) hE13.size (by first | omega | assumption | (simp only [List.length_nil, List.length_cons, List.length_append, List.length_set, List.length_replicate]; omega) | (simp [List.length_nil, List.length_cons, List.length_append, List.length_set, List.length_replicate]; done) | (simp [List.length_nil, List.length_cons, List.length_append, List.length_set, List.length_replicate]; omega)) (by unfold maxLen; first | omega | assumption | (simp only [List.length_nil, List.length_cons, List.length_append, List.length_set, List.length_replicate]; omega) | (simp [List.length_nil, List.length_cons, List.length_append, List.length_set, List.length_replicate]; done) | (simp [List.length_nil, List.length_cons, List.length_append, List.length_set, List.length_replicate]; omega)) up_none ?_
      intro v18 w18 F18 hC18 hF18 hO18
      have hE18 : Ext w w18 := hC18.below hE17 (fun c hc => Nat.le_trans (Nat.le_refl _) (hF18 c hc).1) hE17.size
      have hzs18 : w17.heap.size ≤ w18.heap.size := hC18.size
      refine q_assign v18 rfl up_none ?_
      refine lw_nil ?_
      refine wp_plain _ [0, 0] rfl ?_
      refine q_add ((k + 1 : Nat) : Int) rfl rfl (w64n (by omega) (by first | omega | assumption | (simp only [List.length_nil, List.length_cons, List.length_append, List.length_set, List.length_replicate]; omega) | (simp [List.length_nil, List.length_cons, List.length_append, List.length_set, List.length_replicate]; done) | (simp [List.length_nil, List.length_cons, List.length_append, List.length_set, List.length_replicate]; omega))) up_none ?_
      refine q_move (.int .i64 ((k + 1 : Nat) : Int)) rfl up_none ?_
      refine lw_nil ?_
      exact ⟨((k + 1), v18, (V0 ++ [us ++ [ue12]])), _, rfl, ⟨rfl, rfl, rfl, rfl, rfl, rfl, trivial⟩, ⟨hE18, hO18.up oV2, (by first | omega | assumption | (simp only [List.length_nil, List.length_cons, List.length_append, List.length_set, List.length_replicate]; omega) | (simp [List.length_nil, List.length_cons, List.length_append, List.length_set, List.length_replicate]; done) | (simp [List.length_nil, List.length_cons, List.length_append, List.length_set, List.length_replicate]; omega)), (by exact hH.snoc (augS_get a b (by omega)) hrk hul hur hbk)⟩, by first | omega | (dsimp only; omega)⟩
  ·
    refine q_lss false rfl rfl (decide_eq_false hc3) up_none ?_
    refine lw_nil ?_
    refine wp_seq ?_
    refine c_cond_f rfl ?_
    refine wp_exit ?_
    refine t_exit ?_
    refine t_exit ?_
    refine c_exit_here ?_
    refine wp_seq ?_
    refine wp_seq ?_
    refine wp_plain _ [0, 0] rfl ?_
    refine q_move (.int .i64 ((a.length : Nat) : Int)) rfl up_none ?_
    refine q_move (.int .i64 ((0 : Nat) : Int)) rfl up_none ?_
    refine lw_nil ?_
    refine wp_block ?_
    have hHn : HdB w.heap a.length V0 (augS a b) a.length := by have h := hH; rwa [show k = a.length from by omega] at h
    have hSM0 : SM 2 a.length w.heap.size w2.heap.size w2.heap.size (fun _ => 1 ≤ (0 : Nat)) w2.heap V0 (augS a b) := hHn.sm hA.len (fun r h => (hA.row r h).len) (fun _ h => by omega) hE2
    refine c_loop (S := Nat × List (List Value) × List (List (List Int))) (fun (⟨c, VM, M⟩ : Nat × List (List Value) × List (List (List Int))) => ([(43, (.int .i64 ((c : Nat) : Int))), (6, (.int .i64 ((a.length : Nat) : Int))), (7, vo), (42, (.int .i64 ((a.length : Nat) : Int)))] : List (Nat × Value))) (fun (⟨c, VM, M⟩ : Nat × List (List Value) × List (List (List Int))) (W : World) => Ext w W ∧ Fr (owL (owL rV 29) 22) w.heap.size w2.heap.size W.heap vo VM ∧ SM 2 a.length w.heap.size w2.heap.size W.heap.size (fun _ => 1 ≤ c) W.heap VM M ∧ c ≤ a.length ∧ Sh (Ser1 N) [] a.length (a.length + 1) M ∧ Hid (jor sA a.length (a.length - c) c M = jorS a b) ∧ w2.heap.size ≤ W.heap.size) (fun (⟨c, VM, M⟩ : Nat × List (List Value) × List (List (List Int))) => a.length - c) (0, V0, augS a b) ⟨rfl, rfl, rfl, rfl, trivial⟩ ⟨hE2, hL2_0, (by exact hSM0.weak (fun r0 hr0 h0 => by first | omega | (dsimp only at h0 ⊢; omega)) (by omega)), (by first | omega | assumption | (simp only [List.length_nil, List.length_cons, List.length_append, List.length_set, List.length_replicate]; omega) | (simp [List.length_nil, List.length_cons, List.length_append, List.length_set, List.length_replicate]; done) | (simp [List.length_nil, List.length_cons, List.length_append, List.length_set, List.length_replicate]; omega)), (by exact hA), (by exact hidI rfl), (by omega)⟩ ?_
    clear hL2_0
    rintro ⟨c, VM, M⟩ ρ19 w19 ⟨hE19, hL19_0, hL19_1, hp19_0, hSh, hJ, hkB20⟩
    have hzs19 : w.heap.size ≤ w19.heap.size := hE19.size
    have hVl0 := hL19_1.len
    have hMl0 := hSh.len
    refine wp_seq ?_
    refine wp_plain _ [0] rfl ?_
    by_cases hc21 : ((c : Nat) : Int) < ((a.length : Nat) : Int)
    ·
      refine q_lss true rfl rfl (decide_eq_true hc21) up_none ?_
      refine lw_nil ?_
      refine wp_seq ?_
      refine c_cond_t rfl ?_
      refine wp_skip ?_
      refine wp_seq ?_
      refine wp_block ?_
      refine wp_seq ?_
      refine wp_plain _ [0, 0] rfl ?_
      refine q_move (.int .i64 ((c : Nat) : Int)) rfl up_none ?_
      refine q_assign (.int .i64 ((c : Nat) : Int)) rfl up_none ?_
      refine lw_nil ?_
      refine wp_seq ?_
      refine wp_plain _ [0, 0] rfl ?_
      refine q_move (.int .i64 ((c : Nat) : Int)) rfl up_none ?_
      refine q_assign (.int .i64 ((c : Nat) : Int)) rfl up_none ?_
      refine lw_nil ?_
      refine wp_seq (c_cut (S := Nat) (fun (p : Nat) => ([(11, (.int .i64 ((p : Nat) : Int))), (6, (.int .i64 ((a.length : Nat) : Int))), (7, vo), (10, (.int .i64 ((c : Nat) : Int))), (42, (.int .i64 ((a.length : Nat) : Int))), (43, (.int .i64 ((c : Nat) : Int)))] : List (Nat × Value))) (fun (p : Nat) (W : World) => Ext w W ∧ SM 2 a.length w.heap.size w2.heap.size w19.heap.size (fun _ => 1 ≤ c) W.heap VM M ∧ Fr (owL (owL rV 29) 22) w.heap.size w2.heap.size W.heap vo VM ∧ c ≤ p ∧ p ≤ a.length ∧ Hid (p = pvJ sA a.length c M) ∧ w2.heap.size ≤ W.heap.size ∧ w19.heap.size ≤ W.heap.size) ?_ ?_)
      ·
        refine wp_block ?_
        refine c_loop (S := Nat) (fun (p : Nat) => ([(11, (.int .i64 ((p : Nat) : Int))), (6, (.int .i64 ((a.length : Nat) : Int))), (7, vo), (10, (.int .i64 ((c : Nat) : Int))), (42, (.int .i64 ((a.length : Nat) : Int))), (43, (.int .i64 ((c : Nat) : Int)))] : List (Nat × Value))) (fun (p : Nat) (W : World) => Ext w W ∧ SM 2 a.length w.heap.size w2.heap.size w19.heap.size (fun _ => 1 ≤ c) W.heap VM M ∧ Fr (owL (owL rV 29) 22) w.heap.size w2.heap.size W.heap vo VM ∧ c ≤ p ∧ p ≤ a.length ∧ Hid (pvt (fun r => sA.z ((M.getD r []).getD c sA.d)) (a.length - p) p = pvJ sA a.length c M) ∧ w2.heap.size ≤ W.heap.size ∧ w19.heap.size ≤ W.heap.size) (fun (p : Nat) => a.length - p) c ⟨rfl, rfl, rfl, rfl, rfl, rfl, trivial⟩ ⟨hE19, hL19_1, hL19_0, (by first | omega | assumption | (simp only [List.length_nil, List.length_cons, List.length_append, List.length_set, List.length_replicate]; omega) | (simp [List.length_nil, List.length_cons, List.length_append, List.length_set, List.length_replicate]; done) | (simp [List.length_nil, List.length_cons, List.length_append, List.length_set, List.length_replicate]; omega)), (by first | omega | assumption | (simp only [List.length_nil, List.length_cons, List.length_append, List.length_set, List.length_replicate]; omega) | (simp [List.length_nil, List.length_cons, List.length_append, List.length_set, List.length_replicate]; done) | (simp [List.length_nil, List.length_cons, List.length_append, List.length_set, List.length_replicate]; omega)), (by exact hidI rfl), (by omega), (by omega)⟩ ?_
        clear hL19_1 hL19_0
        rintro p ρ25 w25 ⟨hE25, hL25_0, hL25_1, hp25_0, hp25_1, hpv, hkB26, hkB27⟩
        have hzs25 : w.heap.size ≤ w25.heap.size := hE25.size
        refine wp_seq ?_
        refine wp_seq ?_
        refine wp_plain _ [0, 0, 0, 0, 0, 0, 0, 2, 0, 0, 2, 0, 2, 0, 0] rfl ?_
        refine q_move (.int .i64 ((p : Nat) : Int)) rfl up_none ?_
        refine q_move (.int .i64 ((a.length : Nat) : Int)) rfl up_none ?_
        by_cases hc28 : ((p : Nat) : Int) < ((a.length : Nat) : Int)
        ·
          refine q_lss true rfl rfl (decide_eq_true hc28) up_none ?_
          refine q_move (.bool true) rfl up_none ?_
          refine q_move vo rfl (up_some (e := 50) rfl rfl rfl) ?_
          refine q_move (.int .i64 ((p : Nat) : Int)) rfl (up_some (e := 50) rfl rfl rfl) ?_
          have hrp := hL25_0.row p (by omega)
          have hNp := ((hSh.row p (by omega)).val c (by omega)).1
          refine q_idx (v := vo) p u45 ti22 rfl rfl hL25_1.isSl rfl (by first | omega | assumption | (simp only [List.length_nil, List.length_cons, List.length_append, List.length_set, List.length_replicate]; omega) | (simp [List.length_nil, List.length_cons, List.length_append, List.length_set, List.length_replicate]; done) | (simp [List.length_nil, List.length_cons, List.length_append, List.length_set, List.length_replicate]; omega)) (up_some (e := 50) rfl rfl rfl) ?_
          obtain ⟨ue29, hl29, hd29⟩ := hL25_1.rdV2.get (k := p) [] (by first | omega | assumption | (simp only [List.length_nil, List.length_cons, List.length_append, List.length_set, List.length_replicate]; omega) | (simp [List.length_nil, List.length_cons, List.length_append, List.length_set, List.length_replicate]; done) | (simp [List.length_nil, List.length_cons, List.length_append, List.length_set, List.length_replicate]; omega))
          have hln29 := hd29.lenle
          refine q_load (p := eptr vo p 1) (.inr rfl) ue29 one22 rfl hl29 (up_some (e := 50) rfl rfl rfl) ?_
          refine q_move (.int .i64 ((c : Nat) : Int)) rfl (up_some (e := 50) rfl rfl rfl) ?_
          refine q_idx (v := ue29) c u22 ti29 rfl rfl hd29.isSl rfl (by first | omega | assumption | (simp only [List.length_nil, List.length_cons, List.length_append, List.length_set, List.length_replicate]; omega) | (simp [List.length_nil, List.length_cons, List.length_append, List.length_set, List.length_replicate]; done) | (simp [List.length_nil, List.length_cons, List.length_append, List.length_set, List.length_replicate]; omega)) (up_some (e := 50) rfl rfl rfl) ?_
          have hgv30 := hd29.getV (k := c) (by first | omega | assumption | (simp only [List.length_nil, List.length_cons, List.length_append, List.length_set, List.length_replicate]; omega) | (simp [List.length_nil, List.length_cons, List.length_append, List.length_set, List.length_replicate]; done) | (simp [List.length_nil, List.length_cons, List.length_append, List.length_set, List.length_replicate]; omega))
          have hsr30 := hL25_0.ser p c (by omega) (by omega)
          have hsl30 := hsr30.rd.lenle
          refine q_load (p := eptr ue29 c 1) (.inr rfl) ((VM.getD p []).getD c undef) one29 rfl hgv30.1 (up_some (e := 50) rfl rfl rfl) ?_
          refine q_idx (v := ((VM.getD p []).getD c undef)) 0 u29 ti2 rfl rfl hsr30.rd.isSl rfl (by first | omega | assumption | (simp only [List.length_nil, List.length_cons, List.length_append, List.length_set, List.length_replicate]; omega) | (simp [List.length_nil, List.length_cons, List.length_append, List.length_set, List.length_replicate]; done) | (simp [List.length_nil, List.length_cons, List.length_append, List.length_set, List.length_replicate]; omega)) (up_some (e := 50) rfl rfl rfl) ?_
          refine q_load (p := eptr ((VM.getD p []).getD c undef) 0 1) (.inr rfl) (.int .i64 (((M.getD p []).getD c []).getD 0 0)) one2 rfl (hsr30.rd.getI (by first | omega | assumption | (simp only [List.length_nil, List.length_cons, List.length_append, List.length_set, List.length_replicate]; omega) | (simp [List.length_nil, List.length_cons, List.length_append, List.length_set, List.length_replicate]; done) | (simp [List.length_nil, List.length_cons, List.length_append, List.length_set, List.length_replicate]; omega))).1 (up_some (e := 50) rfl rfl rfl) ?_
          by_cases hc31 : ((M.getD p []).getD c []).getD 0 0 = ((0 : Nat) : Int)
          ·
            refine q_eql true rfl rfl (decide_eq_true hc31) (up_some (e := 50) rfl rfl rfl) ?_
            refine q_pick true (.bool true) rfl rfl up_none ?_
            refine lw_nil ?_
            refine c_cond_t rfl ?_
            refine wp_skip ?_
            refine wp_block ?_
            refine wp_plain _ [0, 0, 0] rfl ?_
            refine q_move (.int .i64 ((p : Nat) : Int)) rfl up_none ?_
            refine q_add ((p + 1 : Nat) : Int) rfl rfl (w64n (by omega) (by first | omega | assumption | (simp only [List.length_nil, List.length_cons, List.length_append, List.length_set, List.length_replicate]; omega) | (simp [List.length_nil, List.length_cons, List.length_append, List.length_set, List.length_replicate]; done) | (simp [List.length_nil, List.length_cons, List.length_append, List.length_set, List.length_replicate]; omega))) up_none ?_
            refine q_assign (.int .i64 ((p + 1 : Nat) : Int)) rfl up_none ?_
            refine lw_nil ?_
            exact ⟨(p + 1), _, rfl, ⟨rfl, rfl, rfl, rfl, rfl, rfl, trivial⟩, ⟨hE25, hL25_0, hL25_1, (by first | omega | assumption | (simp only [List.length_nil, List.length_cons, List.length_append, List.length_set, List.length_replicate]; omega) | (simp [List.length_nil, List.length_cons, List.length_append, List.length_set, List.length_replicate]; done) | (simp [List.length_nil, List.length_cons, List.length_append, List.length_set, List.length_replicate]; omega)), (by first | omega | assumption | (simp only [List.length_nil, List.length_cons, List.length_append, List.length_set, List.length_replicate]; omega) | (simp [List.length_nil, List.length_cons, List.length_append, List.length_set, List.length_replicate]; done) | (simp [List.length_nil, List.length_cons, List.length_append, List.length_set, List.length_replicate]; omega)), (by exact hidI (by rw [← hpv.out, pvt_step (f := (fun r => sA.z ((M.getD r []).getD c sA.d))) (n := a.length) (p := p) (by omega) (decide_eq_true ‹((M.getD p []).getD c []).getD 0 0 = ((0 : Nat) : Int)›)])), (by omega), (by omega)⟩, by first | omega | (dsimp only; omega)⟩
          ·
            refine q_eql false rfl rfl (decide_eq_false hc31) (up_some (e := 50) rfl rfl rfl) ?_
            refine q_pick true (.bool false) rfl rfl up_none ?_
            refine lw_nil ?_
            refine c_cond_f rfl ?_
            refine wp_exit ?_
            refine t_exit ?_
            refine t_exit ?_
            refine c_exit_here ?_
            exact ⟨p, _, rfl, ⟨rfl, rfl, rfl, rfl, rfl, rfl, trivial⟩, ⟨hE25, hL25_0, hL25_1, (by first | omega | assumption | (simp only [List.length_nil, List.length_cons, List.length_append, List.length_set, List.length_replicate]; omega) | (simp [List.length_nil, List.length_cons, List.length_append, List.length_set, List.length_replicate]; done) | (simp [List.length_nil, List.length_cons, List.length_append, List.length_set, List.length_replicate]; omega)), (by first | omega | assumption | (simp only [List.length_nil, List.length_cons, List.length_append, List.length_set, List.length_replicate]; omega) | (simp [List.length_nil, List.length_cons, List.length_append, List.length_set, List.length_replicate]; done) | (simp [List.length_nil, List.length_cons, List.length_append, List.length_set, List.length_replicate]; omega)), (by first | exact hidI (by rw [← hpv.out]; exact (pvt_out (by omega)).symm) | exact hidI (by rw [← hpv.out]; exact (pvt_here (f := (fun r => sA.z ((M.getD r []).getD c sA.d))) (decide_eq_false ‹¬ ((M.getD p []).getD c []).getD 0 0 = ((0 : Nat) : Int)›)).symm)), (by omega), (by omega)⟩⟩
        ·
          refine q_lss false rfl rfl (decide_eq_false hc28) up_none ?_
          refine q_move (.bool false) rfl up_none ?_
          refine lw_skip (e := 50) (c := false) rfl rfl rfl rfl ?_
          refine lw_skip (e := 50) (c := false) rfl rfl rfl rfl ?_
          refine lw_skip (e := 50) (c := false) rfl rfl rfl rfl ?_
          refine lw_skip (e := 50) (c := false) rfl rfl rfl rfl ?_
          refine lw_skip (e := 50) (c := false) rfl rfl rfl rfl ?_
          refine lw_skip (e := 50) (c := false) rfl rfl rfl rfl ?_
          refine lw_skip (e := 50) (c := false) rfl rfl rfl rfl ?_
          refine lw_skip (e := 50) (c := false) rfl rfl rfl rfl ?_
          refine lw_skip (e := 50) (c := false) rfl rfl rfl rfl ?_
          refine lw_skip (e := 50) (c := false) rfl rfl rfl rfl ?_
          refine q_pick false (.bool false) rfl rfl up_none ?_
          refine lw_nil ?_
          refine c_cond_f rfl ?_
          refine wp_exit ?_
          refine t_exit ?_
          refine t_exit ?_
          refine c_exit_here ?_
          exact ⟨p, _, rfl, ⟨rfl, rfl, rfl, rfl, rfl, rfl, trivial⟩, ⟨hE25, hL25_0, hL25_1, (by first | omega | assumption | (simp only [List.length_nil, List.length_cons, List.length_append, List.length_set, List.length_replicate]; omega) | (simp [List.length_nil, List.length_cons, List.length_append, List.length_set, List.length_replicate]; done) | (simp [List.length_nil, List.length_cons, List.length_append, List.length_set, List.length_replicate]; omega)), (by first | omega | assumption | (simp only [List.length_nil, List.length_cons, List.length_append, List.length_set, List.length_replicate]; omega) | (simp [List.length_nil, List.length_cons, List.length_append, List.length_set, List.length_replicate]; done) | (simp [List.length_nil, List.length_cons, List.length_append, List.length_set, List.length_replicate]; omega)), (by first | exact hidI (by rw [← hpv.out]; exact (pvt_out (by omega)).symm) | exact hidI (by rw [← hpv.out]; exact (pvt_here (f := (fun r => sA.z ((M.getD r []).getD c sA.d))) (decide_eq_false ‹¬ ((M.getD p []).getD c []).getD 0 0 = ((0 : Nat) : Int)›)).symm)), (by omega), (by omega)⟩⟩
      ·
        clear hL19_1 hL19_0
        rintro p ρ22 w22 ⟨hE22, hL22_0, hL22_1, hp22_0, hp22_1, hpe, hkB23, hkB24⟩
        have hzs22 : w.heap.size ≤ w22.heap.size := hE22.size
        refine wp_seq ?_
        refine wp_seq ?_
        refine wp_plain _ [0, 0, 0] rfl ?_
        refine q_move (.int .i64 ((p : Nat) : Int)) rfl up_none ?_
        refine q_move (.int .i64 ((a.length : Nat) : Int)) rfl up_none ?_
        by_cases hc32 : ((p : Nat) : Int) = ((a.length : Nat) : Int)
        ·
          refine q_eql true rfl rfl (decide_eq_true hc32) up_none ?_
          refine lw_nil ?_
          refine c_cond_t rfl ?_
          refine wp_seq ?_
          refine wp_plain _ [0, 0] rfl ?_
          refine q_assign (.slice none 0 0) rfl up_none ?_
          refine q_assign (.bool false) rfl up_none ?_
          refine lw_nil ?_
          refine wp_ret ?_
          refine t_ret ?_
          refine b_ret ?_
          refine t_ret ?_
          refine t_ret ?_
          refine b_ret ?_
          refine t_ret ?_
          have hno := jor_none hJ.out (by omega) (by rw [← hpe.out]; omega)
          exact post_ret [4, 5] rfl (.tuple #[(.slice none 0 0), (.bool false)]) rfl ⟨(.slice none 0 0), (by rw [hno]; rfl), hE22, (by rw [solS_none hno]; exact frNil _ _ _)⟩
        ·
          refine q_eql false rfl rfl (decide_eq_false hc32) up_none ?_
          refine lw_nil ?_
          refine c_cond_f rfl ?_
          refine wp_skip ?_
          refine wp_seq (c_cut (S := List (List Value) × List (List (List Int))) (fun (⟨V1, M1⟩ : List (List Value) × List (List (List Int))) => ([(6, (.int .i64 ((a.length : Nat) : Int))), (7, vo), (10, (.int .i64 ((c : Nat) : Int))), (42, (.int .i64 ((a.length : Nat) : Int))), (43, (.int .i64 ((c : Nat) : Int)))] : List (Nat × Value))) (fun (⟨V1, M1⟩ : List (List Value) × List (List (List Int))) (W : World) => Ext w W ∧ Fr (owL (owL rV 29) 22) w.heap.size w2.heap.size W.heap vo V1 ∧ SM 2 a.length w.heap.size w2.heap.size W.heap.size (fun _ => 1 ≤ c) W.heap V1 M1 ∧ Sh (Ser1 N) [] a.length (a.length + 1) M1 ∧ Hid (M1 = swapL M c p []) ∧ (c ≤ p ∧ p < a.length ∧ Hid (p = pvJ sA a.length c M)) ∧ w2.heap.size ≤ W.heap.size) ?_ ?_)
          ·
            refine wp_draw _ [0, 0, 0, 0, 0, 0, 0, 1, 0, 0, 0, 1, 0, 4, 0, 4] mixed (by kernel_rfl) ?_
            have hpl := pvJ_le sA a.length c M (by omega)
            have hne : pvJ sA a.length c M ≠ a.length := by rw [← hpe.out]; omega
            have hpl2 := pvJ_lt sA hne (by omega)
            have hpe2 : p = pvJ sA a.length c M := hpe.out
            refine q_move vo rfl up_none ?_
            refine q_move (.int .i64 ((c : Nat) : Int)) rfl up_none ?_
            refine q_move vo rfl up_none ?_
            refine q_move (.int .i64 ((p : Nat) : Int)) rfl up_none ?_
            refine q_move vo rfl up_none ?_
            refine q_move (.int .i64 ((p : Nat) : Int)) rfl up_none ?_
            refine q_idx (v := vo) p u45 ti22 rfl rfl hL22_1.isSl rfl (by first | omega | assumption | (simp only [List.length_nil, List.length_cons, List.length_append, List.length_set, List.length_replicate]; omega) | (simp [List.length_nil, List.length_cons, List.length_append, List.length_set, List.length_replicate]; done) | (simp [List.length_nil, List.length_cons, List.length_append, List.length_set, List.length_replicate]; omega)) up_none ?_
            obtain ⟨ue35, hl35, hd35⟩ := hL22_1.rdV2.get (k := p) [] (by first | omega | assumption | (simp only [List.length_nil, List.length_cons, List.length_append, List.length_set, List.length_replicate]; omega) | (simp [List.length_nil, List.length_cons, List.length_append, List.length_set, List.length_replicate]; done) | (simp [List.length_nil, List.length_cons, List.length_append, List.length_set, List.length_replicate]; omega))
            have hln35 := hd35.lenle
            refine q_load (p := eptr vo p 1) (.inl rfl) ue35 one22 rfl hl35 up_none ?_
            refine q_move vo rfl up_none ?_
            refine q_move (.int .i64 ((c : Nat) : Int)) rfl up_none ?_
            refine q_idx (v := vo) c u45 ti22 rfl rfl hL22_1.isSl rfl (by first | omega | assumption | (simp only [List.length_nil, List.length_cons, List.length_append, List.length_set, List.length_replicate]; omega) | (simp [List.length_nil, List.length_cons, List.length_append, List.length_set, List.length_replicate]; done) | (simp [List.length_nil, List.length_cons, List.length_append, List.length_set, List.length_replicate]; omega)) up_none ?_
            obtain ⟨ue36, hl36, hd36⟩ := hL22_1.rdV2.get (k := c) [] (by first | omega | assumption | (simp only [List.length_nil, List.length_cons, List.length_append, List.length_set, List.length_replicate]; omega) | (simp [List.length_nil, List.length_cons, List.length_append, List.length_set, List.length_replicate]; done) | (simp [List.length_nil, List.length_cons, List.length_append, List.length_set, List.length_replicate]; omega))
            have hln36 := hd36.lenle
            refine q_load (p := eptr vo c 1) (.inl rfl) ue36 one22 rfl hl36 up_none ?_
            refine q_idx (v := vo) c u45 ti22 rfl rfl hL22_1.isSl rfl (by first | omega | assumption | (simp only [List.length_nil, List.length_cons, List.length_append, List.length_set, List.length_replicate]; omega) | (simp [List.length_nil, List.length_cons, List.length_append, List.length_set, List.length_replicate]; done) | (simp [List.length_nil, List.length_cons, List.length_append, List.length_set, List.length_replicate]; omega)) up_none ?_
            have hcx37 := isSl_cells hd35.isSl
            have hcy37 := isSl_cells hd36.isSl
            obtain ⟨us37, hOp37, hUl37, hUs37⟩ := hL22_1.opn oV (by omega)
            obtain ⟨ua37, hua37, hub37⟩ := hUs37 p (by first | omega | assumption | (simp only [List.length_nil, List.length_cons, List.length_append, List.length_set, List.length_replicate]; omega) | (simp [List.length_nil, List.length_cons, List.length_append, List.length_set, List.length_replicate]; done) | (simp [List.length_nil, List.length_cons, List.length_append, List.length_set, List.length_replicate]; omega))
            obtain ⟨uc37, huc37, hud37⟩ := hUs37 c (by first | omega | assumption | (simp only [List.length_nil, List.length_cons, List.length_append, List.length_set, List.length_replicate]; omega) | (simp [List.length_nil, List.length_cons, List.length_append, List.length_set, List.length_replicate]; done) | (simp [List.length_nil, List.length_cons, List.length_append, List.length_set, List.length_replicate]; omega))
            have hga37 := opn_get hua37 hub37 hl35
            have hgc37 := opn_get huc37 hud37 hl36
            refine e_setV oV (v := vo) (u := ue35) (w := w22.drew) sz22 rfl rfl hOp37 hcx37 (by rw [hUl37]; exact (by first | omega | assumption | (simp only [List.length_nil, List.length_cons, List.length_append, List.length_set, List.length_replicate]; omega) | (simp [List.length_nil, List.length_cons, List.length_append, List.length_set, List.length_replicate]; done) | (simp [List.length_nil, List.length_cons, List.length_append, List.length_set, List.length_replicate]; omega))) up_none ?_
            intro w37 F37 hC37 hz37 hF37 hO37
            replace hC37 := hC37.of_drew
            have hE37 : Ext w w37 := hC37.below hE22 (fun c hc => Nat.le_trans (Nat.le_refl _) (hF37 c hc).1) hE22.size
            have hzs37 : w22.heap.size ≤ w37.heap.size := hC37.size
            have hF38 := hL22_0.chg hC37 (fun c hc => by have := hF37 c hc; omega)
            refine q_idx (v := vo) p u45 ti22 rfl rfl hL22_1.isSl rfl (by first | omega | assumption | (simp only [List.length_nil, List.length_cons, List.length_append, List.length_set, List.length_replicate]; omega) | (simp [List.length_nil, List.length_cons, List.length_append, List.length_set, List.length_replicate]; done) | (simp [List.length_nil, List.length_cons, List.length_append, List.length_set, List.length_replicate]; omega)) up_none ?_
            refine e_setV oV (v := vo) (u := ue36) (w := w37) sz22 rfl rfl hO37 hcy37 (by rw [List.length_set, hUl37]; exact (by first | omega | assumption | (simp only [List.length_nil, List.length_cons, List.length_append, List.length_set, List.length_replicate]; omega) | (simp [List.length_nil, List.length_cons, List.length_append, List.length_set, List.length_replicate]; done) | (simp [List.length_nil, List.length_cons, List.length_append, List.length_set, List.length_replicate]; omega))) up_none ?_
            intro w39 F39 hC39 hz39 hF39 hO39
            have hE39 : Ext w w39 := hC39.below hE37 (fun c hc => Nat.le_trans (Nat.le_refl _) (hF39 c hc).1) hE37.size
            have hzs39 : w37.heap.size ≤ w39.heap.size := hC39.size
            have hF40 := hF38.chg hC39 (fun c hc => by have := hF39 c hc; omega)
            have hM39 := hO39.swap [] (i := c) (j := p) (by first | omega | assumption | (simp only [List.length_nil, List.length_cons, List.length_append, List.length_set, List.length_replicate]; omega) | (simp [List.length_nil, List.length_cons, List.length_append, List.length_set, List.length_replicate]; done) | (simp [List.length_nil, List.length_cons, List.length_append, List.length_set, List.length_replicate]; omega)) (by first | omega | assumption | (simp only [List.length_nil, List.length_cons, List.length_append, List.length_set, List.length_replicate]; omega) | (simp [List.length_nil, List.length_cons, List.length_append, List.length_set, List.length_replicate]; done) | (simp [List.length_nil, List.length_cons, List.length_append, List.length_set, List.length_replicate]; omega)) (by unfold swapL; rw [hga37, hgc37])
            have hS39 := hF40.swap (fun _ _ h => h) (c := c) (p := p) (by omega) (by omega)
            refine lw_nil ?_
            exact ⟨((swapL VM c p []), (swapL M c p [])), _, rfl, ⟨rfl, rfl, rfl, rfl, rfl, trivial⟩, ⟨hE39, hM39, (by exact hS39.weak (fun r0 hr0 h0 => by first | omega | (dsimp only at h0 ⊢; omega)) (by omega)), (by exact hSh.swap (by omega) (by omega)), (by exact hidI rfl), (by exact ⟨by omega, by omega, hidI hpe2⟩), (by omega)⟩⟩
          ·
            clear hp2_0 hc3 hkB20 hp19_0 hVl0 hc21 hkB24 hkB23 hp22_1 hp22_0 hc32 hE19 hzs19 hL22_1 hL22_0 hE22 hzs22
            rintro ⟨V1, M1⟩ ρ33 w33 ⟨hE33, hL33_0, hL33_1, hSw, hMe, hpq, hkB34⟩
            have hzs33 : w.heap.size ≤ w33.heap.size := hE33.size
            clear hpe
            have hlM1 := hSw.len
            have hpe2 := hpq.2.2
            refine wp_seq ?_
            refine wp_plain _ [0, 0, 0, 2, 0, 0, 2, 0] rfl ?_
            have hVl1 := hL33_1.len
            have hVr1 := hL33_1.row c (by omega)
            refine q_move vo rfl up_none ?_
            refine q_move (.int .i64 ((c : Nat) : Int)) rfl up_none ?_
            refine q_idx (v := vo) c u45 ti22 rfl rfl hL33_0.isSl rfl (by first | omega | assumption | (simp only [List.length_nil, List.length_cons, List.length_append, List.length_set, List.length_replicate]; omega) | (simp [List.length_nil, List.length_cons, List.length_append, List.length_set, List.length_replicate]; done) | (simp [List.length_nil, List.length_cons, List.length_append, List.length_set, List.length_replicate]; omega)) up_none ?_
            obtain ⟨ue41, hl41, hd41⟩ := hL33_0.rdV2.get (k := c) [] (by first | omega | assumption | (simp only [List.length_nil, List.length_cons, List.length_append, List.length_set, List.length_replicate]; omega) | (simp [List.length_nil, List.length_cons, List.length_append, List.length_set, List.length_replicate]; done) | (simp [List.length_nil, List.length_cons, List.length_append, List.length_set, List.length_replicate]; omega))
            have hln41 := hd41.lenle
            refine q_load (p := eptr vo c 1) (.inr rfl) ue41 one22 rfl hl41 up_none ?_
            refine q_move (.int .i64 ((c : Nat) : Int)) rfl up_none ?_
            refine q_idx (v := ue41) c u22 ti29 rfl rfl hd41.isSl rfl (by first | omega | assumption | (simp only [List.length_nil, List.length_cons, List.length_append, List.length_set, List.length_replicate]; omega) | (simp [List.length_nil, List.length_cons, List.length_append, List.length_set, List.length_replicate]; done) | (simp [List.length_nil, List.length_cons, List.length_append, List.length_set, List.length_replicate]; omega)) up_none ?_
            have hgv42 := hd41.getV (k := c) (by first | omega | assumption | (simp only [List.length_nil, List.length_cons, List.length_append, List.length_set, List.length_replicate]; omega) | (simp [List.length_nil, List.length_cons, List.length_append, List.length_set, List.length_replicate]; done) | (simp [List.length_nil, List.length_cons, List.length_append, List.length_set, List.length_replicate]; omega))
            have hsr42 := hL33_1.ser c c (by omega) (by omega)
            have hsl42 := hsr42.rd.lenle
            refine q_load (p := eptr ue41 c 1) (.inr rfl) ((V1.getD c []).getD c undef) one29 rfl hgv42.1 up_none ?_
            refine q_assign ((V1.getD c []).getD c undef) rfl up_none ?_
            refine lw_nil ?_
            refine wp_seq ?_
            refine wp_seq ?_
            refine wp_plain _ [0, 0, 0, 2, 0, 0] rfl ?_
            refine q_move vo rfl up_none ?_
            refine q_move (.int .i64 ((c : Nat) : Int)) rfl up_none ?_
            refine q_idx (v := vo) c u45 ti22 rfl rfl hL33_0.isSl rfl (by first | omega | assumption | (simp only [List.length_nil, List.length_cons, List.length_append, List.length_set, List.length_replicate]; omega) | (simp [List.length_nil, List.length_cons, List.length_append, List.length_set, List.length_replicate]; done) | (simp [List.length_nil, List.length_cons, List.length_append, List.length_set, List.length_replicate]; omega)) up_none ?_
            obtain ⟨ue43, hl43, hd43⟩ := hL33_0.rdV2.get (k := c) [] (by first | omega | assumption | (simp only [List.length_nil, List.length_cons, List.length_append, List.length_set, List.length_replicate]; omega) | (simp [List.length_nil, List.length_cons, List.length_append, List.length_set, List.length_replicate]; done) | (simp [List.length_nil, List.length_cons, List.length_append, List.length_set, List.length_replicate]; omega))
            have hln43 := hd43.lenle
            refine q_load (p := eptr vo c 1) (.inr rfl) ue43 one22 rfl hl43 up_none ?_
            refine q_len (v := ue43) u22 rfl hd43.isSl up_none ?_
            refine q_move (.int .i64 ((0 : Nat) : Int)) rfl up_none ?_
            refine lw_nil ?_
            refine wp_block ?_
            refine c_loop (S := Nat × List (List Value) × List (List (List Int))) (fun (⟨k, VK, MK⟩ : Nat × List (List Value) × List (List (List Int))) => ([(93, (.int .i64 ((k : Nat) : Int))), (6, (.int .i64 ((a.length : Nat) : Int))), (7, vo), (10, (.int .i64 ((c : Nat) : Int))), (12, ((V1.getD c []).getD c undef)), (42, (.int .i64 ((a.length : Nat) : Int))), (43, (.int .i64 ((c : Nat) : Int))), (92, (.int .i64 (((V1.getD c []).length : Nat) : Int)))] : List (Nat × Value))) (fun (⟨k, VK, MK⟩ : Nat × List (List Value) × List (List (List Int))) (W : World) => Ext w W ∧ Fr (owL (owL rV 29) 22) w.heap.size w2.heap.size W.heap vo VK ∧ (SM 2 a.length w.heap.size w2.heap.size W.heap.size (fun r0 => 1 ≤ c ∨ (r0 = c ∧ a.length < k)) W.heap VK MK) ∧ Ser w.heap.size w2.heap.size W.heap ((V1.getD c []).getD c undef) ((M1.getD c []).getD c []) ∧ k ≤ a.length + 1 ∧ Sh (Ser1 N) [] a.length (a.length + 1) MK ∧ Hid (MK = rowC c k M1) ∧ w2.heap.size ≤ W.heap.size) (fun (⟨k, VK, MK⟩ : Nat × List (List Value) × List (List (List Int))) => a.length + 1 - k) (0, V1, M1) ⟨rfl, rfl, rfl, rfl, rfl, rfl, rfl, rfl, trivial⟩ ⟨hE33, hL33_0, (by exact hL33_1.weak (fun r0 hr0 h0 => by first | omega | (dsimp only at h0 ⊢; omega)) (by omega)), hsr42, (by first | omega | assumption | (simp only [List.length_nil, List.length_cons, List.length_append, List.length_set, List.length_replicate]; omega) | (simp [List.length_nil, List.length_cons, List.length_append, List.length_set, List.length_replicate]; done) | (simp [List.length_nil, List.length_cons, List.length_append, List.length_set, List.length_replicate]; omega)), (by exact hSw), (by exact hidI (rowC_zero (by omega)).symm), (by omega)⟩ ?_
            clear hkB34 hVl1 hd41 hl41 hgv42 hsr42 hsl42 hd43 hl43 hL33_1 hL33_0 hE33 hzs33 hln41 hln43
            rintro ⟨k, VK, MK⟩ ρ44 w44 ⟨hE44, hL44_0, hL44_1, hL44_2, hp44_0, hShK, hK, hkB45⟩
            have hzs44 : w.heap.size ≤ w44.heap.size := hE44.size
            refine wp_seq ?_
            refine wp_plain _ [0] rfl ?_
            by_cases hc46 : ((k : Nat) : Int) < (((V1.getD c []).length : Nat) : Int)
            ·
              refine q_lss true rfl rfl (decide_eq_true hc46) up_none ?_
              refine lw_nil ?_
              refine wp_seq ?_
              refine c_cond_t rfl ?_
              refine wp_skip ?_
              refine wp_seq ?_
              refine wp_block ?_
              refine wp_seq ?_
              refine wp_plain _ [0, 0] rfl ?_
              refine q_move (.int .i64 ((k : Nat) : Int)) rfl up_none ?_
              refine q_assign (.int .i64 ((k : Nat) : Int)) rfl up_none ?_
              refine lw_nil ?_
              refine wp_draw _ [0, 0, 0, 1, 0, 0, 0, 0, 1, 0, 0, 1, 0, 3, 0, 4] mixed (by kernel_rfl) ?_
              have hVl2 := hL44_1.len
              have hVr2 := hL44_1.row c (by omega)
              have hdv := (hSw.row c (by omega)).val c (by omega)
              have hx1 := (hShK.row c (by omega)).val k (by omega)
              have hx1l := hx1.1
              have hdvl := hdv.1
              refine q_move vo rfl up_none ?_
              refine q_move (.int .i64 ((c : Nat) : Int)) rfl up_none ?_
              refine q_idx (v := vo) c u45 ti22 rfl rfl hL44_0.isSl rfl (by first | omega | assumption | (simp only [List.length_nil, List.length_cons, List.length_append, List.length_set, List.length_replicate]; omega) | (simp [List.length_nil, List.length_cons, List.length_append, List.length_set, List.length_replicate]; done) | (simp [List.length_nil, List.length_cons, List.length_append, List.length_set, List.length_replicate]; omega)) up_none ?_
              obtain ⟨ue47, hl47, hd47⟩ := hL44_0.rdV2.get (k := c) [] (by first | omega | assumption | (simp only [List.length_nil, List.length_cons, List.length_append, List.length_set, List.length_replicate]; omega) | (simp [List.length_nil, List.length_cons, List.length_append, List.length_set, List.length_replicate]; done) | (simp [List.length_nil, List.length_cons, List.length_append, List.length_set, List.length_replicate]; omega))
              have hln47 := hd47.lenle
              refine q_load (p := eptr vo c 1) (.inl rfl) ue47 one22 rfl hl47 up_none ?_
              refine q_move (.int .i64 ((k : Nat) : Int)) rfl up_none ?_
              refine q_move vo rfl up_none ?_
              refine q_move (.int .i64 ((c : Nat) : Int)) rfl up_none ?_
              refine q_idx (v := vo) c u45 ti22 rfl rfl hL44_0.isSl rfl (by first | omega | assumption | (simp only [List.length_nil, List.length_cons, List.length_append, List.length_set, List.length_replicate]; omega) | (simp [List.length_nil, List.length_cons, List.length_append, List.length_set, List.length_replicate]; done) | (simp [List.length_nil, List.length_cons, List.length_append, List.length_set, List.length_replicate]; omega)) up_none ?_
              obtain ⟨ue48, hl48, hd48⟩ := hL44_0.rdV2.get (k := c) [] (by first | omega | assumption | (simp only [List.length_nil, List.length_cons, List.length_append, List.length_set, List.length_replicate]; omega) | (simp [List.length_nil, List.length_cons, List.length_append, List.length_set, List.length_replicate]; done) | (simp [List.length_nil, List.length_cons, List.length_append, List.length_set, List.length_replicate]; omega))
              have hln48 := hd48.lenle
              refine q_load (p := eptr vo c 1) (.inl rfl) ue48 one22 rfl hl48 up_none ?_
              refine q_move (.int .i64 ((k : Nat) : Int)) rfl up_none ?_
              refine q_idx (v := ue48) k u22 ti29 rfl rfl hd48.isSl rfl (by first | omega | assumption | (simp only [List.length_nil, List.length_cons, List.length_append, List.length_set, List.length_replicate]; omega) | (simp [List.length_nil, List.length_cons, List.length_append, List.length_set, List.length_replicate]; done) | (simp [List.length_nil, List.length_cons, List.length_append, List.length_set, List.length_replicate]; omega)) up_none ?_
              have hgv49 := hd48.getV (k := k) (by first | omega | assumption | (simp only [List.length_nil, List.length_cons, List.length_append, List.length_set, List.length_replicate]; omega) | (simp [List.length_nil, List.length_cons, List.length_append, List.length_set, List.length_replicate]; done) | (simp [List.length_nil, List.length_cons, List.length_append, List.length_set, List.length_replicate]; omega))
              have hsr49 := hL44_1.ser c k (by omega) (by omega)
              have hsl49 := hsr49.rd.lenle
              refine q_load (p := eptr ue48 k 1) (.inl rfl) ((VK.getD c []).getD k undef) one29 rfl hgv49.1 up_none ?_
              refine q_move ((V1.getD c []).getD c undef) rfl up_none ?_
              refine lw_call 108 [] [] [((VK.getD c []).getD k undef), ((V1.getD c []).getD c undef)] rfl rfl cf108 up_none (c_impl_quotient _ _ _ _ _ hsr49.rd hL44_2.rd (by omega) (by omega) (by omega) (by exact hx1.2) (by exact hdv.2)) ?_
              rintro e50 w50 ⟨v50_0, rfl, hX50, hO50_0⟩
              refine ⟨_, rfl, hX50, ?_⟩
              replace hX50 := hX50.of_drew
              have hzs50 : w44.heap.size ≤ w50.heap.size := hX50.size
              have hE50 : Ext w w50 := hE44.trans hX50
              have hL44_0x50 := hL44_0.ext (oV2) hX50
              have hL44_1x50 := hL44_1.ext hX50
              have hL44_2x50 := hL44_2.ext hX50
              have hd47x50 := hd47.ext gV hX50
              have hlx51 := ldH_ext hX50 hl47
              have hd48x50 := hd48.ext gV hX50
              have hlx52 := ldH_ext hX50 hl48
              have hsr49x50 := hsr49.ext hX50
              replace hO50_0 := hO50_0.low (B' := w44.heap.size) (Nat.le_refl _)
              refine q_idx (v := ue47) k u22 ti29 rfl rfl hd47x50.isSl rfl (by first | omega | assumption | (simp only [List.length_nil, List.length_cons, List.length_append, List.length_set, List.length_replicate]; omega) | (simp [List.length_nil, List.length_cons, List.length_append, List.length_set, List.length_replicate]; done) | (simp [List.length_nil, List.length_cons, List.length_append, List.length_set, List.length_replicate]; omega)) up_none ?_
              refine e_setMV (v := vo) (u := ue47) (a := v50_0) (w := w50) sz29 rfl rfl (isSl_cells hO50_0.isSl) hL44_0x50 (by first | omega | assumption | (simp only [List.length_nil, List.length_cons, List.length_append, List.length_set, List.length_replicate]; omega) | (simp [List.length_nil, List.length_cons, List.length_append, List.length_set, List.length_replicate]; done) | (simp [List.length_nil, List.length_cons, List.length_append, List.length_set, List.length_replicate]; omega)) hlx51 (by first | omega | assumption | (simp only [List.length_nil, List.length_cons, List.length_append, List.length_set, List.length_replicate]; omega) | (simp [List.length_nil, List.length_cons, List.length_append, List.length_set, List.length_replicate]; done) | (simp [List.length_nil, List.length_cons, List.length_append, List.length_set, List.length_replicate]; omega)) up_none ?_
              intro w53 F53 hC53 hz53 hF53 hO53
              have hE53 : Ext w w53 := hC53.below hE50 (fun c hc => Nat.le_trans (Nat.le_refl _) (hF53 c hc).1) hE50.size
              have hzs53 : w50.heap.size ≤ w53.heap.size := hC53.size
              have hF54 := hL44_1x50.chg hC53 (fun c hc => by have := hF53 c hc; omega)
              have hF55 := hL44_2x50.chg hC53 (fun c hc => by have := hF53 c hc; omega)
              have hF56 := hsr49x50.chg hC53 (fun c hc => by have := hF53 c hc; omega)
              have hF57 := hO50_0.chg (o1) hC53 (fun c hc => by have := hF53 c hc; omega)
              have hS53 := hF54.put (r := c) (k := k) (T' := w53.heap.size) (by omega) (by omega) hF57 (by omega) (by omega) (by omega) (by omega)
              refine lw_nil ?_
              refine wp_plain _ [0, 0] rfl ?_
              refine q_add ((k + 1 : Nat) : Int) rfl rfl (w64n (by omega) (by first | omega | assumption | (simp only [List.length_nil, List.length_cons, List.length_append, List.length_set, List.length_replicate]; omega) | (simp [List.length_nil, List.length_cons, List.length_append, List.length_set, List.length_replicate]; done) | (simp [List.length_nil, List.length_cons, List.length_append, List.length_set, List.length_replicate]; omega))) up_none ?_
              refine q_move (.int .i64 ((k + 1 : Nat) : Int)) rfl up_none ?_
              refine lw_nil ?_
              exact ⟨((k + 1), (VK.set c ((VK.getD c []).set k v50_0)), (MK.set c ((MK.getD c []).set k (quoS ((MK.getD c []).getD k []) ((M1.getD c []).getD c []))))), _, rfl, ⟨rfl, rfl, rfl, rfl, rfl, rfl, rfl, rfl, trivial⟩, ⟨hE53, hO53, (by exact hS53.weak (fun r0 hr0 h0 => by first | omega | (dsimp only at h0 ⊢; omega)) (by omega)), hF55, (by first | omega | assumption | (simp only [List.length_nil, List.length_cons, List.length_append, List.length_set, List.length_replicate]; omega) | (simp [List.length_nil, List.length_cons, List.length_append, List.length_set, List.length_replicate]; done) | (simp [List.length_nil, List.length_cons, List.length_append, List.length_set, List.length_replicate]; omega)), (by exact hShK.put (by omega) ((sA_V N).q _ _ hx1 hdv)), (by exact hidI (by have h := rowC_step (c := c) (k := k) hSw (by omega) (by omega); rw [← hK.out] at h; exact h)), (by omega)⟩, by first | omega | (dsimp only; omega)⟩
            ·
              refine q_lss false rfl rfl (decide_eq_false hc46) up_none ?_
              refine lw_nil ?_
              refine wp_seq ?_
              refine c_cond_f rfl ?_
              refine wp_exit ?_
              refine t_exit ?_
              refine t_exit ?_
              refine c_exit_here ?_
              refine wp_seq ?_
              refine wp_plain _ [0, 0] rfl ?_
              refine q_move (.int .i64 ((a.length : Nat) : Int)) rfl up_none ?_
              refine q_move (.int .i64 ((0 : Nat) : Int)) rfl up_none ?_
              refine lw_nil ?_
              refine wp_block ?_
              have hD : Sh (Ser1 N) [] a.length (a.length + 1) (divJ sA c p M) := hSh.div (sA_V N) (by omega) (by omega) (by omega)
              have hlD := hidI hD.len
              refine c_loop (S := Nat × List (List Value) × List (List (List Int))) (fun (⟨r, VR, MR⟩ : Nat × List (List Value) × List (List (List Int))) => ([(113, (.int .i64 ((r : Nat) : Int))), (6, (.int .i64 ((a.length : Nat) : Int))), (7, vo), (10, (.int .i64 ((c : Nat) : Int))), (42, (.int .i64 ((a.length : Nat) : Int))), (43, (.int .i64 ((c : Nat) : Int))), (112, (.int .i64 ((a.length : Nat) : Int)))] : List (Nat × Value))) (fun (⟨r, VR, MR⟩ : Nat × List (List Value) × List (List (List Int))) (W : World) => Ext w W ∧ Fr (owL (owL rV 29) 22) w.heap.size w2.heap.size W.heap vo VR ∧ SM 2 a.length w.heap.size w2.heap.size W.heap.size (fun r0 => 1 ≤ c ∨ r0 = c ∨ r0 < r) W.heap VR MR ∧ r ≤ a.length ∧ Sh (Ser1 N) [] a.length (a.length + 1) MR ∧ Hid (MR = mix r (rowsJ sA a.length c (divJ sA c p M)) (divJ sA c p M)) ∧ w2.heap.size ≤ W.heap.size) (fun (⟨r, VR, MR⟩ : Nat × List (List Value) × List (List (List Int))) => a.length - r) (0, VK, MK) ⟨rfl, rfl, rfl, rfl, rfl, rfl, rfl, trivial⟩ ⟨hE44, hL44_0, (by exact hL44_1.weak (fun r0 hr0 h0 => by first | omega | (dsimp only at h0 ⊢; omega)) (by omega)), (by first | omega | assumption | (simp only [List.length_nil, List.length_cons, List.length_append, List.length_set, List.length_replicate]; omega) | (simp [List.length_nil, List.length_cons, List.length_append, List.length_set, List.length_replicate]; done) | (simp [List.length_nil, List.length_cons, List.length_append, List.length_set, List.length_replicate]; omega)), (by exact hShK), (by exact hidI (by have h := hK.out; rw [hMe.out, rowC_done (by rw [← hMe.out]; exact hSw) (by omega) (by omega)] at h; rw [mix_zero]; exact h)), (by omega)⟩ ?_
              clear hVr1 hkB45 hp44_0 hc46 hL44_2 hL44_1 hL44_0 hE44 hzs44
              rintro ⟨r, VR, MR⟩ ρ58 w58 ⟨hE58, hL58_0, hL58_1, hp58_0, hShR, hR, hkB59⟩
              have hzs58 : w.heap.size ≤ w58.heap.size := hE58.size
              refine wp_seq ?_
              refine wp_plain _ [0] rfl ?_
              by_cases hc60 : ((r : Nat) : Int) < ((a.length : Nat) : Int)
              ·
                refine q_lss true rfl rfl (decide_eq_true hc60) up_none ?_
                refine lw_nil ?_
                refine wp_seq ?_
                refine c_cond_t rfl ?_
                refine wp_skip ?_
                refine wp_seq ?_
                refine wp_block ?_
                refine wp_seq ?_
                refine wp_plain _ [0, 0] rfl ?_
                refine q_move (.int .i64 ((r : Nat) : Int)) rfl up_none ?_
                refine q_assign (.int .i64 ((r : Nat) : Int)) rfl up_none ?_
                refine lw_nil ?_
                refine wp_seq ?_
                refine wp_seq ?_
                refine wp_plain _ [0, 0, 0] rfl ?_
                refine q_move (.int .i64 ((r : Nat) : Int)) rfl up_none ?_
                refine q_move (.int .i64 ((c : Nat) : Int)) rfl up_none ?_
                by_cases hc61 : ((r : Nat) : Int) = ((c : Nat) : Int)
                ·
                  refine q_eql true rfl rfl (decide_eq_true hc61) up_none ?_
                  refine lw_nil ?_
                  refine c_cond_t rfl ?_
                  refine wp_exit ?_
                  refine t_exit ?_
                  refine c_exit_here ?_
                  refine wp_plain _ [0, 0] rfl ?_
                  refine q_add ((r + 1 : Nat) : Int) rfl rfl (w64n (by omega) (by first | omega | assumption | (simp only [List.length_nil, List.length_cons, List.length_append, List.length_set, List.length_replicate]; omega) | (simp [List.length_nil, List.length_cons, List.length_append, List.length_set, List.length_replicate]; done) | (simp [List.length_nil, List.length_cons, List.length_append, List.length_set, List.length_replicate]; omega))) up_none ?_
                  refine q_move (.int .i64 ((r + 1 : Nat) : Int)) rfl up_none ?_
                  refine lw_nil ?_
                  exact ⟨((r + 1), VR, MR), _, rfl, ⟨rfl, rfl, rfl, rfl, rfl, rfl, rfl, trivial⟩, ⟨hE58, hL58_0, (by exact hL58_1.weak (fun r0 hr0 h0 => by first | omega | (dsimp only at h0 ⊢; omega)) (by omega)), (by first | omega | assumption | (simp only [List.length_nil, List.length_cons, List.length_append, List.length_set, List.length_replicate]; omega) | (simp [List.length_nil, List.length_cons, List.length_append, List.length_set, List.length_replicate]; done) | (simp [List.length_nil, List.length_cons, List.length_append, List.length_set, List.length_replicate]; omega)), (by first | exact hShR | exact hShK), (by first | exact hidI (by rw [hR.out]; exact (rowsJ_skip hlD.out (by omega) (by omega)).symm) | exact hidI (by have h := hK.out; rw [hR.out, rowE_done hlD.out (hD.row r (by omega)).len (by omega) (by omega) hrn.2.out (by omega)] at h; exact h)), (by omega)⟩, by first | omega | (dsimp only; omega)⟩
                ·
                  refine q_eql false rfl rfl (decide_eq_false hc61) up_none ?_
                  refine lw_nil ?_
                  refine c_cond_f rfl ?_
                  refine wp_skip ?_
                  refine wp_seq ?_
                  refine wp_plain _ [0, 0, 0, 2, 0, 0, 2, 0] rfl ?_
                  have hVl3 := hL58_1.len
                  have hVr3 := hL58_1.row r (by omega)
                  refine q_move vo rfl up_none ?_
                  refine q_move (.int .i64 ((r : Nat) : Int)) rfl up_none ?_
                  refine q_idx (v := vo) r u45 ti22 rfl rfl hL58_0.isSl rfl (by first | omega | assumption | (simp only [List.length_nil, List.length_cons, List.length_append, List.length_set, List.length_replicate]; omega) | (simp [List.length_nil, List.length_cons, List.length_append, List.length_set, List.length_replicate]; done) | (simp [List.length_nil, List.length_cons, List.length_append, List.length_set, List.length_replicate]; omega)) up_none ?_
                  obtain ⟨ue62, hl62, hd62⟩ := hL58_0.rdV2.get (k := r) [] (by first | omega | assumption | (simp only [List.length_nil, List.length_cons, List.length_append, List.length_set, List.length_replicate]; omega) | (simp [List.length_nil, List.length_cons, List.length_append, List.length_set, List.length_replicate]; done) | (simp [List.length_nil, List.length_cons, List.length_append, List.length_set, List.length_replicate]; omega))
                  have hln62 := hd62.lenle
                  refine q_load (p := eptr vo r 1) (.inr rfl) ue62 one22 rfl hl62 up_none ?_
                  refine q_move (.int .i64 ((c : Nat) : Int)) rfl up_none ?_
                  refine q_idx (v := ue62) c u22 ti29 rfl rfl hd62.isSl rfl (by first | omega | assumption | (simp only [List.length_nil, List.length_cons, List.length_append, List.length_set, List.length_replicate]; omega) | (simp [List.length_nil, List.length_cons, List.length_append, List.length_set, List.length_replicate]; done) | (simp [List.length_nil, List.length_cons, List.length_append, List.length_set, List.length_replicate]; omega)) up_none ?_
                  have hgv63 := hd62.getV (k := c) (by first | omega | assumption | (simp only [List.length_nil, List.length_cons, List.length_append, List.length_set, List.length_replicate]; omega) | (simp [List.length_nil, List.length_cons, List.length_append, List.length_set, List.length_replicate]; done) | (simp [List.length_nil, List.length_cons, List.length_append, List.length_set, List.length_replicate]; omega))
                  have hsr63 := hL58_1.ser r c (by omega) (by omega)
                  have hsl63 := hsr63.rd.lenle
                  refine q_load (p := eptr ue62 c 1) (.inr rfl) ((VR.getD r []).getD c undef) one29 rfl hgv63.1 up_none ?_
                  refine q_assign ((VR.getD r []).getD c undef) rfl up_none ?_
                  refine lw_nil ?_
                  refine wp_seq ?_
                  refine wp_plain _ [0, 0, 0, 2, 0, 0] rfl ?_
                  refine q_move vo rfl up_none ?_
                  refine q_move (.int .i64 ((r : Nat) : Int)) rfl up_none ?_
                  refine q_idx (v := vo) r u45 ti22 rfl rfl hL58_0.isSl rfl (by first | omega | assumption | (simp only [List.length_nil, List.length_cons, List.length_append, List.length_set, List.length_replicate]; omega) | (simp [List.length_nil, List.length_cons, List.length_append, List.length_set, List.length_replicate]; done) | (simp [List.length_nil, List.length_cons, List.length_append, List.length_set, List.length_replicate]; omega)) up_none ?_
                  obtain ⟨ue64, hl64, hd64⟩ := hL58_0.rdV2.get (k := r) [] (by first | omega | assumption | (simp only [List.length_nil, List.length_cons, List.length_append, List.length_set, List.length_replicate]; omega) | (simp [List.length_nil, List.length_cons, List.length_append, List.length_set, List.length_replicate]; done) | (simp [List.length_nil, List.length_cons, List.length_append, List.length_set, List.length_replicate]; omega))
                  have hln64 := hd64.lenle
                  refine q_load (p := eptr vo r 1) (.inr rfl) ue64 one22 rfl hl64 up_none ?_
                  refine q_len (v := ue64) u22 rfl hd64.isSl up_none ?_
                  refine q_move (.int .i64 ((0 : Nat) : Int)) rfl up_none ?_
                  refine lw_nil ?_
                  refine wp_block ?_
                  have hlr := hShR.len
                  have hlr2 := (hShR.row r (by omega)).len
                  refine c_loop (S := Nat × List (List Value) × List (List (List Int))) (fun (⟨k, VK, MK⟩ : Nat × List (List Value) × List (List (List Int))) => ([(131, (.int .i64 ((k : Nat) : Int))), (6, (.int .i64 ((a.length : Nat) : Int))), (7, vo), (10, (.int .i64 ((c : Nat) : Int))), (14, (.int .i64 ((r : Nat) : Int))), (15, ((VR.getD r []).getD c undef)), (42, (.int .i64 ((a.length : Nat) : Int))), (43, (.int .i64 ((c : Nat) : Int))), (112, (.int .i64 ((a.length : Nat) : Int))), (113, (.int .i64 ((r : Nat) : Int))), (130, (.int .i64 (((VR.getD r []).length : Nat) : Int)))] : List (Nat × Value))) (fun (⟨k, VK, MK⟩ : Nat × List (List Value) × List (List (List Int))) (W : World) => Ext w W ∧ Fr (owL (owL rV 29) 22) w.heap.size w2.heap.size W.heap vo VK ∧ (SM 2 a.length w.heap.size w2.heap.size W.heap.size (fun r0 => (1 ≤ c ∨ r0 = c ∨ r0 < r) ∨ (r0 = r ∧ a.length < k)) W.heap VK MK) ∧ Ser w.heap.size w2.heap.size W.heap ((VR.getD r []).getD c undef) ((MR.getD r []).getD c []) ∧ k ≤ a.length + 1 ∧ (r < a.length ∧ Hid (r ≠ c)) ∧ Sh (Ser1 N) [] a.length (a.length + 1) MK ∧ Hid (MK = rowE c r k MR) ∧ w2.heap.size ≤ W.heap.size) (fun (⟨k, VK, MK⟩ : Nat × List (List Value) × List (List (List Int))) => a.length + 1 - k) (0, VR, MR) ⟨rfl, rfl, rfl, rfl, rfl, rfl, rfl, rfl, rfl, rfl, rfl, trivial⟩ ⟨hE58, hL58_0, (by exact hL58_1.weak (fun r0 hr0 h0 => by first | omega | (dsimp only at h0 ⊢; omega)) (by omega)), hsr63, (by first | omega | assumption | (simp only [List.length_nil, List.length_cons, List.length_append, List.length_set, List.length_replicate]; omega) | (simp [List.length_nil, List.length_cons, List.length_append, List.length_set, List.length_replicate]; done) | (simp [List.length_nil, List.length_cons, List.length_append, List.length_set, List.length_replicate]; omega)), (by exact ⟨by omega, hidI (by omega)⟩), (by exact hShR), (by exact hidI (rowE_zero (by omega)).symm), (by omega)⟩ ?_
                  clear hkB59 hp58_0 hc60 hc61 hVl3 hd62 hl62 hgv63 hsr63 hsl63 hd64 hl64 hL58_1 hL58_0 hE58 hzs58 hln62 hln64
                  rintro ⟨k, VK, MK⟩ ρ65 w65 ⟨hE65, hL65_0, hL65_1, hL65_2, hp65_0, hrn, hShK, hK, hkB66⟩
                  have hzs65 : w.heap.size ≤ w65.heap.size := hE65.size
                  refine wp_seq ?_
                  refine wp_plain _ [0] rfl ?_
                  by_cases hc67 : ((k : Nat) : Int) < (((VR.getD r []).length : Nat) : Int)
                  ·
                    refine q_lss true rfl rfl (decide_eq_true hc67) up_none ?_
                    refine lw_nil ?_
                    refine wp_seq ?_
                    refine c_cond_t rfl ?_
                    refine wp_skip ?_
                    refine wp_seq ?_
                    refine wp_block ?_
                    refine wp_seq ?_
                    refine wp_plain _ [0, 0] rfl ?_
                    refine q_move (.int .i64 ((k : Nat) : Int)) rfl up_none ?_
                    refine q_assign (.int .i64 ((k : Nat) : Int)) rfl up_none ?_
                    refine lw_nil ?_
                    refine wp_draw _ [0, 0, 0, 1, 0, 0, 0, 0, 1, 0, 0, 1, 0, 0, 0, 0, 1, 0, 0, 1, 3, 3, 0, 4] mixed (by kernel_rfl) ?_
                    have hne5 := hrn.2.out
                    have hVl5 := hL65_1.len
                    have hVr5 := hL65_1.row r (by omega)
                    have hVr6 := hL65_1.row c (by omega)
                    have hfa := (hShR.row r (by omega)).val c (by omega)
                    have hxa := (hShK.row r (by omega)).val k (by omega)
                    have hya := (hShK.row c (by omega)).val k (by omega)
                    have hfal := hfa.1
                    have hxal := hxa.1
                    have hyal := hya.1
                    refine q_move vo rfl up_none ?_
                    refine q_move (.int .i64 ((r : Nat) : Int)) rfl up_none ?_
                    refine q_idx (v := vo) r u45 ti22 rfl rfl hL65_0.isSl rfl (by first | omega | assumption | (simp only [List.length_nil, List.length_cons, List.length_append, List.length_set, List.length_replicate]; omega) | (simp [List.length_nil, List.length_cons, List.length_append, List.length_set, List.length_replicate]; done) | (simp [List.length_nil, List.length_cons, List.length_append, List.length_set, List.length_replicate]; omega)) up_none ?_
                    obtain ⟨ue68, hl68, hd68⟩ := hL65_0.rdV2.get (k := r) [] (by first | omega | assumption | (simp only [List.length_nil, List.length_cons, List.length_append, List.length_set, List.length_replicate]; omega) | (simp [List.length_nil, List.length_cons, List.length_append, List.length_set, List.length_replicate]; done) | (simp [List.length_nil, List.length_cons, List.length_append, List.length_set, List.length_replicate]; omega))
                    have hln68 := hd68.lenle
                    refine q_load (p := eptr vo r 1) (.inl rfl) ue68 one22 rfl hl68 up_none ?_
                    refine q_move (.int .i64 ((k : Nat) : Int)) rfl up_none ?_
                    refine q_move vo rfl up_none ?_
                    refine q_move (.int .i64 ((r : Nat) : Int)) rfl up_none ?_
                    refine q_idx (v := vo) r u45 ti22 rfl rfl hL65_0.isSl rfl (by first | omega | assumption | (simp only [List.length_nil, List.length_cons, List.length_append, List.length_set, List.length_replicate]; omega) | (simp [List.length_nil, List.length_cons, List.length_append, List.length_set, List.length_replicate]; done) | (simp [List.length_nil, List.length_cons, List.length_append, List.length_set, List.length_replicate]; omega)) up_none ?_
                    obtain ⟨ue69, hl69, hd69⟩ := hL65_0.rdV2.get (k := r) [] (by first | omega | assumption | (simp only [List.length_nil, List.length_cons, List.length_append, List.length_set, List.length_replicate]; omega) | (simp [List.length_nil, List.length_cons, List.length_append, List.length_set, List.length_replicate]; done) | (simp [List.length_nil, List.length_cons, List.length_append, List.length_set, List.length_replicate]; omega))
                    have hln69 := hd69.lenle
                    refine q_load (p := eptr vo r 1) (.inl rfl) ue69 one22 rfl hl69 up_none ?_
                    refine q_move (.int .i64 ((k : Nat) : Int)) rfl up_none ?_
                    refine q_idx (v := ue69) k u22 ti29 rfl rfl hd69.isSl rfl (by first | omega | assumption | (simp only [List.length_nil, List.length_cons, List.length_append, List.length_set, List.length_replicate]; omega) | (simp [List.length_nil, List.length_cons, List.length_append, List.length_set, List.length_replicate]; done) | (simp [List.length_nil, List.length_cons, List.length_append, List.length_set, List.length_replicate]; omega)) up_none ?_
                    have hgv70 := hd69.getV (k := k) (by first | omega | assumption | (simp only [List.length_nil, List.length_cons, List.length_append, List.length_set, List.length_replicate]; omega) | (simp [List.length_nil, List.length_cons, List.length_append, List.length_set, List.length_replicate]; done) | (simp [List.length_nil, List.length_cons, List.length_append, List.length_set, List.length_replicate]; omega))
                    have hsr70 := hL65_1.ser r k (by omega) (by omega)
                    have hsl70 := hsr70.rd.lenle
                    refine q_load (p := eptr ue69 k 1) (.inl rfl) ((VK.getD r []).getD k undef) one29 rfl hgv70.1 up_none ?_
                    refine q_move ((VR.getD r []).getD c undef) rfl up_none ?_
                    refine q_move vo rfl up_none ?_
                    refine q_move (.int .i64 ((c : Nat) : Int)) rfl up_none ?_
                    refine q_idx (v := vo) c u45 ti22 rfl rfl hL65_0.isSl rfl (by first | omega | assumption | (simp only [List.length_nil, List.length_cons, List.length_append, List.length_set, List.length_replicate]; omega) | (simp [List.length_nil, List.length_cons, List.length_append, List.length_set, List.length_replicate]; done) | (simp [List.length_nil, List.length_cons, List.length_append, List.length_set, List.length_replicate]; omega)) up_none ?_
                    obtain ⟨ue71, hl71, hd71⟩ := hL65_0.rdV2.get (k := c) [] (by first | omega | assumption | (simp only [List.length_nil, List.length_cons, List.length_append, List.length_set, List.length_replicate]; omega) | (simp [List.length_nil, List.length_cons, List.length_append, List.length_set, List.length_replicate]; done) | (simp [List.length_nil, List.length_cons, List.length_append, List.length_set, List.length_replicate]; omega))
                    have hln71 := hd71.lenle
                    refine q_load (p := eptr vo c 1) (.inl rfl) ue71 one22 rfl hl71 up_none ?_
                    refine q_move (.int .i64 ((k : Nat) : Int)) rfl up_none ?_
                    refine q_idx (v := ue71) k u22 ti29 rfl rfl hd71.isSl rfl (by first | omega | assumption | (simp only [List.length_nil, List.length_cons, List.length_append, List.length_set, List.length_replicate]; omega) | (simp [List.length_nil, List.length_cons, List.length_append, List.length_set, List.length_replicate]; done) | (simp [List.length_nil, List.length_cons, List.length_append, List.length_set, List.length_replicate]; omega)) up_none ?_
                    have hgv72 := hd71.getV (k := k) (by first | omega | assumption | (simp only [List.length_nil, List.length_cons, List.length_append, List.length_set, List.length_replicate]; omega) | (simp [List.length_nil, List.length_cons, List.length_append, List.length_set, List.length_replicate]; done) | (simp [List.length_nil, List.length_cons, List.length_append, List.length_set, List.length_replicate]; omega))
                    have hsr72 := hL65_1.ser c k (by omega) (by omega)
                    have hsl72 := hsr72.rd.lenle
                    refine q_load (p := eptr ue71 k 1) (.inl rfl) ((VK.getD c []).getD k undef) one29 rfl hgv72.1 up_none ?_
                    refine lw_call 84 [] [] [((VR.getD r []).getD c undef), ((VK.getD c []).getD k undef)] rfl rfl cf84 up_none (c_impl_product _ _ _ _ _ hL65_2.rd hsr72.rd (by omega) (by omega) (by exact hfa.2) (by exact hya.2)) ?_
                    rintro e73 w73 ⟨v73_0, rfl, hX73, hO73_0⟩
                    refine ⟨_, rfl, hX73, ?_⟩
                    replace hX73 := hX73.of_drew
                    have hzs73 : w65.heap.size ≤ w73.heap.size := hX73.size
                    have hE73 : Ext w w73 := hE65.trans hX73
                    have hL65_0x73 := hL65_0.ext (oV2) hX73
                    have hL65_1x73 := hL65_1.ext hX73
                    have hL65_2x73 := hL65_2.ext hX73
                    have hd68x73 := hd68.ext gV hX73
                    have hlx74 := ldH_ext hX73 hl68
                    have hd69x73 := hd69.ext gV hX73
                    have hlx75 := ldH_ext hX73 hl69
                    have hsr70x73 := hsr70.ext hX73
                    have hd71x73 := hd71.ext gV hX73
                    have hlx76 := ldH_ext hX73 hl71
                    have hsr72x73 := hsr72.ext hX73
                    replace hO73_0 := hO73_0.low (B' := w65.heap.size) (Nat.le_refl _)
                    refine lw_call 109 [] [] [((VK.getD r []).getD k undef), v73_0] rfl rfl cf109 up_none (c_impl_reduced _ _ _ _ _ hsr70x73.rd hO73_0.rd1 (by omega) (by rw [proS_len]; omega) (by rw [proS_len]; omega) (by exact hxa.2) (by exact proS_num _ _)) ?_
                    rintro e77 w77 ⟨v77_0, rfl, hX77, hO77_0⟩
                    refine ⟨_, rfl, hX77, ?_⟩
                    have hzs77 : w73.heap.size ≤ w77.heap.size := hX77.size
                    have hE77 : Ext w w77 := hE73.trans hX77
                    have hL65_0x77 := hL65_0x73.ext (oV2) hX77
                    have hL65_1x77 := hL65_1x73.ext hX77
                    have hL65_2x77 := hL65_2x73.ext hX77
                    have hd68x77 := hd68x73.ext gV hX77
                    have hlx78 := ldH_ext hX77 hlx74
                    have hd69x77 := hd69x73.ext gV hX77
                    have hlx79 := ldH_ext hX77 hlx75
                    have hsr70x77 := hsr70x73.ext hX77
                    have hd71x77 := hd71x73.ext gV hX77
                    have hlx80 := ldH_ext hX77 hlx76
                    have hsr72x77 := hsr72x73.ext hX77
                    have hO73_0x77 := hO73_0.ext (o1) hX77
                    refine q_idx (v := ue68) k u22 ti29 rfl rfl hd68x77.isSl rfl (by first | omega | assumption | (simp only [List.length_nil, List.length_cons, List.length_append, List.length_set, List.length_replicate]; omega) | (simp [List.length_nil, List.length_cons, List.length_append, List.length_set, List.length_replicate]; done) | (simp [List.length_nil, List.length_cons, List.length_append, List.length_set, List.length_replicate]; omega)) up_none ?_
                    refine e_setMV (v := vo) (u := ue68) (a := v77_0) (w := w77) sz29 rfl rfl (isSl_cells hO77_0.isSl) hL65_0x77 (by first | omega | assumption | (simp only [List.length_nil, List.length_cons, List.length_append, List.length_set, List.length_replicate]; omega) | (simp [List.length_nil, List.length_cons, List.length_append, List.length_set, List.length_replicate]; done) | (simp [List.length_nil, List.length_cons, List.length_append, List.length_set, List.length_replicate]; omega)) hlx78 (by first | omega | assumption | (simp only [List.length_nil, List.length_cons, List.length_append, List.length_set, List.length_replicate]; omega) | (simp [List.length_nil, List.length_cons, List.length_append, List.length_set, List.length_replicate]; done) | (simp [List.length_nil, List.length_cons, List.length_append, List.length_set, List.length_replicate]; omega)) up_none ?_
                    intro w81 F81 hC81 hz81 hF81 hO81
                    have hE81 : Ext w w81 := hC81.below hE77 (fun c hc => Nat.le_trans (Nat.le_refl _) (hF81 c hc).1) hE77.size
                    have hzs81 : w77.heap.size ≤ w81.heap.size := hC81.size
                    have hF82 := hL65_1x77.chg hC81 (fun c hc => by have := hF81 c hc; omega)
                    have hF83 := hL65_2x77.chg hC81 (fun c hc => by have := hF81 c hc; omega)
                    have hF84 := hsr70x77.chg hC81 (fun c hc => by have := hF81 c hc; omega)
                    have hF85 := hsr72x77.chg hC81 (fun c hc => by have := hF81 c hc; omega)
                    have hF86 := hO73_0x77.chg (o1) hC81 (fun c hc => by have := hF81 c hc; omega)
                    have hF87 := hO77_0.chg (o1) hC81 (fun c hc => by have := hF81 c hc; omega)
                    have hS81 := hF82.put (r := r) (k := k) (T' := w81.heap.size) (by omega) (by omega) hF87 (by omega) (by omega) (by omega) (by omega)
                    refine lw_nil ?_
                    refine wp_plain _ [0, 0] rfl ?_
                    refine q_add ((k + 1 : Nat) : Int) rfl rfl (w64n (by omega) (by first | omega | assumption | (simp only [List.length_nil, List.length_cons, List.length_append, List.length_set, List.length_replicate]; omega) | (simp [List.length_nil, List.length_cons, List.length_append, List.length_set, List.length_replicate]; done) | (simp [List.length_nil, List.length_cons, List.length_append, List.length_set, List.length_replicate]; omega))) up_none ?_
                    refine q_move (.int .i64 ((k + 1 : Nat) : Int)) rfl up_none ?_
                    refine lw_nil ?_
                    exact ⟨((k + 1), (VK.set r ((VK.getD r []).set k v77_0)), (MK.set r ((MK.getD r []).set k (redS ((MK.getD r []).getD k []) (proS ((MR.getD r []).getD c []) ((MK.getD c []).getD k [])))))), _, rfl, ⟨rfl, rfl, rfl, rfl, rfl, rfl, rfl, rfl, rfl, rfl, rfl, trivial⟩, ⟨hE81, hO81, (by exact hS81.weak (fun r0 hr0 h0 => by first | omega | (dsimp only at h0 ⊢; omega)) (by omega)), hF83, (by first | omega | assumption | (simp only [List.length_nil, List.length_cons, List.length_append, List.length_set, List.length_replicate]; omega) | (simp [List.length_nil, List.length_cons, List.length_append, List.length_set, List.length_replicate]; done) | (simp [List.length_nil, List.length_cons, List.length_append, List.length_set, List.length_replicate]; omega)), (by exact hrn), (by exact hShK.put (by omega) ((sA_V N).t _ _ _ hxa hfa hya)), (by exact hidI (by have h := rowE_step (c := c) (k := k) hlr hlr2 (by omega) (by omega) hrn.2.out; rw [← hK.out] at h; exact h)), (by omega)⟩, by first | omega | (dsimp only; omega)⟩
                  ·
                    refine q_lss false rfl rfl (decide_eq_false hc67) up_none ?_
                    refine lw_nil ?_
                    refine wp_seq ?_
                    refine c_cond_f rfl ?_
                    refine wp_exit ?_
                    refine t_exit ?_
                    refine t_exit ?_
                    refine c_exit_here ?_
                    refine wp_plain _ [0, 0] rfl ?_
                    refine q_add ((r + 1 : Nat) : Int) rfl rfl (w64n (by omega) (by first | omega | assumption | (simp only [List.length_nil, List.length_cons, List.length_append, List.length_set, List.length_replicate]; omega) | (simp [List.length_nil, List.length_cons, List.length_append, List.length_set, List.length_replicate]; done) | (simp [List.length_nil, List.length_cons, List.length_append, List.length_set, List.length_replicate]; omega))) up_none ?_
                    refine q_move (.int .i64 ((r + 1 : Nat) : Int)) rfl up_none ?_
                    refine lw_nil ?_
                    exact ⟨((r + 1), VK, MK), _, rfl, ⟨rfl, rfl, rfl, rfl, rfl, rfl, rfl, trivial⟩, ⟨hE65, hL65_0, (by exact hL65_1.weak (fun r0 hr0 h0 => by first | omega | (dsimp only at h0 ⊢; omega)) (by omega)), (by first | omega | assumption | (simp only [List.length_nil, List.length_cons, List.length_append, List.length_set, List.length_replicate]; omega) | (simp [List.length_nil, List.length_cons, List.length_append, List.length_set, List.length_replicate]; done) | (simp [List.length_nil, List.length_cons, List.length_append, List.length_set, List.length_replicate]; omega)), (by first | exact hShR | exact hShK), (by first | exact hidI (by rw [hR.out]; exact (rowsJ_skip hlD.out (by omega) (by omega)).symm) | exact hidI (by have h := hK.out; rw [hR.out, rowE_done hlD.out (hD.row r (by omega)).len (by omega) (by omega) hrn.2.out (by omega)] at h; exact h)), (by omega)⟩, by first | omega | (dsimp only; omega)⟩
              ·
                refine q_lss false rfl rfl (decide_eq_false hc60) up_none ?_
                refine lw_nil ?_
                refine wp_seq ?_
                refine c_cond_f rfl ?_
                refine wp_exit ?_
                refine t_exit ?_
                refine t_exit ?_
                refine c_exit_here ?_
                refine wp_plain _ [0, 0] rfl ?_
                refine q_add ((c + 1 : Nat) : Int) rfl rfl (w64n (by omega) (by first | omega | assumption | (simp only [List.length_nil, List.length_cons, List.length_append, List.length_set, List.length_replicate]; omega) | (simp [List.length_nil, List.length_cons, List.length_append, List.length_set, List.length_replicate]; done) | (simp [List.length_nil, List.length_cons, List.length_append, List.length_set, List.length_replicate]; omega))) up_none ?_
                refine q_move (.int .i64 ((c + 1 : Nat) : Int)) rfl up_none ?_
                refine lw_nil ?_
                exact ⟨((c + 1), VR, MR), _, rfl, ⟨rfl, rfl, rfl, rfl, trivial⟩, ⟨hE58, hL58_0, (by exact hL58_1.weak (fun r0 hr0 h0 => by first | omega | (dsimp only at h0 ⊢; omega)) (by omega)), (by first | omega | assumption | (simp only [List.length_nil, List.length_cons, List.length_append, List.length_set, List.length_replicate]; omega) | (simp [List.length_nil, List.length_cons, List.length_append, List.length_set, List.length_replicate]; done) | (simp [List.length_nil, List.length_cons, List.length_append, List.length_set, List.length_replicate]; omega)), (by exact hShR), (by exact hidI (by have h := jor_step hJ.out (by omega) (by rw [← hpe2.out]; omega); rw [← hpe2.out] at h; have e := hR.out; rw [mix_all (by simp [rowsJ, hlD.out]) (by rw [hlD.out]; omega)] at e; rw [e]; exact h)), (by omega)⟩, by first | omega | (dsimp only; omega)⟩
    ·
      refine q_lss false rfl rfl (decide_eq_false hc21) up_none ?_
      refine lw_nil ?_
      refine wp_seq ?_
      refine c_cond_f rfl ?_
      refine wp_exit ?_
      refine t_exit ?_
      refine t_exit ?_
      refine c_exit_here ?_
      refine wp_seq ?_
      refine wp_plain _ [3, 0] rfl ?_
      refine r_nil (rV) good_rV u22 ti29 up_none ?_
      intro v88 w88 hX88 hz88 hO88
      have hzs88 : w19.heap.size ≤ w88.heap.size := hX88.size
      have hE88 : Ext w w88 := hE19.trans hX88
      have hL19_0x88 := hL19_0.ext (oV2) hX88
      have hL19_1x88 := hL19_1.ext hX88
      refine q_assign v88 rfl up_none ?_
      refine lw_nil ?_
      refine wp_seq ?_
      refine wp_seq ?_
      refine wp_plain _ [0, 0, 0] rfl ?_
      refine q_move vo rfl up_none ?_
      refine q_len (v := vo) u45 rfl hL19_0x88.isSl up_none ?_
      refine q_move (.int .i64 ((0 : Nat) : Int)) rfl up_none ?_
      refine lw_nil ?_
      refine wp_block ?_
      have hsome := jor_end hJ.out (by omega)
      refine c_loop (S := Nat × Value) (fun (⟨i, vz⟩ : Nat × Value) => ([(17, vz), (163, (.int .i64 ((i : Nat) : Int))), (6, (.int .i64 ((a.length : Nat) : Int))), (161, vo), (162, (.int .i64 ((VM.length : Nat) : Int)))] : List (Nat × Value))) (fun (⟨i, vz⟩ : Nat × Value) (W : World) => Ext w W ∧ Fr (owL rV 29) w19.heap.size W.heap.size W.heap vz ((VM.take i).map (fun r => r.getD a.length undef)) ∧ SM 2 a.length w.heap.size w2.heap.size w19.heap.size (fun _ => 1 ≤ c) W.heap VM M ∧ Fr (owL (owL rV 29) 22) w.heap.size w2.heap.size W.heap vo VM ∧ i ≤ a.length ∧ w19.heap.size ≤ W.heap.size ∧ w2.heap.size ≤ W.heap.size) (fun (⟨i, vz⟩ : Nat × Value) => a.length - i) (0, v88) ⟨rfl, rfl, rfl, rfl, rfl, trivial⟩ ⟨hE88, hO88.up oV, hL19_1x88, hL19_0x88, (by first | omega | assumption | (simp only [List.length_nil, List.length_cons, List.length_append, List.length_set, List.length_replicate]; omega) | (simp [List.length_nil, List.length_cons, List.length_append, List.length_set, List.length_replicate]; done) | (simp [List.length_nil, List.length_cons, List.length_append, List.length_set, List.length_replicate]; omega)), (by omega), (by omega)⟩ ?_
      clear hL19_1 hL19_0 hO88 hz88 hX88 hzs88 hE88 hL19_0x88 hL19_1x88
      rintro ⟨i, vz⟩ ρ89 w89 ⟨hE89, hL89_0, hL89_1, hL89_2, hp89_0, hkB90, hkB91⟩
      have hzs89 : w.heap.size ≤ w89.heap.size := hE89.size
      refine wp_seq ?_
      refine wp_plain _ [0] rfl ?_
      by_cases hc92 : ((i : Nat) : Int) < ((VM.length : Nat) : Int)
      ·
        refine q_lss true rfl rfl (decide_eq_true hc92) up_none ?_
        refine lw_nil ?_
        refine wp_seq ?_
        refine c_cond_t rfl ?_
        refine wp_skip ?_
        refine wp_seq ?_
        refine wp_block ?_
        refine wp_seq ?_
        refine wp_plain _ [0, 2, 0] rfl ?_
        have hVl7 := hL89_1.len
        refine q_idx (v := vo) i u45 ti22 rfl rfl hL89_2.isSl rfl (by first | omega | assumption | (simp only [List.length_nil, List.length_cons, List.length_append, List.length_set, List.length_replicate]; omega) | (simp [List.length_nil, List.length_cons, List.length_append, List.length_set, List.length_replicate]; done) | (simp [List.length_nil, List.length_cons, List.length_append, List.length_set, List.length_replicate]; omega)) up_none ?_
        obtain ⟨ue93, hl93, hd93⟩ := hL89_2.rdV2.get (k := i) [] (by first | omega | assumption | (simp only [List.length_nil, List.length_cons, List.length_append, List.length_set, List.length_replicate]; omega) | (simp [List.length_nil, List.length_cons, List.length_append, List.length_set, List.length_replicate]; done) | (simp [List.length_nil, List.length_cons, List.length_append, List.length_set, List.length_replicate]; omega))
        have hln93 := hd93.lenle
        refine q_load (p := eptr vo i 1) (.inr rfl) ue93 one22 rfl hl93 up_none ?_
        refine q_assign ue93 rfl up_none ?_
        refine lw_nil ?_
        refine wp_plain _ [0, 0, 0, 0, 2, 3, 4, 0] rfl ?_
        have hVr7 := hL89_1.row i (by omega)
        refine q_move vz rfl up_none ?_
        refine q_move ue93 rfl up_none ?_
        refine q_move (.int .i64 ((a.length : Nat) : Int)) rfl up_none ?_
        refine q_idx (v := ue93) a.length u22 ti29 rfl rfl hd93.isSl rfl (by first | omega | assumption | (simp only [List.length_nil, List.length_cons, List.length_append, List.length_set, List.length_replicate]; omega) | (simp [List.length_nil, List.length_cons, List.length_append, List.length_set, List.length_replicate]; done) | (simp [List.length_nil, List.length_cons, List.length_append, List.length_set, List.length_replicate]; omega)) up_none ?_
        have hgv94 := hd93.getV (k := a.length) (by first | omega | assumption | (simp only [List.length_nil, List.length_cons, List.length_append, List.length_set, List.length_replicate]; omega) | (simp [List.length_nil, List.length_cons, List.length_append, List.length_set, List.length_replicate]; done) | (simp [List.length_nil, List.length_cons, List.length_append, List.length_set, List.length_replicate]; omega))
        have hsr94 := hL89_1.ser i a.length (by omega) (by omega)
        have hsl94 := hsr94.rd.lenle
        refine q_load (p := eptr ue93 a.length 1) (.inr rfl) ((VM.getD i []).getD a.length undef) one29 rfl hgv94.1 up_none ?_
        refine r_one (u := ((VM.getD i []).getD a.length undef)) (B := w89.heap.size) good_rV u22 ti29 rfl rfl (frV w89.heap.size w89.heap.size _ (isSl_cells hsr94.rd.isSl)) (Nat.le_refl _) up_none ?_
        intro v95 w95 hX95 hz95 hO95
        have hzs95 : w89.heap.size ≤ w95.heap.size := hX95.size
        have hE95 : Ext w w95 := hE89.trans hX95
        have hL89_0x95 := hL89_0.ext (oV) hX95
        have hL89_1x95 := hL89_1.ext hX95
        have hL89_2x95 := hL89_2.ext (oV2) hX95
        have hd93x95 := hd93.ext gV hX95
        have hlx96 := ldH_ext hX95 hl93
        have hsr94x95 := hsr94.ext hX95
        refine e_appV (v := vz) (a := v95) u22 ti29 rfl rfl rfl hL89_0x95 (by omega) hO95.rdV1 (by first | omega | assumption | (simp only [List.length_nil, List.length_cons, List.length_append, List.length_set, List.length_replicate]; omega) | (simp [List.length_nil, List.length_cons, List.length_append, List.length_set, List.length_replicate]; done) | (simp [List.length_nil, List.length_cons, List.length_append, List.length_set, List.length_replicate]; omega)) (by unfold maxLen; first | omega | assumption | (simp only [List.length_nil, List.length_cons, List.length_append, List.length_set, List.length_replicate]; omega) | (simp [List.length_nil, List.length_cons, List.length_append, List.length_set, List.length_replicate]; done) | (simp [List.length_nil, List.length_cons, List.length_append, List.length_set, List.length_replicate]; omega)) up_none ?_
        intro v97 w97 F97 hC97 hF97 hO97
        have hE97 : Ext w w97 := hC97.below hE95 (fun c hc => Nat.le_trans hE19.size (hF97 c hc).1) hE95.size
        have hzs97 : w95.heap.size ≤ w97.heap.size := hC97.size
        have hF98 := hL89_1x95.chg2 hC97 (fun c hc => by have := hF97 c hc; omega)
        have hF99 := hL89_2x95.chg (oV2) hC97 (fun c hc => by have := hF97 c hc; omega)
        refine q_assign v97 rfl up_none ?_
        refine lw_nil ?_
        refine wp_plain _ [0, 0] rfl ?_
        refine q_add ((i + 1 : Nat) : Int) rfl rfl (w64n (by omega) (by first | omega | assumption | (simp only [List.length_nil, List.length_cons, List.length_append, List.length_set, List.length_replicate]; omega) | (simp [List.length_nil, List.length_cons, List.length_append, List.length_set, List.length_replicate]; done) | (simp [List.length_nil, List.length_cons, List.length_append, List.length_set, List.length_replicate]; omega))) up_none ?_
        refine q_move (.int .i64 ((i + 1 : Nat) : Int)) rfl up_none ?_
        refine lw_nil ?_
        exact ⟨((i + 1), v97), _, rfl, ⟨rfl, rfl, rfl, rfl, rfl, trivial⟩, ⟨hE97, (by rw [map_snoc [] (by omega)]; exact hO97.up oV), hF98, hF99, (by first | omega | assumption | (simp only [List.length_nil, List.length_cons, List.length_append, List.length_set, List.length_replicate]; omega) | (simp [List.length_nil, List.length_cons, List.length_append, List.length_set, List.length_replicate]; done) | (simp [List.length_nil, List.length_cons, List.length_append, List.length_set, List.length_replicate]; omega)), (by omega), (by omega)⟩, by first | omega | (dsimp only; omega)⟩
      ·
        refine q_lss false rfl rfl (decide_eq_false hc92) up_none ?_
        refine lw_nil ?_
        refine wp_seq ?_
        refine c_cond_f rfl ?_
        refine wp_exit ?_
        refine t_exit ?_
        refine t_exit ?_
        refine c_exit_here ?_
        refine wp_seq ?_
        refine wp_plain _ [0, 0, 0] rfl ?_
        refine q_move vz rfl up_none ?_
        refine q_assign vz rfl up_none ?_
        refine q_assign (.bool true) rfl up_none ?_
        refine lw_nil ?_
        refine wp_ret ?_
        obtain ⟨Fc, hc1, hc2, hc3⟩ := hL89_1.cols (fun r0 hr0 => by first | omega | (dsimp only; omega))
        exact post_ret [4, 5] rfl (.tuple #[vz, (.bool true)]) rfl ⟨vz, (by rw [hsome]; rfl), hE89, (by have h := hL89_0.up oV; rw [List.take_of_length_le (by omega)] at h; rw [solS_of hsome]; exact own_lift h hc1 hc2 (fun b hb => by have := hc3 b hb; omega) (by omega))⟩
end Go.Proofs.Ytjgnlnlngcjfcaa
