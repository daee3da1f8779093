/- Contracts of functions: each says what the function returns for all arguments that meet its premises. Printed by gen.py. -/
import Derived.Test.YtjgnlnlngcjfcaaMc
import Derived.Test.YtjgnlnlngcjfcaaFwJ
import Derived.Test.YtjgnlnlngcjfcaaT
import Derived.Test.YtjgnlnlngcjfcaaSa
import Derived.Test.YtjgnlnlngcjfcaaSb
import Derived.Test.YtjgnlnlngcjfcaaSc
import Derived.Test.YtjgnlnlngcjfcaaSf
import Derived.Test.YtjgnlnlngcjfcaaProg
namespace Go.Proofs.Ytjgnlnlngcjfcaa
open Go Go.RowKit
set_option linter.unusedVariables false
set_option linter.unusedSimpArgs false
attribute [local irreducible] LW
/- impl.LinearFlow -/
set_option maxHeartbeats 4000000 in
set_option maxRecDepth 100000 in
theorem c_impl_LinearFlow (w : World) (va : Value) (a : List (List Int)) (vs : Value) (s : List Int) (o : Int) (ha : Rd (rdL (rdL rI)) w.heap va a) (hs : Rd (rdL rI) w.heap vs s) (_ho : -9223372036854775808 ≤ o ∧ o ≤ 9223372036854775807)  :
    Calls Try.prog 18 #[va, vs, .int .i64 o] w (fun e w' => ∃ v0 : Value, e = .returned (.tuple #[v0, .int .i64 (lfC a s o)]) ∧ Ext w w' ∧ Fr (owL (owL rI 2) 29) w.heap.size w'.heap.size w'.heap v0 (lfR a s o)) := by
  refine calls_mk [va, vs, .int .i64 o] 75 Try.func18 rfl rfl (by simp) ?_
  have hE0 : Ext w w := Ext.refl w
  have hl_va := ha.lenle
  have hl_vs := hs.lenle
  refine wp_seq ?_
  refine wp_plain _ [0, 0] rfl ?_
  refine q_assign (.slice none 0 0) rfl up_none ?_
  refine q_assign (.int .i64 ((0 : Nat) : Int)) rfl up_none ?_
  refine lw_nil ?_
  refine wp_seq ?_
  refine wp_block ?_
  refine wp_seq ?_
  refine wp_plain _ [0, 3, 0, 0] rfl ?_
  refine q_move va rfl up_none ?_
  refine lw_call 54 [] [] [va] rfl rfl cf54 up_none (c_impl_isSquare _ _ _ (ha.ext g2 hE0)) ?_
  rintro e1 w1 ⟨rfl, hX1⟩
  refine ⟨_, rfl, hX1, ?_⟩
  have hzs1 : w.heap.size ≤ w1.heap.size := hX1.size
  have hE1 : Ext w w1 := hE0.trans hX1
  refine q_not (!(sqB a)) rfl rfl up_none ?_
  refine q_assign (.bool (!(sqB a))) rfl up_none ?_
  refine lw_nil ?_
  cases hb2 : (!(sqB a))
  ·
    refine c_cond_f (by first | rfl | (show Value.bool _ = _; rw [hb2])) ?_
    refine wp_seq ?_
    refine wp_plain _ [0, 0, 0, 3, 0, 0, 0, 3, 0, 0, 0] rfl ?_
    refine q_move vs rfl up_none ?_
    refine q_move va rfl up_none ?_
    refine q_len (v := va) u22 rfl ha.isSl up_none ?_
    refine lw_call 62 [] [] [vs, (.int .i64 ((a.length : Nat) : Int))] rfl rfl cf62 up_none (c_impl_areNumbers _ _ _ _ (hs.ext g1 hE1) (by omega)) ?_
    rintro e3 w3 ⟨rfl, hX3⟩
    refine ⟨_, rfl, hX3, ?_⟩
    have hzs3 : w1.heap.size ≤ w3.heap.size := hX3.size
    have hE3 : Ext w w3 := hE1.trans hX3
    refine q_not (!(decide (((s.length : Nat) : Int) = ((a.length : Nat) : Int)) && allN s)) rfl rfl up_none ?_
    refine q_move (.bool (!(decide (((s.length : Nat) : Int) = ((a.length : Nat) : Int)) && allN s))) rfl up_none ?_
    cases hb4 : (!(decide (((s.length : Nat) : Int) = ((a.length : Nat) : Int)) && allN s))
    ·
      refine q_move (.int .i64 o) rfl (up_some (e := 26) rfl rfl rfl) ?_
      refine lw_call 63 [] [] [(.int .i64 o)] rfl rfl cf63 (up_some (e := 26) rfl rfl rfl) (c_impl_isOrder _ _ _ho) ?_
      rintro e5 w5 ⟨rfl, hX5⟩
      refine ⟨_, rfl, hX5, ?_⟩
      have hzs5 : w3.heap.size ≤ w5.heap.size := hX5.size
      have hE5 : Ext w w5 := hE3.trans hX5
      refine q_not (!(decide (((0 : Nat) : Int) ≤ o) && decide (o ≤ ((12 : Nat) : Int)))) rfl rfl (up_some (e := 26) rfl rfl rfl) ?_
      refine q_pick false (.bool (!(decide (((0 : Nat) : Int) ≤ o) && decide (o ≤ ((12 : Nat) : Int))))) rfl rfl up_none ?_
      refine q_assign (.bool (!(decide (((0 : Nat) : Int) ≤ o) && decide (o ≤ ((12 : Nat) : Int))))) rfl up_none ?_
      refine lw_nil ?_
      cases hb6 : (!(decide (((0 : Nat) : Int) ≤ o) && decide (o ≤ ((12 : Nat) : Int))))
      ·
        refine c_cond_f (by first | rfl | (show Value.bool _ = _; rw [hb6])) ?_
        refine wp_skip ?_
        refine wp_seq ?_
        refine wp_plain _ [0, 0, 3, 0, 3, 0, 0] rfl ?_
        have hok : lfOk a s o = true := by unfold lfOk; simp_all; try omega
        obtain ⟨hS, h6⟩ := sq_of (lf_sq hok)
        have hsl := lf_len hok
        have hsn := lf_num hok
        have hoo := lf_ord hok
        refine q_move vs rfl up_none ?_
        refine q_move (.int .i64 o) rfl up_none ?_
        refine lw_call 64 [] [] [vs, (.int .i64 o)] rfl rfl cf64 up_none (c_impl_extended _ _ _ _ (hs.ext g1 hE5) _ho (by omega) (by exact hoo)) ?_
        rintro e7 w7 ⟨v7_0, rfl, hX7, hO7_0⟩
        refine ⟨_, rfl, hX7, ?_⟩
        have hzs7 : w5.heap.size ≤ w7.heap.size := hX7.size
        have hE7 : Ext w w7 := hE5.trans hX7
        refine q_move vs rfl up_none ?_
        refine lw_call 65 [] [] [vs] rfl rfl cf65 up_none (c_slices_Clone___int64_int64_ _ _ _ (hs.ext g1 hE7) (by omega)) ?_
        rintro e8 w8 ⟨v8_0, rfl, hX8, hO8_0⟩
        refine ⟨_, rfl, hX8, ?_⟩
        have hzs8 : w7.heap.size ≤ w8.heap.size := hX8.size
        have hE8 : Ext w w8 := hE7.trans hX8
        have hO7_0x8 := hO7_0.ext (o2) hX8
        refine q_assign v7_0 rfl up_none ?_
        refine q_assign v8_0 rfl up_none ?_
        refine lw_nil ?_
        refine wp_seq ?_
        refine wp_seq ?_
        refine wp_plain _ [0] rfl ?_
        refine q_assign (.int .i64 ((1 : Nat) : Int)) rfl up_none ?_
        refine lw_nil ?_
        refine wp_block ?_
        refine c_loop (S := Nat × Value) (fun (⟨c, vt⟩ : Nat × Value) => ([(9, vt), (10, (.int .i64 ((c + 1 : Nat) : Int))), (0, va), (2, (.int .i64 o)), (8, v7_0)] : List (Nat × Value))) (fun (⟨c, vt⟩ : Nat × Value) (W : World) => Ext w W ∧ Fr (owL (owL rI 2) 29) w.heap.size W.heap.size W.heap v7_0 (tab s.length (rowP a s o.toNat c)) ∧ Fr (owL rI 2) w.heap.size W.heap.size W.heap vt (nw a s c) ∧ c ≤ o.toNat) (fun (⟨c, vt⟩ : Nat × Value) => o.toNat - c) (0, v8_0) ⟨rfl, rfl, rfl, rfl, rfl, trivial⟩ ⟨hE8, (by rw [← ext_tab]; exact (hO7_0x8.up o2).low hE5.size), (hO8_0.up o1).low hE7.size, (by first | omega | assumption | (simp only [List.length_nil, List.length_cons, List.length_append, List.length_set, List.length_replicate]; omega) | (simp [List.length_nil, List.length_cons, List.length_append, List.length_set, List.length_replicate]; done) | (simp [List.length_nil, List.length_cons, List.length_append, List.length_set, List.length_replicate]; omega))⟩ ?_
        clear hE0 hX1 hzs1 hE1 hX3 hzs3 hE3 hX5 hzs5 hE5 hO7_0 hX7 hzs7 hE7 hO8_0 hX8 hzs8 hE8 hO7_0x8
        rintro ⟨c, vt⟩ ρ9 w9 ⟨hE9, hL9_0, hL9_1, hp9_0⟩
        have hzs9 : w.heap.size ≤ w9.heap.size := hE9.size
        have hnl := nw_len (a := a) (s := s) hsl c
        have hnn := nw_num (a := a) (s := s) hsn c
        refine wp_seq ?_
        refine wp_seq ?_
        refine wp_plain _ [0, 0, 0] rfl ?_
        refine q_move (.int .i64 ((c + 1 : Nat) : Int)) rfl up_none ?_
        refine q_move (.int .i64 o) rfl up_none ?_
        by_cases hc10 : ((c + 1 : Nat) : Int) ≤ o
        ·
          refine q_leq true rfl rfl (decide_eq_true hc10) up_none ?_
          refine lw_nil ?_
          refine c_cond_t rfl ?_
          refine wp_skip ?_
          refine wp_seq ?_
          refine wp_block ?_
          refine wp_seq ?_
          refine wp_plain _ [3, 0] rfl ?_
          refine r_nil (rI) good_rI u29 ti2 up_none ?_
          intro v11 w11 hX11 hz11 hO11
          have hzs11 : w9.heap.size ≤ w11.heap.size := hX11.size
          have hE11 : Ext w w11 := hE9.trans hX11
          have hL9_0x11 := hL9_0.ext (o2) hX11
          have hL9_1x11 := hL9_1.ext (o1) hX11
          refine q_assign v11 rfl up_none ?_
          refine lw_nil ?_
          refine wp_seq ?_
          refine wp_seq ?_
          refine wp_plain _ [0, 0, 0] rfl ?_
          refine q_move va rfl up_none ?_
          refine q_len (v := va) u22 rfl ha.isSl up_none ?_
          refine q_move (.int .i64 ((0 : Nat) : Int)) rfl up_none ?_
          refine lw_nil ?_
          refine wp_block ?_
          refine c_loop (S := Nat × Value) (fun (⟨i, vn⟩ : Nat × Value) => ([(11, vn), (44, (.int .i64 ((i : Nat) : Int))), (0, va), (2, (.int .i64 o)), (8, v7_0), (9, vt), (10, (.int .i64 ((c + 1 : Nat) : Int))), (42, va), (43, (.int .i64 ((a.length : Nat) : Int)))] : List (Nat × Value))) (fun (⟨i, vn⟩ : Nat × Value) (W : World) => Ext w W ∧ Fr (owL rI 2) w9.heap.size W.heap.size W.heap vn ((a.take i).map (fun r => md (dotM r (nw a s c) * inv ((c + 1 : Nat) : Int)))) ∧ Fr (owL (owL rI 2) 29) w.heap.size w9.heap.size W.heap v7_0 (tab s.length (rowP a s o.toNat c)) ∧ Fr (owL rI 2) w.heap.size w9.heap.size W.heap vt (nw a s c) ∧ i ≤ a.length ∧ w9.heap.size ≤ W.heap.size) (fun (⟨i, vn⟩ : Nat × Value) => a.length - i) (0, v11) ⟨rfl, rfl, rfl, rfl, rfl, rfl, rfl, rfl, rfl, trivial⟩ ⟨hE11, hO11.up o1, hL9_0x11, hL9_1x11, (by first | omega | assumption | (simp only [List.length_nil, List.length_cons, List.length_append, List.length_set, List.length_replicate]; omega) | (simp [List.length_nil, List.length_cons, List.length_append, List.length_set, List.length_replicate]; done) | (simp [List.length_nil, List.length_cons, List.length_append, List.length_set, List.length_replicate]; omega)), (by omega)⟩ ?_
          clear hL9_1 hL9_0 hO11 hz11 hX11 hzs11 hE11 hL9_0x11 hL9_1x11
          rintro ⟨i, vn⟩ ρ12 w12 ⟨hE12, hL12_0, hL12_1, hL12_2, hp12_0, hkB13⟩
          have hzs12 : w.heap.size ≤ w12.heap.size := hE12.size
          refine wp_seq ?_
          refine wp_plain _ [0] rfl ?_
          by_cases hc14 : ((i : Nat) : Int) < ((a.length : Nat) : Int)
          ·
            refine q_lss true rfl rfl (decide_eq_true hc14) up_none ?_
            refine lw_nil ?_
            refine wp_seq ?_
            refine c_cond_t rfl ?_
            refine wp_skip ?_
            refine wp_seq ?_
            refine wp_block ?_
            refine wp_seq ?_
            refine wp_plain _ [0, 2, 0] rfl ?_
            have hrk := hS.row i (by omega)
            refine q_idx (v := va) i u22 ti29 rfl rfl ha.isSl rfl (by first | omega | assumption | (simp only [List.length_nil, List.length_cons, List.length_append, List.length_set, List.length_replicate]; omega) | (simp [List.length_nil, List.length_cons, List.length_append, List.length_set, List.length_replicate]; done) | (simp [List.length_nil, List.length_cons, List.length_append, List.length_set, List.length_replicate]; omega)) up_none ?_
            obtain ⟨ue15, hl15, hd15⟩ := ha.get (k := i) [] (by first | omega | assumption | (simp only [List.length_nil, List.length_cons, List.length_append, List.length_set, List.length_replicate]; omega) | (simp [List.length_nil, List.length_cons, List.length_append, List.length_set, List.length_replicate]; done) | (simp [List.length_nil, List.length_cons, List.length_append, List.length_set, List.length_replicate]; omega))
            have hln15 := hd15.lenle
            refine q_load (p := eptr va i 1) (.inr rfl) ue15 one29 rfl (ldH_ext hE12 hl15) up_none ?_
            refine q_assign ue15 rfl up_none ?_
            refine lw_nil ?_
            refine wp_plain _ [0, 0, 0, 3, 0, 3, 3, 3, 4, 0] rfl ?_
            refine q_move vn rfl up_none ?_
            refine q_move ue15 rfl up_none ?_
            refine q_move vt rfl up_none ?_
            refine lw_call 67 [] [] [ue15, vt] rfl rfl cf67 up_none (c_impl_dot _ _ _ _ _ (hd15.ext g1 hE12) hL12_2.rd1 (by omega) (by exact hS.num _) (by exact hnn)) ?_
            rintro e16 w16 ⟨rfl, hX16⟩
            refine ⟨_, rfl, hX16, ?_⟩
            have hzs16 : w12.heap.size ≤ w16.heap.size := hX16.size
            have hE16 : Ext w w16 := hE12.trans hX16
            have hL12_0x16 := hL12_0.ext (o1) hX16
            have hL12_1x16 := hL12_1.ext (o2) hX16
            have hL12_2x16 := hL12_2.ext (o1) hX16
            refine q_move (.int .i64 ((c + 1 : Nat) : Int)) rfl up_none ?_
            refine lw_call 68 [] [] [(.int .i64 ((c + 1 : Nat) : Int))] rfl rfl cf68 up_none (c_impl_inverse _ _ (by omega)) ?_
            rintro e17 w17 ⟨rfl, hX17⟩
            refine ⟨_, rfl, hX17, ?_⟩
            have hzs17 : w16.heap.size ≤ w17.heap.size := hX17.size
            have hE17 : Ext w w17 := hE16.trans hX17
            have hL12_0x17 := hL12_0x16.ext (o1) hX17
            have hL12_1x17 := hL12_1x16.ext (o2) hX17
            have hL12_2x17 := hL12_2x16.ext (o1) hX17
            refine lw_call 66 [] [] [(.int .i64 (dotM (a.getD i []) (nw a s c))), (.int .i64 (inv ((c + 1 : Nat) : Int)))] rfl rfl cf66 up_none (c_impl_Times _ _ _ (dotM_rng _ _) (inv_rng _)) ?_
            rintro e18 w18 ⟨rfl, hX18⟩
            refine ⟨_, rfl, hX18, ?_⟩
            have hzs18 : w17.heap.size ≤ w18.heap.size := hX18.size
            have hE18 : Ext w w18 := hE17.trans hX18
            have hL12_0x18 := hL12_0x17.ext (o1) hX18
            have hL12_1x18 := hL12_1x17.ext (o2) hX18
            have hL12_2x18 := hL12_2x17.ext (o1) hX18
            refine r_one (u := (.int .i64 (md ((dotM (a.getD i []) (nw a s c)) * (inv ((c + 1 : Nat) : Int)))))) (B := w18.heap.size) good_rI u29 ti2 rfl rfl (frI w18.heap.size w18.heap.size _ _ (md_rng _)) (Nat.le_refl _) up_none ?_
            intro v19 w19 hX19 hz19 hO19
            have hzs19 : w18.heap.size ≤ w19.heap.size := hX19.size
            have hE19 : Ext w w19 := hE18.trans hX19
            have hL12_0x19 := hL12_0x18.ext (o1) hX19
            have hL12_1x19 := hL12_1x18.ext (o2) hX19
            have hL12_2x19 := hL12_2x18.ext (o1) hX19
            refine e_appI (v := vn) (a := v19) u29 ti2 rfl rfl rfl hL12_0x19 (by omega) hO19.rd1 (by first | omega | assumption | (simp only [List.length_nil, List.length_cons, List.length_append, List.length_set, List.length_replicate]; omega) | (simp [List.length_nil, List.length_cons, List.length_append, List.length_set, List.length_replicate]; done) | (simp [List.length_nil, List.length_cons, List.length_append, List.length_set, List.length_replicate]; omega)) (by unfold maxLen; first | omega | assumption | (simp only [List.length_nil, List.length_cons, List.length_append, List.length_set, List.length_replicate]; omega) | (simp [List.length_nil, List.length_cons, List.length_append, List.length_set, List.length_replicate]; done) | (simp [List.length_nil, List.length_cons, List.length_append, List.length_set, List.length_replicate]; omega)) up_none ?_
            intro v20 w20 F20 hC20 hF20 hO20
            have hE20 : Ext w w20 := hC20.below hE19 (fun c hc => Nat.le_trans hE9.size (hF20 c hc).1) hE19.size
            have hzs20 : w19.heap.size ≤ w20.heap.size := hC20.size
            have hF21 := hL12_1x19.chg (o2) hC20 (fun c hc => by have := hF20 c hc; omega)
            have hF22 := hL12_2x19.chg (o1) hC20 (fun c hc => by have := hF20 c hc; omega)
            have hF23 := hO19.chg (o1) hC20 (fun c hc => by have := hF20 c hc; omega)
            refine q_assign v20 rfl up_none ?_
            refine lw_nil ?_
            refine wp_plain _ [0, 0] rfl ?_
            refine q_add ((i + 1 : Nat) : Int) rfl rfl (w64n (by omega) (by first | omega | assumption | (simp only [List.length_nil, List.length_cons, List.length_append, List.length_set, List.length_replicate]; omega) | (simp [List.length_nil, List.length_cons, List.length_append, List.length_set, List.length_replicate]; done) | (simp [List.length_nil, List.length_cons, List.length_append, List.length_set, List.length_replicate]; omega))) up_none ?_
            refine q_move (.int .i64 ((i + 1 : Nat) : Int)) rfl up_none ?_
            refine lw_nil ?_
            exact ⟨((i + 1), v20), _, rfl, ⟨rfl, rfl, rfl, rfl, rfl, rfl, rfl, rfl, rfl, trivial⟩, ⟨hE20, (by rw [map_snoc [] (by omega)]; exact hO20.up o1), hF21, hF22, (by first | omega | assumption | (simp only [List.length_nil, List.length_cons, List.length_append, List.length_set, List.length_replicate]; omega) | (simp [List.length_nil, List.length_cons, List.length_append, List.length_set, List.length_replicate]; done) | (simp [List.length_nil, List.length_cons, List.length_append, List.length_set, List.length_replicate]; omega)), (by omega)⟩, by first | omega | (dsimp only; omega)⟩
          ·
            refine q_lss false rfl rfl (decide_eq_false hc14) up_none ?_
            refine lw_nil ?_
            refine wp_seq ?_
            refine c_cond_f rfl ?_
            refine wp_exit ?_
            refine t_exit ?_
            refine t_exit ?_
            refine c_exit_here ?_
            refine wp_seq ?_
            refine wp_plain _ [0, 0] rfl ?_
            refine q_move vn rfl up_none ?_
            refine q_assign vn rfl up_none ?_
            refine lw_nil ?_
            refine wp_seq ?_
            refine wp_plain _ [0, 0, 0] rfl ?_
            refine q_move vn rfl up_none ?_
            refine q_len (v := vn) u29 rfl hL12_0.isSl up_none ?_
            refine q_move (.int .i64 ((0 : Nat) : Int)) rfl up_none ?_
            refine lw_nil ?_
            refine wp_block ?_
            have hml : ((a.take i).map (fun r => md (dotM r (nw a s c) * inv ((c + 1 : Nat) : Int)))).length = a.length := by rw [List.length_map, List.length_take]; omega
            have hnl2 := nw_len (a := a) (s := s) hsl (c + 1)
            refine c_loop (S := Nat) (fun (r : Nat) => ([(61, (.int .i64 ((r : Nat) : Int))), (0, va), (2, (.int .i64 o)), (8, v7_0), (9, vn), (10, (.int .i64 ((c + 1 : Nat) : Int))), (59, vn), (60, (.int .i64 ((((a.take i).map (fun r => md (dotM r (nw a s c) * inv ((c + 1 : Nat) : Int)))).length : Nat) : Int)))] : List (Nat × Value))) (fun (r : Nat) (W : World) => Ext w W ∧ Fr (owL (owL rI 2) 29) w.heap.size w9.heap.size W.heap v7_0 (mix r (tab s.length (rowP a s o.toNat (c + 1))) (tab s.length (rowP a s o.toNat c))) ∧ Fr (owL rI 2) w9.heap.size w12.heap.size W.heap vn (nw a s (c + 1)) ∧ r ≤ a.length ∧ w9.heap.size ≤ W.heap.size) (fun (r : Nat) => a.length - r) 0 ⟨rfl, rfl, rfl, rfl, rfl, rfl, rfl, rfl, trivial⟩ ⟨hE12, (by rw [mix_zero]; exact hL12_1), (by have h := hL12_0; rw [List.take_of_length_le (by omega), ← nw_map] at h; exact h), (by first | omega | assumption | (simp only [List.length_nil, List.length_cons, List.length_append, List.length_set, List.length_replicate]; omega) | (simp [List.length_nil, List.length_cons, List.length_append, List.length_set, List.length_replicate]; done) | (simp [List.length_nil, List.length_cons, List.length_append, List.length_set, List.length_replicate]; omega)), (by omega)⟩ ?_
            clear hL12_2 hL12_1 hL12_0 hE12 hzs12
            rintro r ρ24 w24 ⟨hE24, hL24_0, hL24_1, hp24_0, hkB25⟩
            have hzs24 : w.heap.size ≤ w24.heap.size := hE24.size
            have hlr := lf_row (a := a) (s := s) (o := o.toNat) (c := c) (i := r)
            have hlm := mix_len r (tab s.length (rowP a s o.toNat (c + 1))) (tab s.length (rowP a s o.toNat c)) (by simp)
            rw [tab_len] at hlm
            refine wp_seq ?_
            refine wp_plain _ [0] rfl ?_
            by_cases hc26 : ((r : Nat) : Int) < ((((a.take i).map (fun r => md (dotM r (nw a s c) * inv ((c + 1 : Nat) : Int)))).length : Nat) : Int)
            ·
              refine q_lss true rfl rfl (decide_eq_true hc26) up_none ?_
              refine lw_nil ?_
              refine wp_seq ?_
              refine c_cond_t rfl ?_
              refine wp_skip ?_
              refine wp_seq ?_
              refine wp_block ?_
              refine wp_seq ?_
              refine wp_plain _ [0, 0, 2, 0, 0] rfl ?_
              refine q_move (.int .i64 ((r : Nat) : Int)) rfl up_none ?_
              refine q_idx (v := vn) r u29 ti2 rfl rfl hL24_1.isSl rfl (by first | omega | assumption | (simp only [List.length_nil, List.length_cons, List.length_append, List.length_set, List.length_replicate]; omega) | (simp [List.length_nil, List.length_cons, List.length_append, List.length_set, List.length_replicate]; done) | (simp [List.length_nil, List.length_cons, List.length_append, List.length_set, List.length_replicate]; omega)) up_none ?_
              refine q_load (p := eptr vn r 1) (.inr rfl) (.int .i64 ((nw a s (c + 1)).getD r 0)) one2 rfl (hL24_1.rd1.getI (by first | omega | assumption | (simp only [List.length_nil, List.length_cons, List.length_append, List.length_set, List.length_replicate]; omega) | (simp [List.length_nil, List.length_cons, List.length_append, List.length_set, List.length_replicate]; done) | (simp [List.length_nil, List.length_cons, List.length_append, List.length_set, List.length_replicate]; omega))).1 up_none ?_
              refine q_assign (.int .i64 ((r : Nat) : Int)) rfl up_none ?_
              refine q_assign (.int .i64 ((nw a s (c + 1)).getD r 0)) rfl up_none ?_
              refine lw_nil ?_
              refine wp_plain _ [0, 0, 0, 2, 0, 0, 0, 4] rfl ?_
              refine q_move v7_0 rfl up_none ?_
              refine q_move (.int .i64 ((r : Nat) : Int)) rfl up_none ?_
              refine q_idx (v := v7_0) r u22 ti29 rfl rfl hL24_0.isSl rfl (by first | omega | assumption | (simp only [List.length_nil, List.length_cons, List.length_append, List.length_set, List.length_replicate]; omega) | (simp [List.length_nil, List.length_cons, List.length_append, List.length_set, List.length_replicate]; done) | (simp [List.length_nil, List.length_cons, List.length_append, List.length_set, List.length_replicate]; omega)) up_none ?_
              obtain ⟨ue27, hl27, hd27⟩ := hL24_0.rd2.get (k := r) [] (by first | omega | assumption | (simp only [List.length_nil, List.length_cons, List.length_append, List.length_set, List.length_replicate]; omega) | (simp [List.length_nil, List.length_cons, List.length_append, List.length_set, List.length_replicate]; done) | (simp [List.length_nil, List.length_cons, List.length_append, List.length_set, List.length_replicate]; omega))
              have hln27 := hd27.lenle
              refine q_load (p := eptr v7_0 r 1) (.inr rfl) ue27 one29 rfl hl27 up_none ?_
              refine q_move (.int .i64 ((c + 1 : Nat) : Int)) rfl up_none ?_
              refine q_move (.int .i64 ((nw a s (c + 1)).getD r 0)) rfl up_none ?_
              refine q_idx (v := ue27) (c + 1) u29 ti2 rfl rfl hd27.isSl rfl (by first | omega | assumption | (simp only [List.length_nil, List.length_cons, List.length_append, List.length_set, List.length_replicate]; omega) | (simp [List.length_nil, List.length_cons, List.length_append, List.length_set, List.length_replicate]; done) | (simp [List.length_nil, List.length_cons, List.length_append, List.length_set, List.length_replicate]; omega)) up_none ?_
              refine e_setM (v := v7_0) (u := ue27) (w := w24) sz2 rfl rfl (hL24_1.rd1.getI (by first | omega | assumption | (simp only [List.length_nil, List.length_cons, List.length_append, List.length_set, List.length_replicate]; omega) | (simp [List.length_nil, List.length_cons, List.length_append, List.length_set, List.length_replicate]; done) | (simp [List.length_nil, List.length_cons, List.length_append, List.length_set, List.length_replicate]; omega))).2 hL24_0 (by first | omega | assumption | (simp only [List.length_nil, List.length_cons, List.length_append, List.length_set, List.length_replicate]; omega) | (simp [List.length_nil, List.length_cons, List.length_append, List.length_set, List.length_replicate]; done) | (simp [List.length_nil, List.length_cons, List.length_append, List.length_set, List.length_replicate]; omega)) hl27 (by first | omega | assumption | (simp only [List.length_nil, List.length_cons, List.length_append, List.length_set, List.length_replicate]; omega) | (simp [List.length_nil, List.length_cons, List.length_append, List.length_set, List.length_replicate]; done) | (simp [List.length_nil, List.length_cons, List.length_append, List.length_set, List.length_replicate]; omega)) up_none ?_
              intro w28 F28 hC28 hz28 hF28 hO28
              have hE28 : Ext w w28 := hC28.below hE24 (fun c hc => Nat.le_trans (Nat.le_refl _) (hF28 c hc).1) hE24.size
              have hzs28 : w24.heap.size ≤ w28.heap.size := hC28.size
              have hF29 := hL24_1.chg (o1) hC28 (fun c hc => by have := hF28 c hc; omega)
              refine lw_nil ?_
              refine wp_plain _ [0, 0] rfl ?_
              refine q_add ((r + 1 : Nat) : Int) rfl rfl (w64n (by omega) (by first | omega | assumption | (simp only [List.length_nil, List.length_cons, List.length_append, List.length_set, List.length_replicate]; omega) | (simp [List.length_nil, List.length_cons, List.length_append, List.length_set, List.length_replicate]; done) | (simp [List.length_nil, List.length_cons, List.length_append, List.length_set, List.length_replicate]; omega))) up_none ?_
              refine q_move (.int .i64 ((r + 1 : Nat) : Int)) rfl up_none ?_
              refine lw_nil ?_
              exact ⟨(r + 1), _, rfl, ⟨rfl, rfl, rfl, rfl, rfl, rfl, rfl, rfl, trivial⟩, ⟨hE28, (by rw [← lf_set (by omega) (by omega)]; exact hO28), hF29, (by first | omega | assumption | (simp only [List.length_nil, List.length_cons, List.length_append, List.length_set, List.length_replicate]; omega) | (simp [List.length_nil, List.length_cons, List.length_append, List.length_set, List.length_replicate]; done) | (simp [List.length_nil, List.length_cons, List.length_append, List.length_set, List.length_replicate]; omega)), (by omega)⟩, by first | omega | (dsimp only; omega)⟩
            ·
              refine q_lss false rfl rfl (decide_eq_false hc26) up_none ?_
              refine lw_nil ?_
              refine wp_seq ?_
              refine c_cond_f rfl ?_
              refine wp_exit ?_
              refine t_exit ?_
              refine t_exit ?_
              refine c_exit_here ?_
              refine wp_plain _ [0, 0, 0] rfl ?_
              refine q_move (.int .i64 ((c + 1 : Nat) : Int)) rfl up_none ?_
              refine q_add ((c + 1 + 1 : Nat) : Int) rfl rfl (w64n (by omega) (by omega)) up_none ?_
              refine q_assign (.int .i64 ((c + 1 + 1 : Nat) : Int)) rfl up_none ?_
              refine lw_nil ?_
              exact ⟨((c + 1), vn), _, rfl, ⟨rfl, rfl, rfl, rfl, rfl, trivial⟩, ⟨hE24, (by have h := hL24_0.up o2; rwa [mix_all (by simp) (by simp; omega)] at h), (by exact (hL24_1.up o1).low hE9.size), (by first | omega | assumption | (simp only [List.length_nil, List.length_cons, List.length_append, List.length_set, List.length_replicate]; omega) | (simp [List.length_nil, List.length_cons, List.length_append, List.length_set, List.length_replicate]; done) | (simp [List.length_nil, List.length_cons, List.length_append, List.length_set, List.length_replicate]; omega))⟩, by first | omega | (dsimp only; omega)⟩
        ·
          refine q_leq false rfl rfl (decide_eq_false hc10) up_none ?_
          refine lw_nil ?_
          refine c_cond_f rfl ?_
          refine wp_exit ?_
          refine t_exit ?_
          refine t_exit ?_
          refine c_exit_here ?_
          refine wp_seq ?_
          refine wp_plain _ [0, 0, 0] rfl ?_
          refine q_move v7_0 rfl up_none ?_
          refine q_assign v7_0 rfl up_none ?_
          refine q_assign (.int .i64 ((0 : Nat) : Int)) rfl up_none ?_
          refine lw_nil ?_
          refine wp_ret ?_
          exact post_ret [6, 7] rfl (.tuple #[v7_0, (.int .i64 ((0 : Nat) : Int))]) rfl ⟨v7_0, (by rw [(lf_good hok).2]; rfl), hE9, (by have h := hL9_0.up o2; rw [show c = o.toNat from by omega, rowP_all] at h; rw [(lf_good hok).1]; exact h)⟩
      ·
        refine c_cond_t (by first | rfl | (show Value.bool _ = _; rw [hb6])) ?_
        refine wp_seq ?_
        refine wp_plain _ [0, 0] rfl ?_
        refine q_assign (.slice none 0 0) rfl up_none ?_
        refine q_assign (.int .i64 ((2 : Nat) : Int)) rfl up_none ?_
        refine lw_nil ?_
        refine wp_ret ?_
        refine b_ret ?_
        refine t_ret ?_
        have hq : sqB a = true := by simpa using ‹(!sqB a) = false›
        have hno : lfOk a s o = false := by unfold lfOk; simp_all <;> omega
        exact post_ret [6, 7] rfl (.tuple #[(.slice none 0 0), (.int .i64 ((2 : Nat) : Int))]) rfl ⟨(.slice none 0 0), (by rw [(lf_bad2 hq hno).2]; rfl), hE5, (by rw [(lf_bad2 hq hno).1]; exact frNil _ _ _)⟩
    ·
      refine lw_skip (e := 26) (c := true) rfl rfl rfl rfl ?_
      refine lw_skip (e := 26) (c := true) rfl rfl rfl rfl ?_
      refine lw_skip (e := 26) (c := true) rfl rfl rfl rfl ?_
      refine q_pick true (.bool true) rfl rfl up_none ?_
      refine q_assign (.bool true) rfl up_none ?_
      refine lw_nil ?_
      refine c_cond_t rfl ?_
      refine wp_seq ?_
      refine wp_plain _ [0, 0] rfl ?_
      refine q_assign (.slice none 0 0) rfl up_none ?_
      refine q_assign (.int .i64 ((2 : Nat) : Int)) rfl up_none ?_
      refine lw_nil ?_
      refine wp_ret ?_
      refine b_ret ?_
      refine t_ret ?_
      have hq : sqB a = true := by simpa using ‹(!sqB a) = false›
      have hno : lfOk a s o = false := by unfold lfOk; rw [show (decide (s.length = a.length) && allN s) = false from by have h := ‹(!(decide (((s.length : Nat) : Int) = ((a.length : Nat) : Int)) && allN s)) = true›; rw [show decide (((s.length : Nat) : Int) = ((a.length : Nat) : Int)) = decide (s.length = a.length) from decide_eq_decide.2 (by omega)] at h; exact (Bool.not_eq_true' _).mp h]; simp
      exact post_ret [6, 7] rfl (.tuple #[(.slice none 0 0), (.int .i64 ((2 : Nat) : Int))]) rfl ⟨(.slice none 0 0), (by rw [(lf_bad2 hq hno).2]; rfl), hE3, (by rw [(lf_bad2 hq hno).1]; exact frNil _ _ _)⟩
  ·
    refine c_cond_t (by first | rfl | (show Value.bool _ = _; rw [hb2])) ?_
    refine wp_seq ?_
    refine wp_plain _ [0, 0] rfl ?_
    refine q_assign (.slice none 0 0) rfl up_none ?_
    refine q_assign (.int .i64 ((1 : Nat) : Int)) rfl up_none ?_
    refine lw_nil ?_
    refine wp_ret ?_
    refine b_ret ?_
    refine t_ret ?_
    have hq : sqB a = false := by simpa using ‹(!sqB a) = true›
    exact post_ret [6, 7] rfl (.tuple #[(.slice none 0 0), (.int .i64 ((1 : Nat) : Int))]) rfl ⟨(.slice none 0 0), (by rw [(lf_bad1 hq).2]; rfl), hE1, (by rw [(lf_bad1 hq).1]; exact frNil _ _ _)⟩

/- spec.LinearFlow -/
set_option maxHeartbeats 4000000 in
set_option maxRecDepth 100000 in
theorem c_spec_LinearFlow (w : World) (va : Value) (a : List (List Int)) (vs : Value) (s : List Int) (o : Int) (ha : Rd (rdL (rdL rI)) w.heap va a) (hs : Rd (rdL rI) w.heap vs s) (_ho : -9223372036854775808 ≤ o ∧ o ≤ 9223372036854775807)  :
    Calls Try.prog 16 #[va, vs, .int .i64 o] w (fun e w' => ∃ v0 : Value, e = .returned (.tuple #[v0, .int .i64 (lfC a s o)]) ∧ Ext w w' ∧ Fr (owL (owL rI 2) 29) w.heap.size w'.heap.size w'.heap v0 (lfR a s o)) := by
  refine calls_mk [va, vs, .int .i64 o] 76 Try.func16 rfl rfl (by simp) ?_
  have hE0 : Ext w w := Ext.refl w
  have hl_va := ha.lenle
  have hl_vs := hs.lenle
  refine wp_seq ?_
  refine wp_plain _ [0, 0] rfl ?_
  refine q_assign (.slice none 0 0) rfl up_none ?_
  refine q_assign (.int .i64 ((0 : Nat) : Int)) rfl up_none ?_
  refine lw_nil ?_
  refine wp_seq ?_
  refine wp_seq ?_
  refine wp_plain _ [0, 3, 0] rfl ?_
  refine q_move va rfl up_none ?_
  refine lw_call 52 [] [] [va] rfl rfl cf52 up_none (c_spec_l07Square _ _ _ (ha.ext g2 hE0)) ?_
  rintro e1 w1 ⟨rfl, hX1⟩
  refine ⟨_, rfl, hX1, ?_⟩
  have hzs1 : w.heap.size ≤ w1.heap.size := hX1.size
  have hE1 : Ext w w1 := hE0.trans hX1
  refine q_not (!(sqB a)) rfl rfl up_none ?_
  refine lw_nil ?_
  cases hb2 : (!(sqB a))
  ·
    refine c_cond_f (by first | rfl | (show Value.bool _ = _; rw [hb2])) ?_
    refine wp_skip ?_
    refine wp_seq ?_
    refine wp_seq ?_
    refine wp_plain _ [0, 0, 0, 3, 0, 0, 0, 3, 0, 0] rfl ?_
    refine q_move vs rfl up_none ?_
    refine q_move va rfl up_none ?_
    refine q_len (v := va) u22 rfl ha.isSl up_none ?_
    refine lw_call 56 [] [] [vs, (.int .i64 ((a.length : Nat) : Int))] rfl rfl cf56 up_none (c_spec_l07Numbers _ _ _ _ (hs.ext g1 hE1) (by omega)) ?_
    rintro e3 w3 ⟨rfl, hX3⟩
    refine ⟨_, rfl, hX3, ?_⟩
    have hzs3 : w1.heap.size ≤ w3.heap.size := hX3.size
    have hE3 : Ext w w3 := hE1.trans hX3
    refine q_not (!(decide (((s.length : Nat) : Int) = ((a.length : Nat) : Int)) && allN s)) rfl rfl up_none ?_
    refine q_move (.bool (!(decide (((s.length : Nat) : Int) = ((a.length : Nat) : Int)) && allN s))) rfl up_none ?_
    cases hb4 : (!(decide (((s.length : Nat) : Int) = ((a.length : Nat) : Int)) && allN s))
    ·
      refine q_move (.int .i64 o) rfl (up_some (e := 22) rfl rfl rfl) ?_
      refine lw_call 57 [] [] [(.int .i64 o), (.int .i64 ((0 : Nat) : Int)), (.int .i64 ((12 : Nat) : Int))] rfl rfl cf57 (up_some (e := 22) rfl rfl rfl) (c_spec_l00In _ _ _ _ _ho (by omega) (by omega)) ?_
      rintro e5 w5 ⟨rfl, hX5⟩
      refine ⟨_, rfl, hX5, ?_⟩
      have hzs5 : w3.heap.size ≤ w5.heap.size := hX5.size
      have hE5 : Ext w w5 := hE3.trans hX5
      refine q_not (!(decide (((0 : Nat) : Int) ≤ o) && decide (o ≤ ((12 : Nat) : Int)))) rfl rfl (up_some (e := 22) rfl rfl rfl) ?_
      refine q_pick false (.bool (!(decide (((0 : Nat) : Int) ≤ o) && decide (o ≤ ((12 : Nat) : Int))))) rfl rfl up_none ?_
      refine lw_nil ?_
      cases hb6 : (!(decide (((0 : Nat) : Int) ≤ o) && decide (o ≤ ((12 : Nat) : Int))))
      ·
        refine c_cond_f (by first | rfl | (show Value.bool _ = _; rw [hb6])) ?_
        refine wp_skip ?_
        refine wp_seq ?_
        refine wp_plain _ [3, 0] rfl ?_
        have hok : lfOk a s o = true := by unfold lfOk; simp_all; try omega
        obtain ⟨hS, h6⟩ := sq_of (lf_sq hok)
        have hsl := lf_len hok
        have hsn := lf_num hok
        have hoo := lf_ord hok
        refine r_nil (owL rI 2) o1 u22 ti29 up_none ?_
        intro v7 w7 hX7 hz7 hO7
        have hzs7 : w5.heap.size ≤ w7.heap.size := hX7.size
        have hE7 : Ext w w7 := hE5.trans hX7
        refine q_assign v7 rfl up_none ?_
        refine lw_nil ?_
        refine wp_seq ?_
        refine wp_seq ?_
        refine wp_plain _ [0] rfl ?_
        refine q_assign (.int .i64 ((0 : Nat) : Int)) rfl up_none ?_
        refine lw_nil ?_
        refine wp_block ?_
        refine c_loop (S := Nat × Value) (fun (⟨q, vy⟩ : Nat × Value) => ([(8, vy), (9, (.int .i64 ((q : Nat) : Int))), (0, va), (1, vs), (2, (.int .i64 o))] : List (Nat × Value))) (fun (⟨q, vy⟩ : Nat × Value) (W : World) => Ext w W ∧ Fr (owL (owL rI 2) 29) w.heap.size W.heap.size W.heap vy ((s.take q).map (fun x => [x])) ∧ q ≤ s.length) (fun (⟨q, vy⟩ : Nat × Value) => s.length - q) (0, v7) ⟨rfl, rfl, rfl, rfl, rfl, trivial⟩ ⟨hE7, (hO7.up o2).low hE5.size, (by first | omega | assumption | (simp only [List.length_nil, List.length_cons, List.length_append, List.length_set, List.length_replicate, scl_len, app_len, tab_len]; omega) | (simp [List.length_nil, List.length_cons, List.length_append, List.length_set, List.length_replicate, scl_len, app_len, tab_len]; done) | (simp [List.length_nil, List.length_cons, List.length_append, List.length_set, List.length_replicate, scl_len, app_len, tab_len]; omega))⟩ ?_
        clear hE0 hX1 hzs1 hE1 hX3 hzs3 hE3 hX5 hzs5 hE5 hO7 hz7 hX7 hzs7 hE7
        rintro ⟨q, vy⟩ ρ8 w8 ⟨hE8, hL8_0, hp8_0⟩
        have hzs8 : w.heap.size ≤ w8.heap.size := hE8.size
        refine wp_seq ?_
        refine wp_seq ?_
        refine wp_plain _ [0, 0, 0, 0] rfl ?_
        refine q_move (.int .i64 ((q : Nat) : Int)) rfl up_none ?_
        refine q_move vs rfl up_none ?_
        refine q_len (v := vs) u29 rfl hs.isSl up_none ?_
        by_cases hc9 : ((q : Nat) : Int) < ((s.length : Nat) : Int)
        ·
          refine q_lss true rfl rfl (decide_eq_true hc9) up_none ?_
          refine lw_nil ?_
          refine c_cond_t rfl ?_
          refine wp_skip ?_
          refine wp_seq ?_
          refine wp_block ?_
          refine wp_plain _ [0, 0, 0, 0, 2, 3, 3, 4, 0] rfl ?_
          refine q_move vy rfl up_none ?_
          refine q_move vs rfl up_none ?_
          refine q_move (.int .i64 ((q : Nat) : Int)) rfl up_none ?_
          refine q_idx (v := vs) q u29 ti2 rfl rfl hs.isSl rfl (by first | omega | assumption | (simp only [List.length_nil, List.length_cons, List.length_append, List.length_set, List.length_replicate, scl_len, app_len, tab_len]; omega) | (simp [List.length_nil, List.length_cons, List.length_append, List.length_set, List.length_replicate, scl_len, app_len, tab_len]; done) | (simp [List.length_nil, List.length_cons, List.length_append, List.length_set, List.length_replicate, scl_len, app_len, tab_len]; omega)) up_none ?_
          refine q_load (p := eptr vs q 1) (.inr rfl) (.int .i64 (s.getD q 0)) one2 rfl (ldH_ext hE8 (hs.getI (by first | omega | assumption | (simp only [List.length_nil, List.length_cons, List.length_append, List.length_set, List.length_replicate, scl_len, app_len, tab_len]; omega) | (simp [List.length_nil, List.length_cons, List.length_append, List.length_set, List.length_replicate, scl_len, app_len, tab_len]; done) | (simp [List.length_nil, List.length_cons, List.length_append, List.length_set, List.length_replicate, scl_len, app_len, tab_len]; omega))).1) up_none ?_
          refine r_one (u := (.int .i64 (s.getD q 0))) (B := w8.heap.size) good_rI u29 ti2 rfl rfl (frI w8.heap.size w8.heap.size _ _ (hs.getI (by first | omega | assumption | (simp only [List.length_nil, List.length_cons, List.length_append, List.length_set, List.length_replicate, scl_len, app_len, tab_len]; omega) | (simp [List.length_nil, List.length_cons, List.length_append, List.length_set, List.length_replicate, scl_len, app_len, tab_len]; done) | (simp [List.length_nil, List.length_cons, List.length_append, List.length_set, List.length_replicate, scl_len, app_len, tab_len]; omega))).2) (Nat.le_refl _) up_none ?_
          intro v10 w10 hX10 hz10 hO10
          have hzs10 : w8.heap.size ≤ w10.heap.size := hX10.size
          have hE10 : Ext w w10 := hE8.trans hX10
          have hL8_0x10 := hL8_0.ext (o2) hX10
          refine r_one (u := v10) (B := w8.heap.size) o1 u22 ti29 rfl rfl hO10 (by first | exact Nat.le_refl _ | omega) up_none ?_
          intro v11 w11 hX11 hz11 hO11
          have hzs11 : w10.heap.size ≤ w11.heap.size := hX11.size
          have hE11 : Ext w w11 := hE10.trans hX11
          have hL8_0x11 := hL8_0x10.ext (o2) hX11
          refine e_appF o1 (v := vy) (a := v11) u22 ti29 rfl rfl rfl hL8_0x11 hE11.size hO11 (by omega) hE8.size (by first | omega | assumption | (simp only [List.length_nil, List.length_cons, List.length_append, List.length_set, List.length_replicate, scl_len, app_len, tab_len]; omega) | (simp [List.length_nil, List.length_cons, List.length_append, List.length_set, List.length_replicate, scl_len, app_len, tab_len]; done) | (simp [List.length_nil, List.length_cons, List.length_append, List.length_set, List.length_replicate, scl_len, app_len, tab_len]; omega)) (by unfold maxLen; first | omega | assumption | (simp only [List.length_nil, List.length_cons, List.length_append, List.length_set, List.length_replicate, scl_len, app_len, tab_len]; omega) | (simp [List.length_nil, List.length_cons, List.length_append, List.length_set, List.length_replicate, scl_len, app_len, tab_len]; done) | (simp [List.length_nil, List.length_cons, List.length_append, List.length_set, List.length_replicate, scl_len, app_len, tab_len]; omega)) up_none ?_
          intro v12 w12 F12 hC12 hF12 hO12
          have hE12 : Ext w w12 := hC12.below hE11 (fun c hc => Nat.le_trans (Nat.le_refl _) (hF12 c hc).1) hE11.size
          have hzs12 : w11.heap.size ≤ w12.heap.size := hC12.size
          refine q_assign v12 rfl up_none ?_
          refine lw_nil ?_
          refine wp_plain _ [0, 0, 0] rfl ?_
          refine q_move (.int .i64 ((q : Nat) : Int)) rfl up_none ?_
          refine q_add ((q + 1 : Nat) : Int) rfl rfl (w64n (by omega) (by first | omega | assumption | (simp only [List.length_nil, List.length_cons, List.length_append, List.length_set, List.length_replicate, scl_len, app_len, tab_len]; omega) | (simp [List.length_nil, List.length_cons, List.length_append, List.length_set, List.length_replicate, scl_len, app_len, tab_len]; done) | (simp [List.length_nil, List.length_cons, List.length_append, List.length_set, List.length_replicate, scl_len, app_len, tab_len]; omega))) up_none ?_
          refine q_assign (.int .i64 ((q + 1 : Nat) : Int)) rfl up_none ?_
          refine lw_nil ?_
          exact ⟨((q + 1), v12), _, rfl, ⟨rfl, rfl, rfl, rfl, rfl, trivial⟩, ⟨hE12, (by rw [map_snoc 0 (by omega)]; exact hO12.up o2), (by first | omega | assumption | (simp only [List.length_nil, List.length_cons, List.length_append, List.length_set, List.length_replicate, scl_len, app_len, tab_len]; omega) | (simp [List.length_nil, List.length_cons, List.length_append, List.length_set, List.length_replicate, scl_len, app_len, tab_len]; done) | (simp [List.length_nil, List.length_cons, List.length_append, List.length_set, List.length_replicate, scl_len, app_len, tab_len]; omega))⟩, by first | omega | (dsimp only; omega)⟩
        ·
          refine q_lss false rfl rfl (decide_eq_false hc9) up_none ?_
          refine lw_nil ?_
          refine c_cond_f rfl ?_
          refine wp_exit ?_
          refine t_exit ?_
          refine t_exit ?_
          refine c_exit_here ?_
          refine wp_seq ?_
          refine wp_plain _ [0, 3, 0] rfl ?_
          refine q_move vs rfl up_none ?_
          refine lw_call 58 [] [] [vs] rfl rfl cf58 up_none (c_spec_l00Own _ _ _ (hs.ext g1 hE8) (by omega)) ?_
          rintro e13 w13 ⟨v13_0, rfl, hX13, hO13_0⟩
          refine ⟨_, rfl, hX13, ?_⟩
          have hzs13 : w8.heap.size ≤ w13.heap.size := hX13.size
          have hE13 : Ext w w13 := hE8.trans hX13
          have hL8_0x13 := hL8_0.ext (o2) hX13
          refine q_assign v13_0 rfl up_none ?_
          refine lw_nil ?_
          refine wp_seq ?_
          refine wp_seq ?_
          refine wp_plain _ [0] rfl ?_
          refine q_assign (.int .i64 ((1 : Nat) : Int)) rfl up_none ?_
          refine lw_nil ?_
          refine wp_block ?_
          refine c_loop (S := Nat × Value) (fun (⟨c, vt⟩ : Nat × Value) => ([(10, vt), (11, (.int .i64 ((c + 1 : Nat) : Int))), (0, va), (2, (.int .i64 o)), (8, vy)] : List (Nat × Value))) (fun (⟨c, vt⟩ : Nat × Value) (W : World) => Ext w W ∧ Fr (owL (owL rI 2) 29) w.heap.size W.heap.size W.heap vy (tab s.length (colP a s c)) ∧ Fr (owL rI 2) w.heap.size W.heap.size W.heap vt (nw a s c) ∧ c ≤ o.toNat) (fun (⟨c, vt⟩ : Nat × Value) => o.toNat - c) (0, v13_0) ⟨rfl, rfl, rfl, rfl, rfl, trivial⟩ ⟨hE13, (by have h := hL8_0x13.up o2; rw [List.take_of_length_le (by omega), col_zero a s] at h; exact h), (hO13_0.up o1).low hE8.size, (by first | omega | assumption | (simp only [List.length_nil, List.length_cons, List.length_append, List.length_set, List.length_replicate, scl_len, app_len, tab_len]; omega) | (simp [List.length_nil, List.length_cons, List.length_append, List.length_set, List.length_replicate, scl_len, app_len, tab_len]; done) | (simp [List.length_nil, List.length_cons, List.length_append, List.length_set, List.length_replicate, scl_len, app_len, tab_len]; omega))⟩ ?_
          clear hL8_0 hE8 hzs8 hO13_0 hX13 hzs13 hE13 hL8_0x13
          rintro ⟨c, vt⟩ ρ14 w14 ⟨hE14, hL14_0, hL14_1, hp14_0⟩
          have hzs14 : w.heap.size ≤ w14.heap.size := hE14.size
          have hnl := nw_len (a := a) (s := s) hsl c
          have hnn := nw_num (a := a) (s := s) hsn c
          refine wp_seq ?_
          refine wp_seq ?_
          refine wp_plain _ [0, 0, 0] rfl ?_
          refine q_move (.int .i64 ((c + 1 : Nat) : Int)) rfl up_none ?_
          refine q_move (.int .i64 o) rfl up_none ?_
          by_cases hc15 : ((c + 1 : Nat) : Int) ≤ o
          ·
            refine q_leq true rfl rfl (decide_eq_true hc15) up_none ?_
            refine lw_nil ?_
            refine c_cond_t rfl ?_
            refine wp_skip ?_
            refine wp_seq ?_
            refine wp_block ?_
            refine wp_seq ?_
            refine wp_plain _ [0, 0, 3, 0, 3, 3, 0] rfl ?_
            refine q_move va rfl up_none ?_
            refine q_move vt rfl up_none ?_
            refine lw_call 60 [] [] [va, vt] rfl rfl cf60 up_none (c_spec_l07Apply _ _ _ _ _ (ha.ext g2 hE14) hL14_1.rd1 (by omega) (by exact row_le hS hnl) (by exact hS.num) (by exact hnn)) ?_
            rintro e16 w16 ⟨v16_0, rfl, hX16, hO16_0⟩
            refine ⟨_, rfl, hX16, ?_⟩
            have hzs16 : w14.heap.size ≤ w16.heap.size := hX16.size
            have hE16 : Ext w w16 := hE14.trans hX16
            have hL14_0x16 := hL14_0.ext (o2) hX16
            have hL14_1x16 := hL14_1.ext (o1) hX16
            refine q_move (.int .i64 ((c + 1 : Nat) : Int)) rfl up_none ?_
            refine lw_call 61 [] [] [(.int .i64 ((c + 1 : Nat) : Int))] rfl rfl cf61 up_none (c_spec_l01Inv _ _ (by omega)) ?_
            rintro e17 w17 ⟨rfl, hX17⟩
            refine ⟨_, rfl, hX17, ?_⟩
            have hzs17 : w16.heap.size ≤ w17.heap.size := hX17.size
            have hE17 : Ext w w17 := hE16.trans hX17
            have hL14_0x17 := hL14_0x16.ext (o2) hX17
            have hL14_1x17 := hL14_1x16.ext (o1) hX17
            have hO16_0x17 := hO16_0.ext (o1) hX17
            refine lw_call 59 [] [] [v16_0, (.int .i64 (inv ((c + 1 : Nat) : Int)))] rfl rfl cf59 up_none (c_spec_l01Scale _ _ _ _ hO16_0x17.rd1 (inv_rng _) (by rw [app_len]; omega)) ?_
            rintro e18 w18 ⟨v18_0, rfl, hX18, hO18_0⟩
            refine ⟨_, rfl, hX18, ?_⟩
            have hzs18 : w17.heap.size ≤ w18.heap.size := hX18.size
            have hE18 : Ext w w18 := hE17.trans hX18
            have hL14_0x18 := hL14_0x17.ext (o2) hX18
            have hL14_1x18 := hL14_1x17.ext (o1) hX18
            have hO16_0x18 := hO16_0x17.ext (o1) hX18
            refine q_assign v18_0 rfl up_none ?_
            refine lw_nil ?_
            refine wp_seq ?_
            refine wp_plain _ [0] rfl ?_
            refine q_assign (.int .i64 ((0 : Nat) : Int)) rfl up_none ?_
            refine lw_nil ?_
            refine wp_block ?_
            obtain ⟨Xn20, kO20, kN20, kR20⟩ := id hO18_0
            have kY20 := FrX.of hL14_0x18 (by omega) kR20
            refine c_loop (S := Nat) (fun (i : Nat) => ([(12, (.int .i64 ((i : Nat) : Int))), (0, va), (2, (.int .i64 o)), (8, vy), (10, v18_0), (11, (.int .i64 ((c + 1 : Nat) : Int)))] : List (Nat × Value))) (fun (i : Nat) (W : World) => Ext w W ∧ FrX 2 29 w.heap.size Xn20 W.heap vy (mix i (tab s.length (colP a s (c + 1))) (tab s.length (colP a s c))) ∧ owL rI 2 W.heap v18_0 (scl (app a (nw a s c)) (inv ((c + 1 : Nat) : Int))) Xn20 ∧ i ≤ s.length) (fun (i : Nat) => s.length - i) 0 ⟨rfl, rfl, rfl, rfl, rfl, rfl, trivial⟩ ⟨hE18, (by rw [mix_zero]; exact kY20), kO20, (by first | omega | assumption | (simp only [List.length_nil, List.length_cons, List.length_append, List.length_set, List.length_replicate, scl_len, app_len, tab_len]; omega) | (simp [List.length_nil, List.length_cons, List.length_append, List.length_set, List.length_replicate, scl_len, app_len, tab_len]; done) | (simp [List.length_nil, List.length_cons, List.length_append, List.length_set, List.length_replicate, scl_len, app_len, tab_len]; omega))⟩ ?_
            clear hL14_1 hL14_0 hE14 hzs14 hO16_0 hX16 hzs16 hE16 hL14_0x16 hL14_1x16 hX17 hL14_0x17 hL14_1x17 hO16_0x17 hO18_0 hX18 hzs18 hE18 hL14_0x18 hL14_1x18 hO16_0x18
            rintro i ρ19 w19 ⟨hE19, hL19_0, hL19_1, hp19_0⟩
            have hzs19 : w.heap.size ≤ w19.heap.size := hE19.size
            have hlr := col_row (a := a) (s := s) (c := c) (i := i)
            have hlm := mix_len i (tab s.length (colP a s (c + 1))) (tab s.length (colP a s c)) (by simp)
            rw [tab_len] at hlm
            refine wp_seq ?_
            refine wp_seq ?_
            refine wp_plain _ [0, 0, 0, 0] rfl ?_
            refine q_move (.int .i64 ((i : Nat) : Int)) rfl up_none ?_
            refine q_move vy rfl up_none ?_
            refine q_len (v := vy) u22 rfl hL19_0.isSl up_none ?_
            by_cases hc21 : ((i : Nat) : Int) < (((mix i (tab s.length (colP a s (c + 1))) (tab s.length (colP a s c))).length : Nat) : Int)
            ·
              refine q_lss true rfl rfl (decide_eq_true hc21) up_none ?_
              refine lw_nil ?_
              refine c_cond_t rfl ?_
              refine wp_skip ?_
              refine wp_seq ?_
              refine wp_block ?_
              refine wp_draw _ [0, 0, 0, 0, 0, 1, 0, 0, 0, 1, 3, 4, 0, 4] mixed (by kernel_rfl) ?_
              refine q_move vy rfl up_none ?_
              refine q_move (.int .i64 ((i : Nat) : Int)) rfl up_none ?_
              refine q_move vy rfl up_none ?_
              refine q_move (.int .i64 ((i : Nat) : Int)) rfl up_none ?_
              refine q_idx (v := vy) i u22 ti29 rfl rfl hL19_0.isSl rfl (by first | omega | assumption | (simp only [List.length_nil, List.length_cons, List.length_append, List.length_set, List.length_replicate, scl_len, app_len, tab_len]; omega) | (simp [List.length_nil, List.length_cons, List.length_append, List.length_set, List.length_replicate, scl_len, app_len, tab_len]; done) | (simp [List.length_nil, List.length_cons, List.length_append, List.length_set, List.length_replicate, scl_len, app_len, tab_len]; omega)) up_none ?_
              obtain ⟨ue22, hl22, hd22⟩ := hL19_0.rd2.get (k := i) [] (by first | omega | assumption | (simp only [List.length_nil, List.length_cons, List.length_append, List.length_set, List.length_replicate, scl_len, app_len, tab_len]; omega) | (simp [List.length_nil, List.length_cons, List.length_append, List.length_set, List.length_replicate, scl_len, app_len, tab_len]; done) | (simp [List.length_nil, List.length_cons, List.length_append, List.length_set, List.length_replicate, scl_len, app_len, tab_len]; omega))
              have hln22 := hd22.lenle
              refine q_load (p := eptr vy i 1) (.inl rfl) ue22 one29 rfl hl22 up_none ?_
              refine q_move v18_0 rfl up_none ?_
              refine q_move (.int .i64 ((i : Nat) : Int)) rfl up_none ?_
              refine q_idx (v := v18_0) i u29 ti2 rfl rfl (hL19_1.rd id).isSl rfl (by first | omega | assumption | (simp only [List.length_nil, List.length_cons, List.length_append, List.length_set, List.length_replicate, scl_len, app_len, tab_len]; omega) | (simp [List.length_nil, List.length_cons, List.length_append, List.length_set, List.length_replicate, scl_len, app_len, tab_len]; done) | (simp [List.length_nil, List.length_cons, List.length_append, List.length_set, List.length_replicate, scl_len, app_len, tab_len]; omega)) up_none ?_
              refine q_load (p := eptr v18_0 i 1) (.inl rfl) (.int .i64 ((scl (app a (nw a s c)) (inv ((c + 1 : Nat) : Int))).getD i 0)) one2 rfl ((own_rdI hL19_1).getI (by first | omega | assumption | (simp only [List.length_nil, List.length_cons, List.length_append, List.length_set, List.length_replicate, scl_len, app_len, tab_len]; omega) | (simp [List.length_nil, List.length_cons, List.length_append, List.length_set, List.length_replicate, scl_len, app_len, tab_len]; done) | (simp [List.length_nil, List.length_cons, List.length_append, List.length_set, List.length_replicate, scl_len, app_len, tab_len]; omega))).1 up_none ?_
              refine r_one (u := (.int .i64 ((scl (app a (nw a s c)) (inv ((c + 1 : Nat) : Int))).getD i 0))) (B := w19.heap.size) good_rI u29 ti2 rfl rfl (frI w19.heap.size w19.heap.size _ _ ((own_rdI hL19_1).getI (by first | omega | assumption | (simp only [List.length_nil, List.length_cons, List.length_append, List.length_set, List.length_replicate, scl_len, app_len, tab_len]; omega) | (simp [List.length_nil, List.length_cons, List.length_append, List.length_set, List.length_replicate, scl_len, app_len, tab_len]; done) | (simp [List.length_nil, List.length_cons, List.length_append, List.length_set, List.length_replicate, scl_len, app_len, tab_len]; omega))).2) (Nat.le_refl _) up_none ?_
              intro v23 w23 hX23 hz23 hO23
              replace hX23 := hX23.of_drew
              have hzs23 : w19.heap.size ≤ w23.heap.size := hX23.size
              have hE23 : Ext w w23 := hE19.trans hX23
              have hL19_0x23 := hL19_0.ext (o2) hX23
              have hL19_1x23 := own_ext (o1) hL19_1 hX23
              have hd22x23 := hd22.ext g1 hX23
              have hlx24 := ldH_ext hX23 hl22
              refine e_appP (v := vy) (u := ue22) (a := v23) (r := i) u29 ti2 rfl rfl rfl hL19_0x23 hE23.size (o1.lt hL19_1x23) (by first | omega | assumption | (simp only [List.length_nil, List.length_cons, List.length_append, List.length_set, List.length_replicate, scl_len, app_len, tab_len]; omega) | (simp [List.length_nil, List.length_cons, List.length_append, List.length_set, List.length_replicate, scl_len, app_len, tab_len]; done) | (simp [List.length_nil, List.length_cons, List.length_append, List.length_set, List.length_replicate, scl_len, app_len, tab_len]; omega)) hlx24 hO23.rd1 (by have := hlr (by omega); simp only [List.length_cons, List.length_nil]; omega) (by unfold maxLen; have := hlr (by omega); simp only [List.length_cons, List.length_nil]; omega) up_none ?_
              intro v25 w25 F25 hC25 hF25 hO25
              have hE25 : Ext w w25 := hC25.below hE23 (fun b hb => (hF25 b hb).1) hE23.size
              have hzs25 : w23.heap.size ≤ w25.heap.size := hC25.size
              have hF26 := own_keep hL19_1x23 hC25 (fun b hb => (hF25 b hb).2.1)
              refine q_idx (v := vy) i u22 ti29 rfl rfl hO25.isSl rfl (by first | omega | assumption | (simp only [List.length_nil, List.length_cons, List.length_append, List.length_set, List.length_replicate, scl_len, app_len, tab_len]; omega) | (simp [List.length_nil, List.length_cons, List.length_append, List.length_set, List.length_replicate, scl_len, app_len, tab_len]; done) | (simp [List.length_nil, List.length_cons, List.length_append, List.length_set, List.length_replicate, scl_len, app_len, tab_len]; omega)) up_none ?_
              refine e_setP (v := vy) (u := v25) (w := w25) sz29 rfl rfl hO25 up_none ?_
              intro w27 F27 hC27 hz27 hF27 hO27
              have hE27 : Ext w w27 := hC27.below hE25 (fun b hb => (hF27 b hb).1) hE25.size
              have hzs27 : w25.heap.size ≤ w27.heap.size := hC27.size
              have hF28 := own_keep hF26 hC27 (fun b hb => (hF27 b hb).2.1)
              refine lw_nil ?_
              refine wp_plain _ [0, 0, 0] rfl ?_
              refine q_move (.int .i64 ((i : Nat) : Int)) rfl up_none ?_
              refine q_add ((i + 1 : Nat) : Int) rfl rfl (w64n (by omega) (by first | omega | assumption | (simp only [List.length_nil, List.length_cons, List.length_append, List.length_set, List.length_replicate, scl_len, app_len, tab_len]; omega) | (simp [List.length_nil, List.length_cons, List.length_append, List.length_set, List.length_replicate, scl_len, app_len, tab_len]; done) | (simp [List.length_nil, List.length_cons, List.length_append, List.length_set, List.length_replicate, scl_len, app_len, tab_len]; omega))) up_none ?_
              refine q_assign (.int .i64 ((i + 1 : Nat) : Int)) rfl up_none ?_
              refine lw_nil ?_
              exact ⟨(i + 1), _, rfl, ⟨rfl, rfl, rfl, rfl, rfl, rfl, trivial⟩, ⟨hE27, (by rw [← col_set (by omega)]; exact hO27), hF28, (by first | omega | assumption | (simp only [List.length_nil, List.length_cons, List.length_append, List.length_set, List.length_replicate, scl_len, app_len, tab_len]; omega) | (simp [List.length_nil, List.length_cons, List.length_append, List.length_set, List.length_replicate, scl_len, app_len, tab_len]; done) | (simp [List.length_nil, List.length_cons, List.length_append, List.length_set, List.length_replicate, scl_len, app_len, tab_len]; omega))⟩, by first | omega | (dsimp only; omega)⟩
            ·
              refine q_lss false rfl rfl (decide_eq_false hc21) up_none ?_
              refine lw_nil ?_
              refine c_cond_f rfl ?_
              refine wp_exit ?_
              refine t_exit ?_
              refine t_exit ?_
              refine c_exit_here ?_
              refine wp_plain _ [0, 0, 0] rfl ?_
              refine q_move (.int .i64 ((c + 1 : Nat) : Int)) rfl up_none ?_
              refine q_add ((c + 1 + 1 : Nat) : Int) rfl rfl (w64n (by omega) (by omega)) up_none ?_
              refine q_assign (.int .i64 ((c + 1 + 1 : Nat) : Int)) rfl up_none ?_
              refine lw_nil ?_
              exact ⟨((c + 1), v18_0), _, rfl, ⟨rfl, rfl, rfl, rfl, rfl, trivial⟩, ⟨hE19, (by have h := hL19_0.fr; rwa [mix_all (by simp) (by simp; omega)] at h), (by exact (own_fr hL19_1 kN20 kR20 hE17.size)), (by first | omega | assumption | (simp only [List.length_nil, List.length_cons, List.length_append, List.length_set, List.length_replicate, scl_len, app_len, tab_len]; omega) | (simp [List.length_nil, List.length_cons, List.length_append, List.length_set, List.length_replicate, scl_len, app_len, tab_len]; done) | (simp [List.length_nil, List.length_cons, List.length_append, List.length_set, List.length_replicate, scl_len, app_len, tab_len]; omega))⟩, by first | omega | (dsimp only; omega)⟩
          ·
            refine q_leq false rfl rfl (decide_eq_false hc15) up_none ?_
            refine lw_nil ?_
            refine c_cond_f rfl ?_
            refine wp_exit ?_
            refine t_exit ?_
            refine t_exit ?_
            refine c_exit_here ?_
            refine wp_seq ?_
            refine wp_plain _ [0, 0, 0] rfl ?_
            refine q_move vy rfl up_none ?_
            refine q_assign vy rfl up_none ?_
            refine q_assign (.int .i64 ((0 : Nat) : Int)) rfl up_none ?_
            refine lw_nil ?_
            refine wp_ret ?_
            exact post_ret [6, 7] rfl (.tuple #[vy, (.int .i64 ((0 : Nat) : Int))]) rfl ⟨vy, (by rw [(lf_good hok).2]; rfl), hE14, (by have h := hL14_0.up o2; rw [show c = o.toNat from by omega] at h; rw [(lf_good hok).1]; exact h)⟩
      ·
        refine c_cond_t (by first | rfl | (show Value.bool _ = _; rw [hb6])) ?_
        refine wp_seq ?_
        refine wp_plain _ [3, 0, 0] rfl ?_
        refine r_nil (owL rI 2) o1 u22 ti29 up_none ?_
        intro v29 w29 hX29 hz29 hO29
        have hzs29 : w5.heap.size ≤ w29.heap.size := hX29.size
        have hE29 : Ext w w29 := hE5.trans hX29
        refine q_assign v29 rfl up_none ?_
        refine q_assign (.int .i64 ((2 : Nat) : Int)) rfl up_none ?_
        refine lw_nil ?_
        refine wp_ret ?_
        refine t_ret ?_
        have hq : sqB a = true := by simpa using ‹(!sqB a) = false›
        have hno : lfOk a s o = false := by unfold lfOk; simp_all <;> omega
        exact post_ret [6, 7] rfl (.tuple #[v29, (.int .i64 ((2 : Nat) : Int))]) rfl ⟨v29, (by rw [(lf_bad2 hq hno).2]; rfl), hE29, (by rw [(lf_bad2 hq hno).1]; exact (hO29.up o2).low hE5.size)⟩
    ·
      refine lw_skip (e := 22) (c := true) rfl rfl rfl rfl ?_
      refine lw_skip (e := 22) (c := true) rfl rfl rfl rfl ?_
      refine lw_skip (e := 22) (c := true) rfl rfl rfl rfl ?_
      refine q_pick true (.bool true) rfl rfl up_none ?_
      refine lw_nil ?_
      refine c_cond_t rfl ?_
      refine wp_seq ?_
      refine wp_plain _ [3, 0, 0] rfl ?_
      refine r_nil (owL rI 2) o1 u22 ti29 up_none ?_
      intro v30 w30 hX30 hz30 hO30
      have hzs30 : w3.heap.size ≤ w30.heap.size := hX30.size
      have hE30 : Ext w w30 := hE3.trans hX30
      refine q_assign v30 rfl up_none ?_
      refine q_assign (.int .i64 ((2 : Nat) : Int)) rfl up_none ?_
      refine lw_nil ?_
      refine wp_ret ?_
      refine t_ret ?_
      have hq : sqB a = true := by simpa using ‹(!sqB a) = false›
      have hno : lfOk a s o = false := by unfold lfOk; rw [show (decide (s.length = a.length) && allN s) = false from by have h := ‹(!(decide (((s.length : Nat) : Int) = ((a.length : Nat) : Int)) && allN s)) = true›; rw [show decide (((s.length : Nat) : Int) = ((a.length : Nat) : Int)) = decide (s.length = a.length) from decide_eq_decide.2 (by omega)] at h; exact (Bool.not_eq_true' _).mp h]; simp
      exact post_ret [6, 7] rfl (.tuple #[v30, (.int .i64 ((2 : Nat) : Int))]) rfl ⟨v30, (by rw [(lf_bad2 hq hno).2]; rfl), hE30, (by rw [(lf_bad2 hq hno).1]; exact (hO30.up o2).low hE3.size)⟩
  ·
    refine c_cond_t (by first | rfl | (show Value.bool _ = _; rw [hb2])) ?_
    refine wp_seq ?_
    refine wp_plain _ [3, 0, 0] rfl ?_
    refine r_nil (owL rI 2) o1 u22 ti29 up_none ?_
    intro v31 w31 hX31 hz31 hO31
    have hzs31 : w1.heap.size ≤ w31.heap.size := hX31.size
    have hE31 : Ext w w31 := hE1.trans hX31
    refine q_assign v31 rfl up_none ?_
    refine q_assign (.int .i64 ((1 : Nat) : Int)) rfl up_none ?_
    refine lw_nil ?_
    refine wp_ret ?_
    refine t_ret ?_
    have hq : sqB a = false := by simpa using ‹(!sqB a) = true›
    exact post_ret [6, 7] rfl (.tuple #[v31, (.int .i64 ((1 : Nat) : Int))]) rfl ⟨v31, (by rw [(lf_bad1 hq).2]; rfl), hE31, (by rw [(lf_bad1 hq).1]; exact (hO31.up o2).low hE1.size)⟩
end Go.Proofs.Ytjgnlnlngcjfcaa
