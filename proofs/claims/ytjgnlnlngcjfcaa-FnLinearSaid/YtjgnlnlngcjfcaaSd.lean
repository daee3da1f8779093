/- Contracts of functions: each says what the function returns for all arguments that meet its premises. Printed by gen.py. -/
import Derived.Test.YtjgnlnlngcjfcaaMb
import Derived.Test.YtjgnlnlngcjfcaaT
import Derived.Test.YtjgnlnlngcjfcaaSa
import Derived.Test.YtjgnlnlngcjfcaaSb
import Derived.Test.YtjgnlnlngcjfcaaSc
import Derived.Test.YtjgnlnlngcjfcaaProg
namespace Go.Proofs.Ytjgnlnlngcjfcaa
open Go Go.RowKit
set_option linter.unusedVariables false
set_option linter.unusedSimpArgs false
attribute [local irreducible] LW
/- impl.determinant -/
theorem det_step {n c : Nat} {M : List (List Int)} {det R : Int} (h : detF n (n - c) c M det = R) (hc : c < n) (hp : piv n c M ≠ n) :
    detF n (n - (c + 1)) (c + 1) (elim c ((swapL M c (piv n c M) []).getD c []) (inv (((swapL M c (piv n c M) []).getD c []).getD c 0)) (n - (c + 1)) (swapL M c (piv n c M) [])) (md ((if piv n c M ≠ c then md (-det) else det) * ((swapL M c (piv n c M) []).getD c []).getD c 0)) = R := by
  rw [← h, show n - c = (n - (c + 1)) + 1 from by omega]
  conv => rhs; unfold detF
  rw [if_neg hp]
theorem det_zero {n c : Nat} {M : List (List Int)} {det R : Int} (h : detF n (n - c) c M det = R) (hc : c < n) (hp : piv n c M = n) : (0 : Int) = R := by
  rw [← h]
  obtain ⟨m, hm⟩ : ∃ m, n - c = m + 1 := ⟨n - c - 1, by omega⟩
  rw [hm]
  unfold detF
  rw [if_pos hp]
theorem det_end {n c : Nat} {M : List (List Int)} {det R : Int} (h : detF n (n - c) c M det = R) (hc : n ≤ c) : det = R := by
  rw [← h, show n - c = 0 from by omega]; rfl
theorem elim_row {n c j : Nat} {M1 M2 : List (List Int)} (h1 : Sq n M1) (hM : M2 = elim c (M1.getD c []) (inv ((M1.getD c []).getD c 0)) j M1) (hj : c + 1 + j < n) :
    M2.set (c + 1 + j) (tkr (M2.getD (c + 1 + j) []) (M2.getD c []) (md ((M2.getD (c + 1 + j) []).getD c 0 * inv ((M1.getD c []).getD c 0)))) = elim c (M1.getD c []) (inv ((M1.getD c []).getD c 0)) (j + 1) M1 := by
  have e : M2.getD c [] = M1.getD c [] := by rw [hM]; exact elim_at h1 [] (Nat.le_refl _) j (by omega)
  rw [e]
  subst hM
  rfl
theorem sgn_eq (det : Int) (h : 0 ≤ det ∧ det < 1000003) : md (((0 : Nat) : Int) - det) = md (-det) := by
  congr 1; omega
theorem el_at {n c j : Nat} {M1 M2 : List (List Int)} (h1 : Sq n M1) (hM : M2 = elim c (M1.getD c []) (inv ((M1.getD c []).getD c 0)) j M1) (hj : c + 1 + j ≤ n) : M2.getD c [] = M1.getD c [] := by
  rw [hM]; exact elim_at h1 [] (Nat.le_refl _) j hj

set_option maxHeartbeats 4000000 in
set_option maxRecDepth 100000 in
theorem c_impl_determinant (w : World) (va : Value) (a : List (List Int)) (ha : Rd (rdL (rdL rI)) w.heap va a) (hS : Sq a.length a) (h6 : a.length ≤ 6) :
    Calls Try.prog 55 #[va] w (fun e w' => e = .returned (.int .i64 (detM a)) ∧ Ext w w') := by
  refine calls_mk [va] 134 Try.func55 rfl rfl (by simp) ?_
  have hE0 : Ext w w := Ext.refl w
  have hl_va := ha.lenle
  refine wp_seq ?_
  refine wp_plain _ [0] rfl ?_
  refine q_assign (.int .i64 ((0 : Nat) : Int)) rfl up_none ?_
  refine lw_nil ?_
  refine wp_seq ?_
  refine wp_plain _ [0, 0, 3, 0, 0, 0] rfl ?_
  refine q_move va rfl up_none ?_
  refine q_len (v := va) u22 rfl ha.isSl up_none ?_
  refine r_nil (owL rI 2) o1 u22 ti29 up_none ?_
  intro v1 w1 hX1 hz1 hO1
  have hzs1 : w.heap.size ≤ w1.heap.size := hX1.size
  have hE1 : Ext w w1 := hE0.trans hX1
  refine q_assign (.int .i64 ((a.length : Nat) : Int)) rfl up_none ?_
  refine q_assign v1 rfl up_none ?_
  refine q_assign (.int .i64 ((1 : Nat) : Int)) rfl up_none ?_
  refine lw_nil ?_
  refine wp_seq ?_
  refine wp_seq ?_
  refine wp_plain _ [0, 0, 0] rfl ?_
  refine q_move va rfl up_none ?_
  refine q_len (v := va) u22 rfl ha.isSl up_none ?_
  refine q_move (.int .i64 ((0 : Nat) : Int)) rfl up_none ?_
  refine lw_nil ?_
  refine wp_block ?_
  refine c_loop (S := Nat × Value) (fun (⟨k, vo⟩ : Nat × Value) => ([(4, vo), (19, (.int .i64 ((k : Nat) : Int))), (3, (.int .i64 ((a.length : Nat) : Int))), (5, (.int .i64 ((1 : Nat) : Int))), (17, va), (18, (.int .i64 ((a.length : Nat) : Int)))] : List (Nat × Value))) (fun (⟨k, vo⟩ : Nat × Value) (W : World) => Ext w W ∧ Fr (owL (owL rI 2) 29) w.heap.size W.heap.size W.heap vo (a.take k) ∧ k ≤ a.length) (fun (⟨k, vo⟩ : Nat × Value) => a.length - k) (0, v1) ⟨rfl, rfl, rfl, rfl, rfl, rfl, trivial⟩ ⟨hE1, hO1.up o2, (by first | omega | assumption | (simp only [List.length_nil, List.length_cons, List.length_append, List.length_set, List.length_replicate]; omega) | (simp [List.length_nil, List.length_cons, List.length_append, List.length_set, List.length_replicate]; done) | (simp [List.length_nil, List.length_cons, List.length_append, List.length_set, List.length_replicate]; omega))⟩ ?_
  clear hE0 hO1 hz1 hX1 hzs1 hE1
  rintro ⟨k, vo⟩ ρ2 w2 ⟨hE2, hL2_0, hp2_0⟩
  have hzs2 : w.heap.size ≤ w2.heap.size := hE2.size
  refine wp_seq ?_
  refine wp_plain _ [0] rfl ?_
  by_cases hc3 : ((k : Nat) : Int) < ((a.length : Nat) : Int)
  ·
    refine q_lss true rfl rfl (decide_eq_true hc3) up_none ?_
    refine lw_nil ?_
    refine wp_seq ?_
    refine c_cond_t rfl ?_
    refine wp_skip ?_
    refine wp_seq ?_
    refine wp_block ?_
    refine wp_seq ?_
    refine wp_plain _ [0, 2, 0] rfl ?_
    refine q_idx (v := va) k u22 ti29 rfl rfl ha.isSl rfl (by first | omega | assumption | (simp only [List.length_nil, List.length_cons, List.length_append, List.length_set, List.length_replicate]; omega) | (simp [List.length_nil, List.length_cons, List.length_append, List.length_set, List.length_replicate]; done) | (simp [List.length_nil, List.length_cons, List.length_append, List.length_set, List.length_replicate]; omega)) up_none ?_
    obtain ⟨ue4, hl4, hd4⟩ := ha.get (k := k) [] (by first | omega | assumption | (simp only [List.length_nil, List.length_cons, List.length_append, List.length_set, List.length_replicate]; omega) | (simp [List.length_nil, List.length_cons, List.length_append, List.length_set, List.length_replicate]; done) | (simp [List.length_nil, List.length_cons, List.length_append, List.length_set, List.length_replicate]; omega))
    have hln4 := hd4.lenle
    refine q_load (p := eptr va k 1) (.inr rfl) ue4 one29 rfl (ldH_ext hE2 hl4) up_none ?_
    refine q_assign ue4 rfl up_none ?_
    refine lw_nil ?_
    refine wp_plain _ [0, 0, 3, 3, 4, 0] rfl ?_
    refine q_move vo rfl up_none ?_
    refine q_move ue4 rfl up_none ?_
    refine lw_call 65 [] [] [ue4] rfl rfl cf65 up_none (c_slices_Clone___int64_int64_ _ _ _ (hd4.ext g1 hE2) (by have := hS.row k (by omega); omega)) ?_
    rintro e5 w5 ⟨v5_0, rfl, hX5, hO5_0⟩
    refine ⟨_, rfl, hX5, ?_⟩
    have hzs5 : w2.heap.size ≤ w5.heap.size := hX5.size
    have hE5 : Ext w w5 := hE2.trans hX5
    have hL2_0x5 := hL2_0.ext (o2) hX5
    refine r_one (u := v5_0) (B := w2.heap.size) o1 u22 ti29 rfl rfl hO5_0 (by first | exact Nat.le_refl _ | omega) up_none ?_
    intro v6 w6 hX6 hz6 hO6
    have hzs6 : w5.heap.size ≤ w6.heap.size := hX6.size
    have hE6 : Ext w w6 := hE5.trans hX6
    have hL2_0x6 := hL2_0x5.ext (o2) hX6
    refine e_appF o1 (v := vo) (a := v6) u22 ti29 rfl rfl rfl hL2_0x6 hE6.size hO6 (by omega) hE2.size (by first | omega | assumption | (simp only [List.length_nil, List.length_cons, List.length_append, List.length_set, List.length_replicate]; omega) | (simp [List.length_nil, List.length_cons, List.length_append, List.length_set, List.length_replicate]; done) | (simp [List.length_nil, List.length_cons, List.length_append, List.length_set, List.length_replicate]; omega)) (by unfold maxLen; first | omega | assumption | (simp only [List.length_nil, List.length_cons, List.length_append, List.length_set, List.length_replicate]; omega) | (simp [List.length_nil, List.length_cons, List.length_append, List.length_set, List.length_replicate]; done) | (simp [List.length_nil, List.length_cons, List.length_append, List.length_set, List.length_replicate]; omega)) up_none ?_
    intro v7 w7 F7 hC7 hF7 hO7
    have hE7 : Ext w w7 := hC7.below hE6 (fun c hc => Nat.le_trans (Nat.le_refl _) (hF7 c hc).1) hE6.size
    have hzs7 : w6.heap.size ≤ w7.heap.size := hC7.size
    refine q_assign v7 rfl up_none ?_
    refine lw_nil ?_
    refine wp_plain _ [0, 0] rfl ?_
    refine q_add ((k + 1 : Nat) : Int) rfl rfl (w64n (by omega) (by first | omega | assumption | (simp only [List.length_nil, List.length_cons, List.length_append, List.length_set, List.length_replicate]; omega) | (simp [List.length_nil, List.length_cons, List.length_append, List.length_set, List.length_replicate]; done) | (simp [List.length_nil, List.length_cons, List.length_append, List.length_set, List.length_replicate]; omega))) up_none ?_
    refine q_move (.int .i64 ((k + 1 : Nat) : Int)) rfl up_none ?_
    refine lw_nil ?_
    exact ⟨((k + 1), v7), _, rfl, ⟨rfl, rfl, rfl, rfl, rfl, rfl, trivial⟩, ⟨hE7, (by rw [take_snoc [] (by omega)]; exact hO7.up o2), (by first | omega | assumption | (simp only [List.length_nil, List.length_cons, List.length_append, List.length_set, List.length_replicate]; omega) | (simp [List.length_nil, List.length_cons, List.length_append, List.length_set, List.length_replicate]; done) | (simp [List.length_nil, List.length_cons, List.length_append, List.length_set, List.length_replicate]; omega))⟩, by first | omega | (dsimp only; omega)⟩
  ·
    refine q_lss false rfl rfl (decide_eq_false hc3) up_none ?_
    refine lw_nil ?_
    refine wp_seq ?_
    refine c_cond_f rfl ?_
    refine wp_exit ?_
    refine t_exit ?_
    refine t_exit ?_
    refine c_exit_here ?_
    refine wp_seq ?_
    refine wp_seq ?_
    refine wp_plain _ [0, 0] rfl ?_
    refine q_move (.int .i64 ((a.length : Nat) : Int)) rfl up_none ?_
    refine q_move (.int .i64 ((0 : Nat) : Int)) rfl up_none ?_
    refine lw_nil ?_
    refine wp_block ?_
    refine c_loop (S := Nat × List (List Int) × Int) (fun (⟨c, M, det⟩ : Nat × List (List Int) × Int) => ([(5, (.int .i64 det)), (30, (.int .i64 ((c : Nat) : Int))), (3, (.int .i64 ((a.length : Nat) : Int))), (4, vo), (29, (.int .i64 ((a.length : Nat) : Int)))] : List (Nat × Value))) (fun (⟨c, M, det⟩ : Nat × List (List Int) × Int) (W : World) => Ext w W ∧ Fr (owL (owL rI 2) 29) w.heap.size W.heap.size W.heap vo M ∧ c ≤ a.length ∧ Sq a.length M ∧ (0 ≤ det ∧ det < 1000003) ∧ Hid (detF a.length (a.length - c) c M det = detM a)) (fun (⟨c, M, det⟩ : Nat × List (List Int) × Int) => a.length - c) (0, a, ((1 : Nat) : Int)) ⟨rfl, rfl, rfl, rfl, rfl, trivial⟩ ⟨hE2, (by have h := hL2_0.up o2; rwa [List.take_of_length_le (by omega)] at h), (by first | omega | assumption | (simp only [List.length_nil, List.length_cons, List.length_append, List.length_set, List.length_replicate]; omega) | (simp [List.length_nil, List.length_cons, List.length_append, List.length_set, List.length_replicate]; done) | (simp [List.length_nil, List.length_cons, List.length_append, List.length_set, List.length_replicate]; omega)), (by exact hS), (by omega), (by exact hidI rfl)⟩ ?_
    clear hL2_0 hE2 hzs2
    rintro ⟨c, M, det⟩ ρ8 w8 ⟨hE8, hL8_0, hp8_0, hSM, hdet, hdF⟩
    have hzs8 : w.heap.size ≤ w8.heap.size := hE8.size
    have hlM := hSM.len
    refine wp_seq ?_
    refine wp_plain _ [0] rfl ?_
    by_cases hc9 : ((c : Nat) : Int) < ((a.length : Nat) : Int)
    ·
      refine q_lss true rfl rfl (decide_eq_true hc9) up_none ?_
      refine lw_nil ?_
      refine wp_seq ?_
      refine c_cond_t rfl ?_
      refine wp_skip ?_
      refine wp_seq ?_
      refine wp_block ?_
      refine wp_seq ?_
      refine wp_plain _ [0, 0] rfl ?_
      refine q_move (.int .i64 ((c : Nat) : Int)) rfl up_none ?_
      refine q_assign (.int .i64 ((c : Nat) : Int)) rfl up_none ?_
      refine lw_nil ?_
      refine wp_seq ?_
      refine wp_plain _ [0, 0] rfl ?_
      refine q_move (.int .i64 ((c : Nat) : Int)) rfl up_none ?_
      refine q_assign (.int .i64 ((c : Nat) : Int)) rfl up_none ?_
      refine lw_nil ?_
      refine wp_seq (c_cut (S := Nat) (fun (p : Nat) => ([(9, (.int .i64 ((p : Nat) : Int))), (3, (.int .i64 ((a.length : Nat) : Int))), (4, vo), (5, (.int .i64 det)), (8, (.int .i64 ((c : Nat) : Int))), (29, (.int .i64 ((a.length : Nat) : Int))), (30, (.int .i64 ((c : Nat) : Int)))] : List (Nat × Value))) (fun (p : Nat) (W : World) => Ext w W ∧ Fr (owL (owL rI 2) 29) w.heap.size w8.heap.size W.heap vo M ∧ c ≤ p ∧ p ≤ a.length ∧ Hid (p = piv a.length c M)) ?_ ?_)
      ·
        refine wp_block ?_
        refine c_loop (S := Nat) (fun (p : Nat) => ([(9, (.int .i64 ((p : Nat) : Int))), (3, (.int .i64 ((a.length : Nat) : Int))), (4, vo), (5, (.int .i64 det)), (8, (.int .i64 ((c : Nat) : Int))), (29, (.int .i64 ((a.length : Nat) : Int))), (30, (.int .i64 ((c : Nat) : Int)))] : List (Nat × Value))) (fun (p : Nat) (W : World) => Ext w W ∧ Fr (owL (owL rI 2) 29) w.heap.size w8.heap.size W.heap vo M ∧ c ≤ p ∧ p ≤ a.length ∧ Hid (pvt (fun r => decide ((M.getD r []).getD c 0 = 0)) (a.length - p) p = piv a.length c M)) (fun (p : Nat) => a.length - p) c ⟨rfl, rfl, rfl, rfl, rfl, rfl, rfl, trivial⟩ ⟨hE8, hL8_0, (by first | omega | assumption | (simp only [List.length_nil, List.length_cons, List.length_append, List.length_set, List.length_replicate]; omega) | (simp [List.length_nil, List.length_cons, List.length_append, List.length_set, List.length_replicate]; done) | (simp [List.length_nil, List.length_cons, List.length_append, List.length_set, List.length_replicate]; omega)), (by first | omega | assumption | (simp only [List.length_nil, List.length_cons, List.length_append, List.length_set, List.length_replicate]; omega) | (simp [List.length_nil, List.length_cons, List.length_append, List.length_set, List.length_replicate]; done) | (simp [List.length_nil, List.length_cons, List.length_append, List.length_set, List.length_replicate]; omega)), (by exact hidI rfl)⟩ ?_
        clear hL8_0
        rintro p ρ11 w11 ⟨hE11, hL11_0, hp11_0, hp11_1, hpv⟩
        have hzs11 : w.heap.size ≤ w11.heap.size := hE11.size
        refine wp_seq ?_
        refine wp_seq ?_
        refine wp_plain _ [0, 0, 0, 0, 0, 0, 0, 2, 0, 0, 2, 0, 0] rfl ?_
        refine q_move (.int .i64 ((p : Nat) : Int)) rfl up_none ?_
        refine q_move (.int .i64 ((a.length : Nat) : Int)) rfl up_none ?_
        by_cases hc12 : ((p : Nat) : Int) < ((a.length : Nat) : Int)
        ·
          refine q_lss true rfl rfl (decide_eq_true hc12) up_none ?_
          refine q_move (.bool true) rfl up_none ?_
          refine q_move vo rfl (up_some (e := 37) rfl rfl rfl) ?_
          refine q_move (.int .i64 ((p : Nat) : Int)) rfl (up_some (e := 37) rfl rfl rfl) ?_
          refine q_idx (v := vo) p u22 ti29 rfl rfl hL11_0.isSl rfl (by first | omega | assumption | (simp only [List.length_nil, List.length_cons, List.length_append, List.length_set, List.length_replicate]; omega) | (simp [List.length_nil, List.length_cons, List.length_append, List.length_set, List.length_replicate]; done) | (simp [List.length_nil, List.length_cons, List.length_append, List.length_set, List.length_replicate]; omega)) (up_some (e := 37) rfl rfl rfl) ?_
          obtain ⟨ue13, hl13, hd13⟩ := hL11_0.rd2.get (k := p) [] (by first | omega | assumption | (simp only [List.length_nil, List.length_cons, List.length_append, List.length_set, List.length_replicate]; omega) | (simp [List.length_nil, List.length_cons, List.length_append, List.length_set, List.length_replicate]; done) | (simp [List.length_nil, List.length_cons, List.length_append, List.length_set, List.length_replicate]; omega))
          have hln13 := hd13.lenle
          refine q_load (p := eptr vo p 1) (.inr rfl) ue13 one29 rfl hl13 (up_some (e := 37) rfl rfl rfl) ?_
          refine q_move (.int .i64 ((c : Nat) : Int)) rfl (up_some (e := 37) rfl rfl rfl) ?_
          have hrp := hSM.row p (by omega)
          refine q_idx (v := ue13) c u29 ti2 rfl rfl hd13.isSl rfl (by first | omega | assumption | (simp only [List.length_nil, List.length_cons, List.length_append, List.length_set, List.length_replicate]; omega) | (simp [List.length_nil, List.length_cons, List.length_append, List.length_set, List.length_replicate]; done) | (simp [List.length_nil, List.length_cons, List.length_append, List.length_set, List.length_replicate]; omega)) (up_some (e := 37) rfl rfl rfl) ?_
          refine q_load (p := eptr ue13 c 1) (.inr rfl) (.int .i64 ((M.getD p []).getD c 0)) one2 rfl (hd13.getI (by first | omega | assumption | (simp only [List.length_nil, List.length_cons, List.length_append, List.length_set, List.length_replicate]; omega) | (simp [List.length_nil, List.length_cons, List.length_append, List.length_set, List.length_replicate]; done) | (simp [List.length_nil, List.length_cons, List.length_append, List.length_set, List.length_replicate]; omega))).1 (up_some (e := 37) rfl rfl rfl) ?_
          by_cases hc14 : (M.getD p []).getD c 0 = ((0 : Nat) : Int)
          ·
            refine q_eql true rfl rfl (decide_eq_true hc14) (up_some (e := 37) rfl rfl rfl) ?_
            refine q_pick true (.bool true) rfl rfl up_none ?_
            refine lw_nil ?_
            refine c_cond_t rfl ?_
            refine wp_skip ?_
            refine wp_block ?_
            refine wp_plain _ [0, 0, 0] rfl ?_
            refine q_move (.int .i64 ((p : Nat) : Int)) rfl up_none ?_
            refine q_add ((p + 1 : Nat) : Int) rfl rfl (w64n (by omega) (by first | omega | assumption | (simp only [List.length_nil, List.length_cons, List.length_append, List.length_set, List.length_replicate]; omega) | (simp [List.length_nil, List.length_cons, List.length_append, List.length_set, List.length_replicate]; done) | (simp [List.length_nil, List.length_cons, List.length_append, List.length_set, List.length_replicate]; omega))) up_none ?_
            refine q_assign (.int .i64 ((p + 1 : Nat) : Int)) rfl up_none ?_
            refine lw_nil ?_
            exact ⟨(p + 1), _, rfl, ⟨rfl, rfl, rfl, rfl, rfl, rfl, rfl, trivial⟩, ⟨hE11, hL11_0, (by first | omega | assumption | (simp only [List.length_nil, List.length_cons, List.length_append, List.length_set, List.length_replicate]; omega) | (simp [List.length_nil, List.length_cons, List.length_append, List.length_set, List.length_replicate]; done) | (simp [List.length_nil, List.length_cons, List.length_append, List.length_set, List.length_replicate]; omega)), (by first | omega | assumption | (simp only [List.length_nil, List.length_cons, List.length_append, List.length_set, List.length_replicate]; omega) | (simp [List.length_nil, List.length_cons, List.length_append, List.length_set, List.length_replicate]; done) | (simp [List.length_nil, List.length_cons, List.length_append, List.length_set, List.length_replicate]; omega)), (by exact hidI (by rw [← hpv.out, pvt_step (f := (fun r => decide ((M.getD r []).getD c 0 = 0))) (n := a.length) (p := p) (by omega) (decide_eq_true ‹(M.getD p []).getD c 0 = ((0 : Nat) : Int)›)]))⟩, by first | omega | (dsimp only; omega)⟩
          ·
            refine q_eql false rfl rfl (decide_eq_false hc14) (up_some (e := 37) rfl rfl rfl) ?_
            refine q_pick true (.bool false) rfl rfl up_none ?_
            refine lw_nil ?_
            refine c_cond_f rfl ?_
            refine wp_exit ?_
            refine t_exit ?_
            refine t_exit ?_
            refine c_exit_here ?_
            exact ⟨p, _, rfl, ⟨rfl, rfl, rfl, rfl, rfl, rfl, rfl, trivial⟩, ⟨hE11, hL11_0, (by first | omega | assumption | (simp only [List.length_nil, List.length_cons, List.length_append, List.length_set, List.length_replicate]; omega) | (simp [List.length_nil, List.length_cons, List.length_append, List.length_set, List.length_replicate]; done) | (simp [List.length_nil, List.length_cons, List.length_append, List.length_set, List.length_replicate]; omega)), (by first | omega | assumption | (simp only [List.length_nil, List.length_cons, List.length_append, List.length_set, List.length_replicate]; omega) | (simp [List.length_nil, List.length_cons, List.length_append, List.length_set, List.length_replicate]; done) | (simp [List.length_nil, List.length_cons, List.length_append, List.length_set, List.length_replicate]; omega)), (by first | exact hidI (by rw [← hpv.out]; exact (pvt_out (by omega)).symm) | exact hidI (by rw [← hpv.out]; exact (pvt_here (decide_eq_false ‹¬ (M.getD p []).getD c 0 = ((0 : Nat) : Int)›)).symm))⟩⟩
        ·
          refine q_lss false rfl rfl (decide_eq_false hc12) up_none ?_
          refine q_move (.bool false) rfl up_none ?_
          refine lw_skip (e := 37) (c := false) rfl rfl rfl rfl ?_
          refine lw_skip (e := 37) (c := false) rfl rfl rfl rfl ?_
          refine lw_skip (e := 37) (c := false) rfl rfl rfl rfl ?_
          refine lw_skip (e := 37) (c := false) rfl rfl rfl rfl ?_
          refine lw_skip (e := 37) (c := false) rfl rfl rfl rfl ?_
          refine lw_skip (e := 37) (c := false) rfl rfl rfl rfl ?_
          refine lw_skip (e := 37) (c := false) rfl rfl rfl rfl ?_
          refine lw_skip (e := 37) (c := false) rfl rfl rfl rfl ?_
          refine q_pick false (.bool false) rfl rfl up_none ?_
          refine lw_nil ?_
          refine c_cond_f rfl ?_
          refine wp_exit ?_
          refine t_exit ?_
          refine t_exit ?_
          refine c_exit_here ?_
          exact ⟨p, _, rfl, ⟨rfl, rfl, rfl, rfl, rfl, rfl, rfl, trivial⟩, ⟨hE11, hL11_0, (by first | omega | assumption | (simp only [List.length_nil, List.length_cons, List.length_append, List.length_set, List.length_replicate]; omega) | (simp [List.length_nil, List.length_cons, List.length_append, List.length_set, List.length_replicate]; done) | (simp [List.length_nil, List.length_cons, List.length_append, List.length_set, List.length_replicate]; omega)), (by first | omega | assumption | (simp only [List.length_nil, List.length_cons, List.length_append, List.length_set, List.length_replicate]; omega) | (simp [List.length_nil, List.length_cons, List.length_append, List.length_set, List.length_replicate]; done) | (simp [List.length_nil, List.length_cons, List.length_append, List.length_set, List.length_replicate]; omega)), (by first | exact hidI (by rw [← hpv.out]; exact (pvt_out (by omega)).symm) | exact hidI (by rw [← hpv.out]; exact (pvt_here (decide_eq_false ‹¬ (M.getD p []).getD c 0 = ((0 : Nat) : Int)›)).symm))⟩⟩
      ·
        clear hL8_0
        rintro p ρ10 w10 ⟨hE10, hL10_0, hp10_0, hp10_1, hpe⟩
        have hzs10 : w.heap.size ≤ w10.heap.size := hE10.size
        refine wp_seq ?_
        refine wp_seq ?_
        refine wp_plain _ [0, 0, 0] rfl ?_
        refine q_move (.int .i64 ((p : Nat) : Int)) rfl up_none ?_
        refine q_move (.int .i64 ((a.length : Nat) : Int)) rfl up_none ?_
        by_cases hc15 : ((p : Nat) : Int) = ((a.length : Nat) : Int)
        ·
          refine q_eql true rfl rfl (decide_eq_true hc15) up_none ?_
          refine lw_nil ?_
          refine c_cond_t rfl ?_
          refine wp_seq ?_
          refine wp_plain _ [0] rfl ?_
          refine q_assign (.int .i64 ((0 : Nat) : Int)) rfl up_none ?_
          refine lw_nil ?_
          refine wp_ret ?_
          refine t_ret ?_
          refine b_ret ?_
          refine t_ret ?_
          refine t_ret ?_
          refine b_ret ?_
          refine t_ret ?_
          exact post_ret [2] rfl (.int .i64 ((0 : Nat) : Int)) rfl ⟨(ret_int (det_zero hdF.out (by omega) (by have h9 := hpe.out; omega))), hE10⟩
        ·
          refine q_eql false rfl rfl (decide_eq_false hc15) up_none ?_
          refine lw_nil ?_
          refine c_cond_f rfl ?_
          refine wp_skip ?_
          refine wp_seq (c_cut (S := Int) (fun (d2 : Int) => ([(5, (.int .i64 d2)), (3, (.int .i64 ((a.length : Nat) : Int))), (4, vo), (8, (.int .i64 ((c : Nat) : Int))), (29, (.int .i64 ((a.length : Nat) : Int))), (30, (.int .i64 ((c : Nat) : Int)))] : List (Nat × Value))) (fun (d2 : Int) (W : World) => Ext w W ∧ Fr (owL (owL rI 2) 29) w.heap.size W.heap.size W.heap vo (swapL M c p []) ∧ Hid (d2 = (if p ≠ c then md (-det) else det)) ∧ (0 ≤ d2 ∧ d2 < 1000003)) ?_ ?_)
          ·
            refine wp_seq ?_
            refine wp_plain _ [0, 0, 0] rfl ?_
            refine q_move (.int .i64 ((p : Nat) : Int)) rfl up_none ?_
            refine q_move (.int .i64 ((c : Nat) : Int)) rfl up_none ?_
            by_cases hc17 : ((p : Nat) : Int) ≠ ((c : Nat) : Int)
            ·
              refine q_neq true rfl rfl (decide_eq_true hc17) up_none ?_
              refine lw_nil ?_
              refine c_cond_t rfl ?_
              refine wp_seq ?_
              refine wp_draw _ [0, 0, 0, 0, 0, 0, 0, 1, 0, 0, 0, 1, 0, 4, 0, 4] mixed (by kernel_rfl) ?_
              refine q_move vo rfl up_none ?_
              refine q_move (.int .i64 ((c : Nat) : Int)) rfl up_none ?_
              refine q_move vo rfl up_none ?_
              refine q_move (.int .i64 ((p : Nat) : Int)) rfl up_none ?_
              refine q_move vo rfl up_none ?_
              refine q_move (.int .i64 ((p : Nat) : Int)) rfl up_none ?_
              refine q_idx (v := vo) p u22 ti29 rfl rfl hL10_0.isSl rfl (by first | omega | assumption | (simp only [List.length_nil, List.length_cons, List.length_append, List.length_set, List.length_replicate]; omega) | (simp [List.length_nil, List.length_cons, List.length_append, List.length_set, List.length_replicate]; done) | (simp [List.length_nil, List.length_cons, List.length_append, List.length_set, List.length_replicate]; omega)) up_none ?_
              obtain ⟨ue18, hl18, hd18⟩ := hL10_0.rd2.get (k := p) [] (by first | omega | assumption | (simp only [List.length_nil, List.length_cons, List.length_append, List.length_set, List.length_replicate]; omega) | (simp [List.length_nil, List.length_cons, List.length_append, List.length_set, List.length_replicate]; done) | (simp [List.length_nil, List.length_cons, List.length_append, List.length_set, List.length_replicate]; omega))
              have hln18 := hd18.lenle
              refine q_load (p := eptr vo p 1) (.inl rfl) ue18 one29 rfl hl18 up_none ?_
              refine q_move vo rfl up_none ?_
              refine q_move (.int .i64 ((c : Nat) : Int)) rfl up_none ?_
              refine q_idx (v := vo) c u22 ti29 rfl rfl hL10_0.isSl rfl (by first | omega | assumption | (simp only [List.length_nil, List.length_cons, List.length_append, List.length_set, List.length_replicate]; omega) | (simp [List.length_nil, List.length_cons, List.length_append, List.length_set, List.length_replicate]; done) | (simp [List.length_nil, List.length_cons, List.length_append, List.length_set, List.length_replicate]; omega)) up_none ?_
              obtain ⟨ue19, hl19, hd19⟩ := hL10_0.rd2.get (k := c) [] (by first | omega | assumption | (simp only [List.length_nil, List.length_cons, List.length_append, List.length_set, List.length_replicate]; omega) | (simp [List.length_nil, List.length_cons, List.length_append, List.length_set, List.length_replicate]; done) | (simp [List.length_nil, List.length_cons, List.length_append, List.length_set, List.length_replicate]; omega))
              have hln19 := hd19.lenle
              refine q_load (p := eptr vo c 1) (.inl rfl) ue19 one29 rfl hl19 up_none ?_
              refine q_idx (v := vo) c u22 ti29 rfl rfl hL10_0.isSl rfl (by first | omega | assumption | (simp only [List.length_nil, List.length_cons, List.length_append, List.length_set, List.length_replicate]; omega) | (simp [List.length_nil, List.length_cons, List.length_append, List.length_set, List.length_replicate]; done) | (simp [List.length_nil, List.length_cons, List.length_append, List.length_set, List.length_replicate]; omega)) up_none ?_
              have hcx20 := isSl_cells hd18.isSl
              have hcy20 := isSl_cells hd19.isSl
              obtain ⟨us20, hOp20, hUl20, hUs20⟩ := hL10_0.opn o1 (by omega)
              obtain ⟨ua20, hua20, hub20⟩ := hUs20 p (by first | omega | assumption | (simp only [List.length_nil, List.length_cons, List.length_append, List.length_set, List.length_replicate]; omega) | (simp [List.length_nil, List.length_cons, List.length_append, List.length_set, List.length_replicate]; done) | (simp [List.length_nil, List.length_cons, List.length_append, List.length_set, List.length_replicate]; omega))
              obtain ⟨uc20, huc20, hud20⟩ := hUs20 c (by first | omega | assumption | (simp only [List.length_nil, List.length_cons, List.length_append, List.length_set, List.length_replicate]; omega) | (simp [List.length_nil, List.length_cons, List.length_append, List.length_set, List.length_replicate]; done) | (simp [List.length_nil, List.length_cons, List.length_append, List.length_set, List.length_replicate]; omega))
              have hga20 := opn_get hua20 hub20 hl18
              have hgc20 := opn_get huc20 hud20 hl19
              refine e_setV o1 (v := vo) (u := ue18) (w := w10.drew) sz29 rfl rfl hOp20 hcx20 (by rw [hUl20]; exact (by first | omega | assumption | (simp only [List.length_nil, List.length_cons, List.length_append, List.length_set, List.length_replicate]; omega) | (simp [List.length_nil, List.length_cons, List.length_append, List.length_set, List.length_replicate]; done) | (simp [List.length_nil, List.length_cons, List.length_append, List.length_set, List.length_replicate]; omega))) up_none ?_
              intro w20 F20 hC20 hz20 hF20 hO20
              replace hC20 := hC20.of_drew
              have hE20 : Ext w w20 := hC20.below hE10 (fun c hc => Nat.le_trans (Nat.le_refl _) (hF20 c hc).1) hE10.size
              have hzs20 : w10.heap.size ≤ w20.heap.size := hC20.size
              refine q_idx (v := vo) p u22 ti29 rfl rfl hL10_0.isSl rfl (by first | omega | assumption | (simp only [List.length_nil, List.length_cons, List.length_append, List.length_set, List.length_replicate]; omega) | (simp [List.length_nil, List.length_cons, List.length_append, List.length_set, List.length_replicate]; done) | (simp [List.length_nil, List.length_cons, List.length_append, List.length_set, List.length_replicate]; omega)) up_none ?_
              refine e_setV o1 (v := vo) (u := ue19) (w := w20) sz29 rfl rfl hO20 hcy20 (by rw [List.length_set, hUl20]; exact (by first | omega | assumption | (simp only [List.length_nil, List.length_cons, List.length_append, List.length_set, List.length_replicate]; omega) | (simp [List.length_nil, List.length_cons, List.length_append, List.length_set, List.length_replicate]; done) | (simp [List.length_nil, List.length_cons, List.length_append, List.length_set, List.length_replicate]; omega))) up_none ?_
              intro w21 F21 hC21 hz21 hF21 hO21
              have hE21 : Ext w w21 := hC21.below hE20 (fun c hc => Nat.le_trans (Nat.le_refl _) (hF21 c hc).1) hE20.size
              have hzs21 : w20.heap.size ≤ w21.heap.size := hC21.size
              have hM21 := hO21.swap [] (i := c) (j := p) (by first | omega | assumption | (simp only [List.length_nil, List.length_cons, List.length_append, List.length_set, List.length_replicate]; omega) | (simp [List.length_nil, List.length_cons, List.length_append, List.length_set, List.length_replicate]; done) | (simp [List.length_nil, List.length_cons, List.length_append, List.length_set, List.length_replicate]; omega)) (by first | omega | assumption | (simp only [List.length_nil, List.length_cons, List.length_append, List.length_set, List.length_replicate]; omega) | (simp [List.length_nil, List.length_cons, List.length_append, List.length_set, List.length_replicate]; done) | (simp [List.length_nil, List.length_cons, List.length_append, List.length_set, List.length_replicate]; omega)) (by unfold swapL; rw [hga20, hgc20])
              refine lw_nil ?_
              refine wp_plain _ [0, 0, 0] rfl ?_
              refine q_move (.int .i64 det) rfl up_none ?_
              refine lw_callq 98 [] [] [(.int .i64 ((0 : Nat) : Int)), (.int .i64 det)] rfl rfl cf98 up_none (.int .i64 (md (((0 : Nat) : Int) - det))) (fun wq => c_impl_minus wq _ _ (by omega) (by omega)) ?_
              refine q_assign (.int .i64 (md (((0 : Nat) : Int) - det))) rfl up_none ?_
              refine lw_nil ?_
              exact ⟨(md (((0 : Nat) : Int) - det)), _, rfl, ⟨rfl, rfl, rfl, rfl, rfl, rfl, trivial⟩, ⟨hE21, (by first | exact hM21.up o2 | (rw [show p = c from by omega, swapL_self _ _ _ (by omega)]; exact hM21.up o2)), (by first | exact hidI (by rw [if_pos (by omega), sgn_eq det hdet]) | exact hidI (by rw [if_neg (by omega)])), (by first | exact md_num _ | exact hdet)⟩⟩
            ·
              refine q_neq false rfl rfl (decide_eq_false hc17) up_none ?_
              refine lw_nil ?_
              refine c_cond_f rfl ?_
              refine wp_skip ?_
              exact ⟨det, _, rfl, ⟨rfl, rfl, rfl, rfl, rfl, rfl, trivial⟩, ⟨hE10, (by first | exact hL10_0.up o2 | (rw [show p = c from by omega, swapL_self _ _ _ (by omega)]; exact hL10_0.up o2)), (by first | exact hidI (by rw [if_pos (by omega), sgn_eq det hdet]) | exact hidI (by rw [if_neg (by omega)])), (by first | exact md_num _ | exact hdet)⟩⟩
          ·
            clear hE8 hzs8 hL10_0 hE10 hzs10
            rintro d2 ρ16 w16 ⟨hE16, hL16_0, hd2, hd2r⟩
            have hzs16 : w.heap.size ≤ w16.heap.size := hE16.size
            refine wp_seq ?_
            refine wp_plain _ [0, 0, 0, 0, 2, 0, 0, 2, 0, 0] rfl ?_
            have hS1 : Sq a.length (swapL M c p []) := hSM.swap (by omega) (by omega)
            have hl1 := hS1.len
            have hr1 := hS1.row c (by omega)
            refine q_move (.int .i64 d2) rfl up_none ?_
            refine q_move vo rfl up_none ?_
            refine q_move (.int .i64 ((c : Nat) : Int)) rfl up_none ?_
            refine q_idx (v := vo) c u22 ti29 rfl rfl hL16_0.isSl rfl (by first | omega | assumption | (simp only [List.length_nil, List.length_cons, List.length_append, List.length_set, List.length_replicate]; omega) | (simp [List.length_nil, List.length_cons, List.length_append, List.length_set, List.length_replicate]; done) | (simp [List.length_nil, List.length_cons, List.length_append, List.length_set, List.length_replicate]; omega)) up_none ?_
            obtain ⟨ue23, hl23, hd23⟩ := hL16_0.rd2.get (k := c) [] (by first | omega | assumption | (simp only [List.length_nil, List.length_cons, List.length_append, List.length_set, List.length_replicate]; omega) | (simp [List.length_nil, List.length_cons, List.length_append, List.length_set, List.length_replicate]; done) | (simp [List.length_nil, List.length_cons, List.length_append, List.length_set, List.length_replicate]; omega))
            have hln23 := hd23.lenle
            refine q_load (p := eptr vo c 1) (.inr rfl) ue23 one29 rfl hl23 up_none ?_
            refine q_move (.int .i64 ((c : Nat) : Int)) rfl up_none ?_
            refine q_idx (v := ue23) c u29 ti2 rfl rfl hd23.isSl rfl (by first | omega | assumption | (simp only [List.length_nil, List.length_cons, List.length_append, List.length_set, List.length_replicate]; omega) | (simp [List.length_nil, List.length_cons, List.length_append, List.length_set, List.length_replicate]; done) | (simp [List.length_nil, List.length_cons, List.length_append, List.length_set, List.length_replicate]; omega)) up_none ?_
            refine q_load (p := eptr ue23 c 1) (.inr rfl) (.int .i64 (((swapL M c p []).getD c []).getD c 0)) one2 rfl (hd23.getI (by first | omega | assumption | (simp only [List.length_nil, List.length_cons, List.length_append, List.length_set, List.length_replicate]; omega) | (simp [List.length_nil, List.length_cons, List.length_append, List.length_set, List.length_replicate]; done) | (simp [List.length_nil, List.length_cons, List.length_append, List.length_set, List.length_replicate]; omega))).1 up_none ?_
            refine lw_callq 66 [] [] [(.int .i64 d2), (.int .i64 (((swapL M c p []).getD c []).getD c 0))] rfl rfl cf66 up_none (.int .i64 (md (d2 * (((swapL M c p []).getD c []).getD c 0)))) (fun wq => c_impl_Times wq _ _ (by omega) (hd23.getI (by first | omega | assumption | (simp only [List.length_nil, List.length_cons, List.length_append, List.length_set, List.length_replicate]; omega) | (simp [List.length_nil, List.length_cons, List.length_append, List.length_set, List.length_replicate]; done) | (simp [List.length_nil, List.length_cons, List.length_append, List.length_set, List.length_replicate]; omega))).2) ?_
            refine q_assign (.int .i64 (md (d2 * (((swapL M c p []).getD c []).getD c 0)))) rfl up_none ?_
            refine lw_nil ?_
            refine wp_seq ?_
            refine wp_plain _ [0, 0, 0, 2, 0, 0, 2, 0, 0] rfl ?_
            refine q_move vo rfl up_none ?_
            refine q_move (.int .i64 ((c : Nat) : Int)) rfl up_none ?_
            refine q_idx (v := vo) c u22 ti29 rfl rfl hL16_0.isSl rfl (by first | omega | assumption | (simp only [List.length_nil, List.length_cons, List.length_append, List.length_set, List.length_replicate]; omega) | (simp [List.length_nil, List.length_cons, List.length_append, List.length_set, List.length_replicate]; done) | (simp [List.length_nil, List.length_cons, List.length_append, List.length_set, List.length_replicate]; omega)) up_none ?_
            obtain ⟨ue25, hl25, hd25⟩ := hL16_0.rd2.get (k := c) [] (by first | omega | assumption | (simp only [List.length_nil, List.length_cons, List.length_append, List.length_set, List.length_replicate]; omega) | (simp [List.length_nil, List.length_cons, List.length_append, List.length_set, List.length_replicate]; done) | (simp [List.length_nil, List.length_cons, List.length_append, List.length_set, List.length_replicate]; omega))
            have hln25 := hd25.lenle
            refine q_load (p := eptr vo c 1) (.inr rfl) ue25 one29 rfl hl25 up_none ?_
            refine q_move (.int .i64 ((c : Nat) : Int)) rfl up_none ?_
            refine q_idx (v := ue25) c u29 ti2 rfl rfl hd25.isSl rfl (by first | omega | assumption | (simp only [List.length_nil, List.length_cons, List.length_append, List.length_set, List.length_replicate]; omega) | (simp [List.length_nil, List.length_cons, List.length_append, List.length_set, List.length_replicate]; done) | (simp [List.length_nil, List.length_cons, List.length_append, List.length_set, List.length_replicate]; omega)) up_none ?_
            refine q_load (p := eptr ue25 c 1) (.inr rfl) (.int .i64 (((swapL M c p []).getD c []).getD c 0)) one2 rfl (hd25.getI (by first | omega | assumption | (simp only [List.length_nil, List.length_cons, List.length_append, List.length_set, List.length_replicate]; omega) | (simp [List.length_nil, List.length_cons, List.length_append, List.length_set, List.length_replicate]; done) | (simp [List.length_nil, List.length_cons, List.length_append, List.length_set, List.length_replicate]; omega))).1 up_none ?_
            refine lw_callq 68 [] [] [(.int .i64 (((swapL M c p []).getD c []).getD c 0))] rfl rfl cf68 up_none (.int .i64 (inv (((swapL M c p []).getD c []).getD c 0))) (fun wq => c_impl_inverse wq _ (hd25.getI (by first | omega | assumption | (simp only [List.length_nil, List.length_cons, List.length_append, List.length_set, List.length_replicate]; omega) | (simp [List.length_nil, List.length_cons, List.length_append, List.length_set, List.length_replicate]; done) | (simp [List.length_nil, List.length_cons, List.length_append, List.length_set, List.length_replicate]; omega))).2) ?_
            refine q_assign (.int .i64 (inv (((swapL M c p []).getD c []).getD c 0))) rfl up_none ?_
            refine lw_nil ?_
            refine wp_seq ?_
            refine wp_plain _ [0, 0, 0] rfl ?_
            refine q_move (.int .i64 ((c : Nat) : Int)) rfl up_none ?_
            refine q_add ((c + 1 : Nat) : Int) rfl rfl (w64n (by omega) (by first | omega | assumption | (simp only [List.length_nil, List.length_cons, List.length_append, List.length_set, List.length_replicate]; omega) | (simp [List.length_nil, List.length_cons, List.length_append, List.length_set, List.length_replicate]; done) | (simp [List.length_nil, List.length_cons, List.length_append, List.length_set, List.length_replicate]; omega))) up_none ?_
            refine q_assign (.int .i64 ((c + 1 : Nat) : Int)) rfl up_none ?_
            refine lw_nil ?_
            refine wp_block ?_
            refine c_loop (S := Nat × List (List Int)) (fun (⟨j, M2⟩ : Nat × List (List Int)) => ([(11, (.int .i64 ((c + 1 + j : Nat) : Int))), (3, (.int .i64 ((a.length : Nat) : Int))), (4, vo), (5, (.int .i64 (md (d2 * (((swapL M c p []).getD c []).getD c 0))))), (8, (.int .i64 ((c : Nat) : Int))), (10, (.int .i64 (inv (((swapL M c p []).getD c []).getD c 0)))), (29, (.int .i64 ((a.length : Nat) : Int))), (30, (.int .i64 ((c : Nat) : Int)))] : List (Nat × Value))) (fun (⟨j, M2⟩ : Nat × List (List Int)) (W : World) => Ext w W ∧ Fr (owL (owL rI 2) 29) w.heap.size W.heap.size W.heap vo M2 ∧ c + 1 + j ≤ a.length ∧ Sq a.length M2 ∧ Hid (M2 = elim c ((swapL M c p []).getD c []) (inv (((swapL M c p []).getD c []).getD c 0)) j (swapL M c p []))) (fun (⟨j, M2⟩ : Nat × List (List Int)) => a.length - j) (0, (swapL M c p [])) ⟨rfl, rfl, rfl, rfl, rfl, rfl, rfl, rfl, trivial⟩ ⟨hE16, hL16_0.up o2, (by first | omega | assumption | (simp only [List.length_nil, List.length_cons, List.length_append, List.length_set, List.length_replicate]; omega) | (simp [List.length_nil, List.length_cons, List.length_append, List.length_set, List.length_replicate]; done) | (simp [List.length_nil, List.length_cons, List.length_append, List.length_set, List.length_replicate]; omega)), (by exact hS1), (by exact hidI rfl)⟩ ?_
            clear hL16_0 hE16 hzs16 hln23 hln25
            rintro ⟨j, M2⟩ ρ27 w27 ⟨hE27, hL27_0, hp27_0, hS2, hEl⟩
            have hzs27 : w.heap.size ≤ w27.heap.size := hE27.size
            have hl2 := hS2.len
            have hc2 := hS2.row c (by omega)
            have hr2 := hS2.row (c + 1 + j)
            refine wp_seq ?_
            refine wp_seq ?_
            refine wp_plain _ [0, 0, 0] rfl ?_
            refine q_move (.int .i64 ((c + 1 + j : Nat) : Int)) rfl up_none ?_
            refine q_move (.int .i64 ((a.length : Nat) : Int)) rfl up_none ?_
            by_cases hc28 : ((c + 1 + j : Nat) : Int) < ((a.length : Nat) : Int)
            ·
              refine q_lss true rfl rfl (decide_eq_true hc28) up_none ?_
              refine lw_nil ?_
              refine c_cond_t rfl ?_
              refine wp_skip ?_
              refine wp_seq ?_
              refine wp_block ?_
              refine wp_seq ?_
              refine wp_plain _ [0, 0, 0, 2, 0, 0, 2, 0, 0, 0] rfl ?_
              refine q_move vo rfl up_none ?_
              refine q_move (.int .i64 ((c + 1 + j : Nat) : Int)) rfl up_none ?_
              refine q_idx (v := vo) (c + 1 + j) u22 ti29 rfl rfl hL27_0.isSl rfl (by first | omega | assumption | (simp only [List.length_nil, List.length_cons, List.length_append, List.length_set, List.length_replicate]; omega) | (simp [List.length_nil, List.length_cons, List.length_append, List.length_set, List.length_replicate]; done) | (simp [List.length_nil, List.length_cons, List.length_append, List.length_set, List.length_replicate]; omega)) up_none ?_
              obtain ⟨ue29, hl29, hd29⟩ := hL27_0.rd2.get (k := c + 1 + j) [] (by first | omega | assumption | (simp only [List.length_nil, List.length_cons, List.length_append, List.length_set, List.length_replicate]; omega) | (simp [List.length_nil, List.length_cons, List.length_append, List.length_set, List.length_replicate]; done) | (simp [List.length_nil, List.length_cons, List.length_append, List.length_set, List.length_replicate]; omega))
              have hln29 := hd29.lenle
              refine q_load (p := eptr vo (c + 1 + j) 1) (.inr rfl) ue29 one29 rfl hl29 up_none ?_
              refine q_move (.int .i64 ((c : Nat) : Int)) rfl up_none ?_
              refine q_idx (v := ue29) c u29 ti2 rfl rfl hd29.isSl rfl (by first | omega | assumption | (simp only [List.length_nil, List.length_cons, List.length_append, List.length_set, List.length_replicate]; omega) | (simp [List.length_nil, List.length_cons, List.length_append, List.length_set, List.length_replicate]; done) | (simp [List.length_nil, List.length_cons, List.length_append, List.length_set, List.length_replicate]; omega)) up_none ?_
              refine q_load (p := eptr ue29 c 1) (.inr rfl) (.int .i64 ((M2.getD (c + 1 + j) []).getD c 0)) one2 rfl (hd29.getI (by first | omega | assumption | (simp only [List.length_nil, List.length_cons, List.length_append, List.length_set, List.length_replicate]; omega) | (simp [List.length_nil, List.length_cons, List.length_append, List.length_set, List.length_replicate]; done) | (simp [List.length_nil, List.length_cons, List.length_append, List.length_set, List.length_replicate]; omega))).1 up_none ?_
              refine q_move (.int .i64 (inv (((swapL M c p []).getD c []).getD c 0))) rfl up_none ?_
              refine lw_callq 66 [] [] [(.int .i64 ((M2.getD (c + 1 + j) []).getD c 0)), (.int .i64 (inv (((swapL M c p []).getD c []).getD c 0)))] rfl rfl cf66 up_none (.int .i64 (md (((M2.getD (c + 1 + j) []).getD c 0) * (inv (((swapL M c p []).getD c []).getD c 0))))) (fun wq => c_impl_Times wq _ _ (hd29.getI (by first | omega | assumption | (simp only [List.length_nil, List.length_cons, List.length_append, List.length_set, List.length_replicate]; omega) | (simp [List.length_nil, List.length_cons, List.length_append, List.length_set, List.length_replicate]; done) | (simp [List.length_nil, List.length_cons, List.length_append, List.length_set, List.length_replicate]; omega))).2 (inv_rng _)) ?_
              refine q_assign (.int .i64 (md (((M2.getD (c + 1 + j) []).getD c 0) * (inv (((swapL M c p []).getD c []).getD c 0))))) rfl up_none ?_
              refine lw_nil ?_
              refine wp_seq ?_
              refine wp_plain _ [0, 0] rfl ?_
              refine q_move (.int .i64 ((a.length : Nat) : Int)) rfl up_none ?_
              refine q_move (.int .i64 ((0 : Nat) : Int)) rfl up_none ?_
              refine lw_nil ?_
              refine wp_block ?_
              refine c_loop (S := Nat) (fun (k : Nat) => ([(105, (.int .i64 ((k : Nat) : Int))), (3, (.int .i64 ((a.length : Nat) : Int))), (4, vo), (5, (.int .i64 (md (d2 * (((swapL M c p []).getD c []).getD c 0))))), (8, (.int .i64 ((c : Nat) : Int))), (10, (.int .i64 (inv (((swapL M c p []).getD c []).getD c 0)))), (11, (.int .i64 ((c + 1 + j : Nat) : Int))), (12, (.int .i64 (md (((M2.getD (c + 1 + j) []).getD c 0) * (inv (((swapL M c p []).getD c []).getD c 0)))))), (29, (.int .i64 ((a.length : Nat) : Int))), (30, (.int .i64 ((c : Nat) : Int))), (104, (.int .i64 ((a.length : Nat) : Int)))] : List (Nat × Value))) (fun (k : Nat) (W : World) => Ext w W ∧ Fr (owL (owL rI 2) 29) w.heap.size W.heap.size W.heap vo (M2.set (c + 1 + j) (mix k (tkr (M2.getD (c + 1 + j) []) (M2.getD c []) (md ((M2.getD (c + 1 + j) []).getD c 0 * inv (((swapL M c p []).getD c []).getD c 0)))) (M2.getD (c + 1 + j) []))) ∧ k ≤ a.length) (fun (k : Nat) => a.length - k) 0 ⟨rfl, rfl, rfl, rfl, rfl, rfl, rfl, rfl, rfl, rfl, rfl, trivial⟩ ⟨hE27, (by rw [mix_zero, set_self_getD _ _ (by omega)]; exact hL27_0.up o2), (by first | omega | assumption | (simp only [List.length_nil, List.length_cons, List.length_append, List.length_set, List.length_replicate]; omega) | (simp [List.length_nil, List.length_cons, List.length_append, List.length_set, List.length_replicate]; done) | (simp [List.length_nil, List.length_cons, List.length_append, List.length_set, List.length_replicate]; omega))⟩ ?_
              clear hL27_0 hE27 hzs27 hln29
              rintro k ρ31 w31 ⟨hE31, hL31_0, hp31_0⟩
              have hzs31 : w.heap.size ≤ w31.heap.size := hE31.size
              obtain ⟨i1, i2, i3, i4, i5⟩ := inner_len (k := k) hS2 (r := c + 1 + j) (c := c) (by omega) (by omega) (by omega) (T := tkr (M2.getD (c + 1 + j) []) (M2.getD c []) (md ((M2.getD (c + 1 + j) []).getD c 0 * inv (((swapL M c p []).getD c []).getD c 0)))) (by rw [tkr_len]; exact hr2 (by omega))
              have i6 := i3
              rw [← i2] at i6
              have i7 := i5
              rw [← i4] at i7
              refine wp_seq ?_
              refine wp_plain _ [0] rfl ?_
              by_cases hc32 : ((k : Nat) : Int) < ((a.length : Nat) : Int)
              ·
                refine q_lss true rfl rfl (decide_eq_true hc32) up_none ?_
                refine lw_nil ?_
                refine wp_seq ?_
                refine c_cond_t rfl ?_
                refine wp_skip ?_
                refine wp_seq ?_
                refine wp_block ?_
                refine wp_seq ?_
                refine wp_plain _ [0, 0] rfl ?_
                refine q_move (.int .i64 ((k : Nat) : Int)) rfl up_none ?_
                refine q_assign (.int .i64 ((k : Nat) : Int)) rfl up_none ?_
                refine lw_nil ?_
                refine wp_draw _ [0, 0, 0, 1, 0, 0, 0, 0, 1, 0, 0, 1, 0, 0, 0, 0, 1, 0, 0, 1, 0, 0, 0, 4] mixed (by kernel_rfl) ?_
                refine q_move vo rfl up_none ?_
                refine q_move (.int .i64 ((c + 1 + j : Nat) : Int)) rfl up_none ?_
                refine q_idx (v := vo) (c + 1 + j) u22 ti29 rfl rfl hL31_0.isSl rfl (by first | omega | assumption | (simp only [List.length_nil, List.length_cons, List.length_append, List.length_set, List.length_replicate]; omega) | (simp [List.length_nil, List.length_cons, List.length_append, List.length_set, List.length_replicate]; done) | (simp [List.length_nil, List.length_cons, List.length_append, List.length_set, List.length_replicate]; omega)) up_none ?_
                obtain ⟨ue33, hl33, hd33⟩ := hL31_0.rd2.get (k := c + 1 + j) [] (by first | omega | assumption | (simp only [List.length_nil, List.length_cons, List.length_append, List.length_set, List.length_replicate]; omega) | (simp [List.length_nil, List.length_cons, List.length_append, List.length_set, List.length_replicate]; done) | (simp [List.length_nil, List.length_cons, List.length_append, List.length_set, List.length_replicate]; omega))
                have hln33 := hd33.lenle
                refine q_load (p := eptr vo (c + 1 + j) 1) (.inl rfl) ue33 one29 rfl hl33 up_none ?_
                refine q_move (.int .i64 ((k : Nat) : Int)) rfl up_none ?_
                refine q_move vo rfl up_none ?_
                refine q_move (.int .i64 ((c + 1 + j : Nat) : Int)) rfl up_none ?_
                refine q_idx (v := vo) (c + 1 + j) u22 ti29 rfl rfl hL31_0.isSl rfl (by first | omega | assumption | (simp only [List.length_nil, List.length_cons, List.length_append, List.length_set, List.length_replicate]; omega) | (simp [List.length_nil, List.length_cons, List.length_append, List.length_set, List.length_replicate]; done) | (simp [List.length_nil, List.length_cons, List.length_append, List.length_set, List.length_replicate]; omega)) up_none ?_
                obtain ⟨ue34, hl34, hd34⟩ := hL31_0.rd2.get (k := c + 1 + j) [] (by first | omega | assumption | (simp only [List.length_nil, List.length_cons, List.length_append, List.length_set, List.length_replicate]; omega) | (simp [List.length_nil, List.length_cons, List.length_append, List.length_set, List.length_replicate]; done) | (simp [List.length_nil, List.length_cons, List.length_append, List.length_set, List.length_replicate]; omega))
                have hln34 := hd34.lenle
                refine q_load (p := eptr vo (c + 1 + j) 1) (.inl rfl) ue34 one29 rfl hl34 up_none ?_
                refine q_move (.int .i64 ((k : Nat) : Int)) rfl up_none ?_
                refine q_idx (v := ue34) k u29 ti2 rfl rfl hd34.isSl rfl (by first | omega | assumption | (simp only [List.length_nil, List.length_cons, List.length_append, List.length_set, List.length_replicate]; omega) | (simp [List.length_nil, List.length_cons, List.length_append, List.length_set, List.length_replicate]; done) | (simp [List.length_nil, List.length_cons, List.length_append, List.length_set, List.length_replicate]; omega)) up_none ?_
                refine q_load (p := eptr ue34 k 1) (.inl rfl) (.int .i64 (((M2.set (c + 1 + j) (mix k (tkr (M2.getD (c + 1 + j) []) (M2.getD c []) (md ((M2.getD (c + 1 + j) []).getD c 0 * inv (((swapL M c p []).getD c []).getD c 0)))) (M2.getD (c + 1 + j) []))).getD (c + 1 + j) []).getD k 0)) one2 rfl (hd34.getI (by first | omega | assumption | (simp only [List.length_nil, List.length_cons, List.length_append, List.length_set, List.length_replicate]; omega) | (simp [List.length_nil, List.length_cons, List.length_append, List.length_set, List.length_replicate]; done) | (simp [List.length_nil, List.length_cons, List.length_append, List.length_set, List.length_replicate]; omega))).1 up_none ?_
                refine q_move (.int .i64 (md (((M2.getD (c + 1 + j) []).getD c 0) * (inv (((swapL M c p []).getD c []).getD c 0))))) rfl up_none ?_
                refine q_move vo rfl up_none ?_
                refine q_move (.int .i64 ((c : Nat) : Int)) rfl up_none ?_
                refine q_idx (v := vo) c u22 ti29 rfl rfl hL31_0.isSl rfl (by first | omega | assumption | (simp only [List.length_nil, List.length_cons, List.length_append, List.length_set, List.length_replicate]; omega) | (simp [List.length_nil, List.length_cons, List.length_append, List.length_set, List.length_replicate]; done) | (simp [List.length_nil, List.length_cons, List.length_append, List.length_set, List.length_replicate]; omega)) up_none ?_
                obtain ⟨ue35, hl35, hd35⟩ := hL31_0.rd2.get (k := c) [] (by first | omega | assumption | (simp only [List.length_nil, List.length_cons, List.length_append, List.length_set, List.length_replicate]; omega) | (simp [List.length_nil, List.length_cons, List.length_append, List.length_set, List.length_replicate]; done) | (simp [List.length_nil, List.length_cons, List.length_append, List.length_set, List.length_replicate]; omega))
                have hln35 := hd35.lenle
                refine q_load (p := eptr vo c 1) (.inl rfl) ue35 one29 rfl hl35 up_none ?_
                refine q_move (.int .i64 ((k : Nat) : Int)) rfl up_none ?_
                refine q_idx (v := ue35) k u29 ti2 rfl rfl hd35.isSl rfl (by first | omega | assumption | (simp only [List.length_nil, List.length_cons, List.length_append, List.length_set, List.length_replicate]; omega) | (simp [List.length_nil, List.length_cons, List.length_append, List.length_set, List.length_replicate]; done) | (simp [List.length_nil, List.length_cons, List.length_append, List.length_set, List.length_replicate]; omega)) up_none ?_
                refine q_load (p := eptr ue35 k 1) (.inl rfl) (.int .i64 (((M2.set (c + 1 + j) (mix k (tkr (M2.getD (c + 1 + j) []) (M2.getD c []) (md ((M2.getD (c + 1 + j) []).getD c 0 * inv (((swapL M c p []).getD c []).getD c 0)))) (M2.getD (c + 1 + j) []))).getD c []).getD k 0)) one2 rfl (hd35.getI (by first | omega | assumption | (simp only [List.length_nil, List.length_cons, List.length_append, List.length_set, List.length_replicate]; omega) | (simp [List.length_nil, List.length_cons, List.length_append, List.length_set, List.length_replicate]; done) | (simp [List.length_nil, List.length_cons, List.length_append, List.length_set, List.length_replicate]; omega))).1 up_none ?_
                refine q_mul (wr ((md (((M2.getD (c + 1 + j) []).getD c 0) * (inv (((swapL M c p []).getD c []).getD c 0)))) * (((M2.set (c + 1 + j) (mix k (tkr (M2.getD (c + 1 + j) []) (M2.getD c []) (md ((M2.getD (c + 1 + j) []).getD c 0 * inv (((swapL M c p []).getD c []).getD c 0)))) (M2.getD (c + 1 + j) []))).getD c []).getD k 0))) rfl rfl rfl up_none ?_
                refine lw_callq 98 [] [] [(.int .i64 (((M2.set (c + 1 + j) (mix k (tkr (M2.getD (c + 1 + j) []) (M2.getD c []) (md ((M2.getD (c + 1 + j) []).getD c 0 * inv (((swapL M c p []).getD c []).getD c 0)))) (M2.getD (c + 1 + j) []))).getD (c + 1 + j) []).getD k 0)), (.int .i64 (wr ((md (((M2.getD (c + 1 + j) []).getD c 0) * (inv (((swapL M c p []).getD c []).getD c 0)))) * (((M2.set (c + 1 + j) (mix k (tkr (M2.getD (c + 1 + j) []) (M2.getD c []) (md ((M2.getD (c + 1 + j) []).getD c 0 * inv (((swapL M c p []).getD c []).getD c 0)))) (M2.getD (c + 1 + j) []))).getD c []).getD k 0))))] rfl rfl cf98 up_none (.int .i64 (md ((((M2.set (c + 1 + j) (mix k (tkr (M2.getD (c + 1 + j) []) (M2.getD c []) (md ((M2.getD (c + 1 + j) []).getD c 0 * inv (((swapL M c p []).getD c []).getD c 0)))) (M2.getD (c + 1 + j) []))).getD (c + 1 + j) []).getD k 0) - (wr ((md (((M2.getD (c + 1 + j) []).getD c 0) * (inv (((swapL M c p []).getD c []).getD c 0)))) * (((M2.set (c + 1 + j) (mix k (tkr (M2.getD (c + 1 + j) []) (M2.getD c []) (md ((M2.getD (c + 1 + j) []).getD c 0 * inv (((swapL M c p []).getD c []).getD c 0)))) (M2.getD (c + 1 + j) []))).getD c []).getD k 0)))))) (fun wq => c_impl_minus wq _ _ (hd34.getI (by first | omega | assumption | (simp only [List.length_nil, List.length_cons, List.length_append, List.length_set, List.length_replicate]; omega) | (simp [List.length_nil, List.length_cons, List.length_append, List.length_set, List.length_replicate]; done) | (simp [List.length_nil, List.length_cons, List.length_append, List.length_set, List.length_replicate]; omega))).2 (wr_rng _)) ?_
                refine q_idx (v := ue33) k u29 ti2 rfl rfl hd33.isSl rfl (by first | omega | assumption | (simp only [List.length_nil, List.length_cons, List.length_append, List.length_set, List.length_replicate]; omega) | (simp [List.length_nil, List.length_cons, List.length_append, List.length_set, List.length_replicate]; done) | (simp [List.length_nil, List.length_cons, List.length_append, List.length_set, List.length_replicate]; omega)) up_none ?_
                refine e_setM (v := vo) (u := ue33) (w := w31.drew) sz2 rfl rfl (md_rng _) hL31_0 (by first | omega | assumption | (simp only [List.length_nil, List.length_cons, List.length_append, List.length_set, List.length_replicate]; omega) | (simp [List.length_nil, List.length_cons, List.length_append, List.length_set, List.length_replicate]; done) | (simp [List.length_nil, List.length_cons, List.length_append, List.length_set, List.length_replicate]; omega)) hl33 (by first | omega | assumption | (simp only [List.length_nil, List.length_cons, List.length_append, List.length_set, List.length_replicate]; omega) | (simp [List.length_nil, List.length_cons, List.length_append, List.length_set, List.length_replicate]; done) | (simp [List.length_nil, List.length_cons, List.length_append, List.length_set, List.length_replicate]; omega)) up_none ?_
                intro w37 F37 hC37 hz37 hF37 hO37
                replace hC37 := hC37.of_drew
                have hE37 : Ext w w37 := hC37.below hE31 (fun c hc => Nat.le_trans (Nat.le_refl _) (hF37 c hc).1) hE31.size
                have hzs37 : w31.heap.size ≤ w37.heap.size := hC37.size
                refine lw_nil ?_
                refine wp_plain _ [0, 0] rfl ?_
                refine q_add ((k + 1 : Nat) : Int) rfl rfl (w64n (by omega) (by first | omega | assumption | (simp only [List.length_nil, List.length_cons, List.length_append, List.length_set, List.length_replicate]; omega) | (simp [List.length_nil, List.length_cons, List.length_append, List.length_set, List.length_replicate]; done) | (simp [List.length_nil, List.length_cons, List.length_append, List.length_set, List.length_replicate]; omega))) up_none ?_
                refine q_move (.int .i64 ((k + 1 : Nat) : Int)) rfl up_none ?_
                refine lw_nil ?_
                exact ⟨(k + 1), _, rfl, ⟨rfl, rfl, rfl, rfl, rfl, rfl, rfl, rfl, rfl, rfl, rfl, trivial⟩, ⟨hE37, (by rw [← inner_step hS2 (by omega) (by omega) (by omega) (by omega) (md_num _)]; exact hO37.up o2), (by first | omega | assumption | (simp only [List.length_nil, List.length_cons, List.length_append, List.length_set, List.length_replicate]; omega) | (simp [List.length_nil, List.length_cons, List.length_append, List.length_set, List.length_replicate]; done) | (simp [List.length_nil, List.length_cons, List.length_append, List.length_set, List.length_replicate]; omega))⟩, by first | omega | (dsimp only; omega)⟩
              ·
                refine q_lss false rfl rfl (decide_eq_false hc32) up_none ?_
                refine lw_nil ?_
                refine wp_seq ?_
                refine c_cond_f rfl ?_
                refine wp_exit ?_
                refine t_exit ?_
                refine t_exit ?_
                refine c_exit_here ?_
                refine wp_plain _ [0, 0, 0] rfl ?_
                refine q_move (.int .i64 ((c + 1 + j : Nat) : Int)) rfl up_none ?_
                refine q_add (((c + 1 + j) + 1 : Nat) : Int) rfl rfl (w64n (by omega) (by first | omega | assumption | (simp only [List.length_nil, List.length_cons, List.length_append, List.length_set, List.length_replicate]; omega) | (simp [List.length_nil, List.length_cons, List.length_append, List.length_set, List.length_replicate]; done) | (simp [List.length_nil, List.length_cons, List.length_append, List.length_set, List.length_replicate]; omega))) up_none ?_
                refine q_assign (.int .i64 (((c + 1 + j) + 1 : Nat) : Int)) rfl up_none ?_
                refine lw_nil ?_
                exact ⟨((j + 1), (M2.set (c + 1 + j) (mix k (tkr (M2.getD (c + 1 + j) []) (M2.getD c []) (md ((M2.getD (c + 1 + j) []).getD c 0 * inv (((swapL M c p []).getD c []).getD c 0)))) (M2.getD (c + 1 + j) [])))), _, rfl, ⟨rfl, rfl, rfl, rfl, rfl, rfl, rfl, rfl, trivial⟩, ⟨hE31, hL31_0.up o2, (by first | omega | assumption | (simp only [List.length_nil, List.length_cons, List.length_append, List.length_set, List.length_replicate]; omega) | (simp [List.length_nil, List.length_cons, List.length_append, List.length_set, List.length_replicate]; done) | (simp [List.length_nil, List.length_cons, List.length_append, List.length_set, List.length_replicate]; omega)), (by rw [inner_end hS2 (by omega) (by omega) (by rw [tkr_len]; exact hS2.row _ (by omega))]; exact Sq.set (r := c + 1 + j) hS2 (by omega) (by rw [tkr_len]; exact hS2.row _ (by omega)) (tkr_num _ _ _)), (by rw [inner_end hS2 (by omega) (by omega) (by rw [tkr_len]; exact hS2.row _ (by omega))]; exact hidI (elim_row hS1 hEl.out (by omega)))⟩, by first | omega | (dsimp only; omega)⟩
            ·
              refine q_lss false rfl rfl (decide_eq_false hc28) up_none ?_
              refine lw_nil ?_
              refine c_cond_f rfl ?_
              refine wp_exit ?_
              refine t_exit ?_
              refine t_exit ?_
              refine c_exit_here ?_
              refine wp_plain _ [0, 0] rfl ?_
              refine q_add ((c + 1 : Nat) : Int) rfl rfl (w64n (by omega) (by first | omega | assumption | (simp only [List.length_nil, List.length_cons, List.length_append, List.length_set, List.length_replicate]; omega) | (simp [List.length_nil, List.length_cons, List.length_append, List.length_set, List.length_replicate]; done) | (simp [List.length_nil, List.length_cons, List.length_append, List.length_set, List.length_replicate]; omega))) up_none ?_
              refine q_move (.int .i64 ((c + 1 : Nat) : Int)) rfl up_none ?_
              refine lw_nil ?_
              exact ⟨((c + 1), M2, (md (d2 * (((swapL M c p []).getD c []).getD c 0)))), _, rfl, ⟨rfl, rfl, rfl, rfl, rfl, trivial⟩, ⟨hE27, hL27_0.up o2, (by first | omega | assumption | (simp only [List.length_nil, List.length_cons, List.length_append, List.length_set, List.length_replicate]; omega) | (simp [List.length_nil, List.length_cons, List.length_append, List.length_set, List.length_replicate]; done) | (simp [List.length_nil, List.length_cons, List.length_append, List.length_set, List.length_replicate]; omega)), (by exact hS2), (by exact md_num _), (by exact hidI (by have h := det_step hdF.out (by omega) (by have h9 := hpe.out; omega); rw [← hpe.out] at h; rw [← hd2.out] at h; obtain rfl : j = a.length - (c + 1) := (by omega); rw [← hEl.out] at h; exact h))⟩, by first | omega | (dsimp only; omega)⟩
    ·
      refine q_lss false rfl rfl (decide_eq_false hc9) up_none ?_
      refine lw_nil ?_
      refine wp_seq ?_
      refine c_cond_f rfl ?_
      refine wp_exit ?_
      refine t_exit ?_
      refine t_exit ?_
      refine c_exit_here ?_
      refine wp_seq ?_
      refine wp_plain _ [0, 0] rfl ?_
      refine q_move (.int .i64 det) rfl up_none ?_
      refine q_assign (.int .i64 det) rfl up_none ?_
      refine lw_nil ?_
      refine wp_ret ?_
      exact post_ret [2] rfl (.int .i64 det) rfl ⟨(ret_int (det_end hdF.out (by omega))), hE8⟩

/- spec.l07Det -/
theorem swapL_comm {β : Type} (l : List β) (i j : Nat) (d : β) : swapL l i j d = swapL l j i d := by
  unfold swapL
  by_cases h : i = j
  · subst h; rfl
  · rw [List.set_comm _ _ h]
theorem elim_rows {n c j : Nat} {M1 M2 : List (List Int)} (h1 : Sq n M1) (hM : M2 = elim c (M1.getD c []) (inv ((M1.getD c []).getD c 0)) j M1) (hj : c + 1 + j < n) :
    M2.set (c + 1 + j) (tkr (M2.getD (c + 1 + j) []) (M2.getD c []) (md ((M2.getD (c + 1 + j) []).getD c 0 * inv ((M2.getD c []).getD c 0)))) = elim c (M1.getD c []) (inv ((M1.getD c []).getD c 0)) (j + 1) M1 := by
  have e : M2.getD c [] = M1.getD c [] := by rw [hM]; exact elim_at h1 [] (Nat.le_refl _) j (by omega)
  rw [← elim_row h1 hM hj, e]

set_option maxHeartbeats 4000000 in
set_option maxRecDepth 100000 in
theorem c_spec_l07Det (w : World) (va : Value) (a : List (List Int)) (ha : Rd (rdL (rdL rI)) w.heap va a) (hS : Sq a.length a) (h6 : a.length ≤ 6) :
    Calls Try.prog 53 #[va] w (fun e w' => e = .returned (.int .i64 (detM a)) ∧ Ext w w') := by
  refine calls_mk [va] 101 Try.func53 rfl rfl (by simp) ?_
  have hE0 : Ext w w := Ext.refl w
  have hl_va := ha.lenle
  refine wp_seq ?_
  refine wp_plain _ [0] rfl ?_
  refine q_assign (.int .i64 ((0 : Nat) : Int)) rfl up_none ?_
  refine lw_nil ?_
  refine wp_seq ?_
  refine wp_plain _ [0, 3, 0] rfl ?_
  refine q_move va rfl up_none ?_
  refine lw_call 93 [] [] [va] rfl rfl cf93 up_none (c_spec_l07Own _ _ _ (ha.ext g2 hE0) (by omega) (by intro k; by_cases hk : k < a.length; (have := hS.row k hk; omega); (rw [show a.getD k [] = [] from by simp [Nat.not_lt.1 hk]]; simp))) ?_
  rintro e1 w1 ⟨v1_0, rfl, hX1, hO1_0⟩
  refine ⟨_, rfl, hX1, ?_⟩
  have hzs1 : w.heap.size ≤ w1.heap.size := hX1.size
  have hE1 : Ext w w1 := hE0.trans hX1
  refine q_assign v1_0 rfl up_none ?_
  refine lw_nil ?_
  refine wp_seq ?_
  refine wp_plain _ [0] rfl ?_
  refine q_assign (.int .i64 ((1 : Nat) : Int)) rfl up_none ?_
  refine lw_nil ?_
  refine wp_seq ?_
  refine wp_seq ?_
  refine wp_plain _ [0] rfl ?_
  refine q_assign (.int .i64 ((0 : Nat) : Int)) rfl up_none ?_
  refine lw_nil ?_
  refine wp_block ?_
  refine c_loop (S := Nat × List (List Int) × Int) (fun (⟨c, M, det⟩ : Nat × List (List Int) × Int) => ([(4, (.int .i64 det)), (5, (.int .i64 ((c : Nat) : Int))), (3, v1_0)] : List (Nat × Value))) (fun (⟨c, M, det⟩ : Nat × List (List Int) × Int) (W : World) => Ext w W ∧ Fr (owL (owL rI 2) 29) w.heap.size W.heap.size W.heap v1_0 M ∧ c ≤ a.length ∧ Sq a.length M ∧ (0 ≤ det ∧ det < 1000003) ∧ Hid (detF a.length (a.length - c) c M det = detM a)) (fun (⟨c, M, det⟩ : Nat × List (List Int) × Int) => a.length - c) (0, a, ((1 : Nat) : Int)) ⟨rfl, rfl, rfl, trivial⟩ ⟨hE1, hO1_0.up o2, (by first | omega | assumption | (simp only [List.length_nil, List.length_cons, List.length_append, List.length_set, List.length_replicate]; omega) | (simp [List.length_nil, List.length_cons, List.length_append, List.length_set, List.length_replicate]; done) | (simp [List.length_nil, List.length_cons, List.length_append, List.length_set, List.length_replicate]; omega)), (by exact hS), (by omega), (by exact hidI rfl)⟩ ?_
  clear hE0 hO1_0 hX1 hzs1 hE1
  rintro ⟨c, M, det⟩ ρ2 w2 ⟨hE2, hL2_0, hp2_0, hSM, hdet, hdF⟩
  have hzs2 : w.heap.size ≤ w2.heap.size := hE2.size
  have hlM := hSM.len
  refine wp_seq ?_
  refine wp_seq ?_
  refine wp_plain _ [0, 0, 0, 0] rfl ?_
  refine q_move (.int .i64 ((c : Nat) : Int)) rfl up_none ?_
  refine q_move v1_0 rfl up_none ?_
  refine q_len (v := v1_0) u22 rfl hL2_0.isSl up_none ?_
  by_cases hc3 : ((c : Nat) : Int) < ((M.length : Nat) : Int)
  ·
    refine q_lss true rfl rfl (decide_eq_true hc3) up_none ?_
    refine lw_nil ?_
    refine c_cond_t rfl ?_
    refine wp_skip ?_
    refine wp_seq ?_
    refine wp_block ?_
    refine wp_seq ?_
    refine wp_plain _ [0, 0] rfl ?_
    refine q_move (.int .i64 ((c : Nat) : Int)) rfl up_none ?_
    refine q_assign (.int .i64 ((c : Nat) : Int)) rfl up_none ?_
    refine lw_nil ?_
    refine wp_seq (c_cut (S := Nat) (fun (p : Nat) => ([(6, (.int .i64 ((p : Nat) : Int))), (3, v1_0), (4, (.int .i64 det)), (5, (.int .i64 ((c : Nat) : Int)))] : List (Nat × Value))) (fun (p : Nat) (W : World) => Ext w W ∧ Fr (owL (owL rI 2) 29) w.heap.size w2.heap.size W.heap v1_0 M ∧ c ≤ p ∧ p ≤ a.length ∧ Hid (p = piv a.length c M)) ?_ ?_)
    ·
      refine wp_block ?_
      refine c_loop (S := Nat) (fun (p : Nat) => ([(6, (.int .i64 ((p : Nat) : Int))), (3, v1_0), (4, (.int .i64 det)), (5, (.int .i64 ((c : Nat) : Int)))] : List (Nat × Value))) (fun (p : Nat) (W : World) => Ext w W ∧ Fr (owL (owL rI 2) 29) w.heap.size w2.heap.size W.heap v1_0 M ∧ c ≤ p ∧ p ≤ a.length ∧ Hid (pvt (fun r => decide ((M.getD r []).getD c 0 = 0)) (a.length - p) p = piv a.length c M)) (fun (p : Nat) => a.length - p) c ⟨rfl, rfl, rfl, rfl, trivial⟩ ⟨hE2, hL2_0, (by first | omega | assumption | (simp only [List.length_nil, List.length_cons, List.length_append, List.length_set, List.length_replicate]; omega) | (simp [List.length_nil, List.length_cons, List.length_append, List.length_set, List.length_replicate]; done) | (simp [List.length_nil, List.length_cons, List.length_append, List.length_set, List.length_replicate]; omega)), (by first | omega | assumption | (simp only [List.length_nil, List.length_cons, List.length_append, List.length_set, List.length_replicate]; omega) | (simp [List.length_nil, List.length_cons, List.length_append, List.length_set, List.length_replicate]; done) | (simp [List.length_nil, List.length_cons, List.length_append, List.length_set, List.length_replicate]; omega)), (by exact hidI rfl)⟩ ?_
      clear hL2_0
      rintro p ρ5 w5 ⟨hE5, hL5_0, hp5_0, hp5_1, hpv⟩
      have hzs5 : w.heap.size ≤ w5.heap.size := hE5.size
      refine wp_seq ?_
      refine wp_seq ?_
      refine wp_plain _ [0, 0, 0, 0, 0, 0, 0, 0, 2, 0, 0, 2, 0, 0] rfl ?_
      refine q_move (.int .i64 ((p : Nat) : Int)) rfl up_none ?_
      refine q_move v1_0 rfl up_none ?_
      refine q_len (v := v1_0) u22 rfl hL5_0.isSl up_none ?_
      by_cases hc6 : ((p : Nat) : Int) < ((M.length : Nat) : Int)
      ·
        refine q_lss true rfl rfl (decide_eq_true hc6) up_none ?_
        refine q_move (.bool true) rfl up_none ?_
        refine q_move v1_0 rfl (up_some (e := 22) rfl rfl rfl) ?_
        refine q_move (.int .i64 ((p : Nat) : Int)) rfl (up_some (e := 22) rfl rfl rfl) ?_
        refine q_idx (v := v1_0) p u22 ti29 rfl rfl hL5_0.isSl rfl (by first | omega | assumption | (simp only [List.length_nil, List.length_cons, List.length_append, List.length_set, List.length_replicate]; omega) | (simp [List.length_nil, List.length_cons, List.length_append, List.length_set, List.length_replicate]; done) | (simp [List.length_nil, List.length_cons, List.length_append, List.length_set, List.length_replicate]; omega)) (up_some (e := 22) rfl rfl rfl) ?_
        obtain ⟨ue7, hl7, hd7⟩ := hL5_0.rd2.get (k := p) [] (by first | omega | assumption | (simp only [List.length_nil, List.length_cons, List.length_append, List.length_set, List.length_replicate]; omega) | (simp [List.length_nil, List.length_cons, List.length_append, List.length_set, List.length_replicate]; done) | (simp [List.length_nil, List.length_cons, List.length_append, List.length_set, List.length_replicate]; omega))
        have hln7 := hd7.lenle
        refine q_load (p := eptr v1_0 p 1) (.inr rfl) ue7 one29 rfl hl7 (up_some (e := 22) rfl rfl rfl) ?_
        have hrp := hSM.row p (by omega)
        refine q_move (.int .i64 ((c : Nat) : Int)) rfl (up_some (e := 22) rfl rfl rfl) ?_
        refine q_idx (v := ue7) c u29 ti2 rfl rfl hd7.isSl rfl (by first | omega | assumption | (simp only [List.length_nil, List.length_cons, List.length_append, List.length_set, List.length_replicate]; omega) | (simp [List.length_nil, List.length_cons, List.length_append, List.length_set, List.length_replicate]; done) | (simp [List.length_nil, List.length_cons, List.length_append, List.length_set, List.length_replicate]; omega)) (up_some (e := 22) rfl rfl rfl) ?_
        refine q_load (p := eptr ue7 c 1) (.inr rfl) (.int .i64 ((M.getD p []).getD c 0)) one2 rfl (hd7.getI (by first | omega | assumption | (simp only [List.length_nil, List.length_cons, List.length_append, List.length_set, List.length_replicate]; omega) | (simp [List.length_nil, List.length_cons, List.length_append, List.length_set, List.length_replicate]; done) | (simp [List.length_nil, List.length_cons, List.length_append, List.length_set, List.length_replicate]; omega))).1 (up_some (e := 22) rfl rfl rfl) ?_
        by_cases hc8 : (M.getD p []).getD c 0 = ((0 : Nat) : Int)
        ·
          refine q_eql true rfl rfl (decide_eq_true hc8) (up_some (e := 22) rfl rfl rfl) ?_
          refine q_pick true (.bool true) rfl rfl up_none ?_
          refine lw_nil ?_
          refine c_cond_t rfl ?_
          refine wp_skip ?_
          refine wp_block ?_
          refine wp_plain _ [0, 0, 0] rfl ?_
          refine q_move (.int .i64 ((p : Nat) : Int)) rfl up_none ?_
          refine q_add ((p + 1 : Nat) : Int) rfl rfl (w64n (by omega) (by first | omega | assumption | (simp only [List.length_nil, List.length_cons, List.length_append, List.length_set, List.length_replicate]; omega) | (simp [List.length_nil, List.length_cons, List.length_append, List.length_set, List.length_replicate]; done) | (simp [List.length_nil, List.length_cons, List.length_append, List.length_set, List.length_replicate]; omega))) up_none ?_
          refine q_assign (.int .i64 ((p + 1 : Nat) : Int)) rfl up_none ?_
          refine lw_nil ?_
          exact ⟨(p + 1), _, rfl, ⟨rfl, rfl, rfl, rfl, trivial⟩, ⟨hE5, hL5_0, (by first | omega | assumption | (simp only [List.length_nil, List.length_cons, List.length_append, List.length_set, List.length_replicate]; omega) | (simp [List.length_nil, List.length_cons, List.length_append, List.length_set, List.length_replicate]; done) | (simp [List.length_nil, List.length_cons, List.length_append, List.length_set, List.length_replicate]; omega)), (by first | omega | assumption | (simp only [List.length_nil, List.length_cons, List.length_append, List.length_set, List.length_replicate]; omega) | (simp [List.length_nil, List.length_cons, List.length_append, List.length_set, List.length_replicate]; done) | (simp [List.length_nil, List.length_cons, List.length_append, List.length_set, List.length_replicate]; omega)), (by exact hidI (by rw [← hpv.out, pvt_step (f := (fun r => decide ((M.getD r []).getD c 0 = 0))) (n := a.length) (p := p) (by omega) (decide_eq_true ‹(M.getD p []).getD c 0 = ((0 : Nat) : Int)›)]))⟩, by first | omega | (dsimp only; omega)⟩
        ·
          refine q_eql false rfl rfl (decide_eq_false hc8) (up_some (e := 22) rfl rfl rfl) ?_
          refine q_pick true (.bool false) rfl rfl up_none ?_
          refine lw_nil ?_
          refine c_cond_f rfl ?_
          refine wp_exit ?_
          refine t_exit ?_
          refine t_exit ?_
          refine c_exit_here ?_
          exact ⟨p, _, rfl, ⟨rfl, rfl, rfl, rfl, trivial⟩, ⟨hE5, hL5_0, (by first | omega | assumption | (simp only [List.length_nil, List.length_cons, List.length_append, List.length_set, List.length_replicate]; omega) | (simp [List.length_nil, List.length_cons, List.length_append, List.length_set, List.length_replicate]; done) | (simp [List.length_nil, List.length_cons, List.length_append, List.length_set, List.length_replicate]; omega)), (by first | omega | assumption | (simp only [List.length_nil, List.length_cons, List.length_append, List.length_set, List.length_replicate]; omega) | (simp [List.length_nil, List.length_cons, List.length_append, List.length_set, List.length_replicate]; done) | (simp [List.length_nil, List.length_cons, List.length_append, List.length_set, List.length_replicate]; omega)), (by first | exact hidI (by rw [← hpv.out]; exact (pvt_out (by omega)).symm) | exact hidI (by rw [← hpv.out]; exact (pvt_here (decide_eq_false ‹¬ (M.getD p []).getD c 0 = ((0 : Nat) : Int)›)).symm))⟩⟩
      ·
        refine q_lss false rfl rfl (decide_eq_false hc6) up_none ?_
        refine q_move (.bool false) rfl up_none ?_
        refine lw_skip (e := 22) (c := false) rfl rfl rfl rfl ?_
        refine lw_skip (e := 22) (c := false) rfl rfl rfl rfl ?_
        refine lw_skip (e := 22) (c := false) rfl rfl rfl rfl ?_
        refine lw_skip (e := 22) (c := false) rfl rfl rfl rfl ?_
        refine lw_skip (e := 22) (c := false) rfl rfl rfl rfl ?_
        refine lw_skip (e := 22) (c := false) rfl rfl rfl rfl ?_
        refine lw_skip (e := 22) (c := false) rfl rfl rfl rfl ?_
        refine lw_skip (e := 22) (c := false) rfl rfl rfl rfl ?_
        refine q_pick false (.bool false) rfl rfl up_none ?_
        refine lw_nil ?_
        refine c_cond_f rfl ?_
        refine wp_exit ?_
        refine t_exit ?_
        refine t_exit ?_
        refine c_exit_here ?_
        exact ⟨p, _, rfl, ⟨rfl, rfl, rfl, rfl, trivial⟩, ⟨hE5, hL5_0, (by first | omega | assumption | (simp only [List.length_nil, List.length_cons, List.length_append, List.length_set, List.length_replicate]; omega) | (simp [List.length_nil, List.length_cons, List.length_append, List.length_set, List.length_replicate]; done) | (simp [List.length_nil, List.length_cons, List.length_append, List.length_set, List.length_replicate]; omega)), (by first | omega | assumption | (simp only [List.length_nil, List.length_cons, List.length_append, List.length_set, List.length_replicate]; omega) | (simp [List.length_nil, List.length_cons, List.length_append, List.length_set, List.length_replicate]; done) | (simp [List.length_nil, List.length_cons, List.length_append, List.length_set, List.length_replicate]; omega)), (by first | exact hidI (by rw [← hpv.out]; exact (pvt_out (by omega)).symm) | exact hidI (by rw [← hpv.out]; exact (pvt_here (decide_eq_false ‹¬ (M.getD p []).getD c 0 = ((0 : Nat) : Int)›)).symm))⟩⟩
    ·
      clear hL2_0
      rintro p ρ4 w4 ⟨hE4, hL4_0, hp4_0, hp4_1, hpe⟩
      have hzs4 : w.heap.size ≤ w4.heap.size := hE4.size
      refine wp_seq ?_
      refine wp_seq ?_
      refine wp_plain _ [0, 0, 0, 0] rfl ?_
      refine q_move (.int .i64 ((p : Nat) : Int)) rfl up_none ?_
      refine q_move v1_0 rfl up_none ?_
      refine q_len (v := v1_0) u22 rfl hL4_0.isSl up_none ?_
      by_cases hc9 : ((p : Nat) : Int) = ((M.length : Nat) : Int)
      ·
        refine q_eql true rfl rfl (decide_eq_true hc9) up_none ?_
        refine lw_nil ?_
        refine c_cond_t rfl ?_
        refine wp_seq ?_
        refine wp_plain _ [0] rfl ?_
        refine q_assign (.int .i64 ((0 : Nat) : Int)) rfl up_none ?_
        refine lw_nil ?_
        refine wp_ret ?_
        refine t_ret ?_
        refine b_ret ?_
        refine t_ret ?_
        refine t_ret ?_
        refine b_ret ?_
        refine t_ret ?_
        exact post_ret [2] rfl (.int .i64 ((0 : Nat) : Int)) rfl ⟨(ret_int (det_zero hdF.out (by omega) (by have h9 := hpe.out; omega))), hE4⟩
      ·
        refine q_eql false rfl rfl (decide_eq_false hc9) up_none ?_
        refine lw_nil ?_
        refine c_cond_f rfl ?_
        refine wp_skip ?_
        refine wp_seq (c_cut (S := Int) (fun (d2 : Int) => ([(4, (.int .i64 d2)), (3, v1_0), (5, (.int .i64 ((c : Nat) : Int)))] : List (Nat × Value))) (fun (d2 : Int) (W : World) => Ext w W ∧ Fr (owL (owL rI 2) 29) w.heap.size W.heap.size W.heap v1_0 (swapL M c p []) ∧ Hid (d2 = (if p ≠ c then md (-det) else det)) ∧ (0 ≤ d2 ∧ d2 < 1000003)) ?_ ?_)
        ·
          refine wp_seq ?_
          refine wp_plain _ [0, 0, 0] rfl ?_
          refine q_move (.int .i64 ((p : Nat) : Int)) rfl up_none ?_
          refine q_move (.int .i64 ((c : Nat) : Int)) rfl up_none ?_
          by_cases hc11 : ((c : Nat) : Int) < ((p : Nat) : Int)
          ·
            refine q_gtr true rfl rfl (decide_eq_true hc11) up_none ?_
            refine lw_nil ?_
            refine c_cond_t rfl ?_
            refine wp_seq ?_
            refine wp_plain _ [0, 0, 0, 2, 0] rfl ?_
            refine q_move v1_0 rfl up_none ?_
            refine q_move (.int .i64 ((p : Nat) : Int)) rfl up_none ?_
            refine q_idx (v := v1_0) p u22 ti29 rfl rfl hL4_0.isSl rfl (by first | omega | assumption | (simp only [List.length_nil, List.length_cons, List.length_append, List.length_set, List.length_replicate]; omega) | (simp [List.length_nil, List.length_cons, List.length_append, List.length_set, List.length_replicate]; done) | (simp [List.length_nil, List.length_cons, List.length_append, List.length_set, List.length_replicate]; omega)) up_none ?_
            obtain ⟨ue12, hl12, hd12⟩ := hL4_0.rd2.get (k := p) [] (by first | omega | assumption | (simp only [List.length_nil, List.length_cons, List.length_append, List.length_set, List.length_replicate]; omega) | (simp [List.length_nil, List.length_cons, List.length_append, List.length_set, List.length_replicate]; done) | (simp [List.length_nil, List.length_cons, List.length_append, List.length_set, List.length_replicate]; omega))
            have hln12 := hd12.lenle
            refine q_load (p := eptr v1_0 p 1) (.inr rfl) ue12 one29 rfl hl12 up_none ?_
            refine q_assign ue12 rfl up_none ?_
            refine lw_nil ?_
            refine wp_seq ?_
            refine wp_plain _ [0, 0, 0, 0, 0, 2, 0, 4] rfl ?_
            refine q_move v1_0 rfl up_none ?_
            refine q_move (.int .i64 ((p : Nat) : Int)) rfl up_none ?_
            refine q_move v1_0 rfl up_none ?_
            refine q_move (.int .i64 ((c : Nat) : Int)) rfl up_none ?_
            refine q_idx (v := v1_0) c u22 ti29 rfl rfl hL4_0.isSl rfl (by first | omega | assumption | (simp only [List.length_nil, List.length_cons, List.length_append, List.length_set, List.length_replicate]; omega) | (simp [List.length_nil, List.length_cons, List.length_append, List.length_set, List.length_replicate]; done) | (simp [List.length_nil, List.length_cons, List.length_append, List.length_set, List.length_replicate]; omega)) up_none ?_
            obtain ⟨ue13, hl13, hd13⟩ := hL4_0.rd2.get (k := c) [] (by first | omega | assumption | (simp only [List.length_nil, List.length_cons, List.length_append, List.length_set, List.length_replicate]; omega) | (simp [List.length_nil, List.length_cons, List.length_append, List.length_set, List.length_replicate]; done) | (simp [List.length_nil, List.length_cons, List.length_append, List.length_set, List.length_replicate]; omega))
            have hln13 := hd13.lenle
            refine q_load (p := eptr v1_0 c 1) (.inr rfl) ue13 one29 rfl hl13 up_none ?_
            refine q_idx (v := v1_0) p u22 ti29 rfl rfl hL4_0.isSl rfl (by first | omega | assumption | (simp only [List.length_nil, List.length_cons, List.length_append, List.length_set, List.length_replicate]; omega) | (simp [List.length_nil, List.length_cons, List.length_append, List.length_set, List.length_replicate]; done) | (simp [List.length_nil, List.length_cons, List.length_append, List.length_set, List.length_replicate]; omega)) up_none ?_
            have hcx14 := isSl_cells hd13.isSl
            have hcy14 := isSl_cells hd12.isSl
            obtain ⟨us14, hOp14, hUl14, hUs14⟩ := hL4_0.opn o1 (by omega)
            obtain ⟨ua14, hua14, hub14⟩ := hUs14 c (by first | omega | assumption | (simp only [List.length_nil, List.length_cons, List.length_append, List.length_set, List.length_replicate]; omega) | (simp [List.length_nil, List.length_cons, List.length_append, List.length_set, List.length_replicate]; done) | (simp [List.length_nil, List.length_cons, List.length_append, List.length_set, List.length_replicate]; omega))
            obtain ⟨uc14, huc14, hud14⟩ := hUs14 p (by first | omega | assumption | (simp only [List.length_nil, List.length_cons, List.length_append, List.length_set, List.length_replicate]; omega) | (simp [List.length_nil, List.length_cons, List.length_append, List.length_set, List.length_replicate]; done) | (simp [List.length_nil, List.length_cons, List.length_append, List.length_set, List.length_replicate]; omega))
            have hga14 := opn_get hua14 hub14 hl13
            have hgc14 := opn_get huc14 hud14 hl12
            refine e_setV o1 (v := v1_0) (u := ue13) (w := w4) sz29 rfl rfl hOp14 hcx14 (by rw [hUl14]; exact (by first | omega | assumption | (simp only [List.length_nil, List.length_cons, List.length_append, List.length_set, List.length_replicate]; omega) | (simp [List.length_nil, List.length_cons, List.length_append, List.length_set, List.length_replicate]; done) | (simp [List.length_nil, List.length_cons, List.length_append, List.length_set, List.length_replicate]; omega))) up_none ?_
            intro w14 F14 hC14 hz14 hF14 hO14
            have hE14 : Ext w w14 := hC14.below hE4 (fun c hc => Nat.le_trans (Nat.le_refl _) (hF14 c hc).1) hE4.size
            have hzs14 : w4.heap.size ≤ w14.heap.size := hC14.size
            refine lw_nil ?_
            refine wp_seq ?_
            refine wp_plain _ [0, 0, 0, 0, 4] rfl ?_
            refine q_move v1_0 rfl up_none ?_
            refine q_move (.int .i64 ((c : Nat) : Int)) rfl up_none ?_
            refine q_move ue12 rfl up_none ?_
            refine q_idx (v := v1_0) c u22 ti29 rfl rfl hL4_0.isSl rfl (by first | omega | assumption | (simp only [List.length_nil, List.length_cons, List.length_append, List.length_set, List.length_replicate]; omega) | (simp [List.length_nil, List.length_cons, List.length_append, List.length_set, List.length_replicate]; done) | (simp [List.length_nil, List.length_cons, List.length_append, List.length_set, List.length_replicate]; omega)) up_none ?_
            refine e_setV o1 (v := v1_0) (u := ue12) (w := w14) sz29 rfl rfl hO14 hcy14 (by rw [List.length_set, hUl14]; exact (by first | omega | assumption | (simp only [List.length_nil, List.length_cons, List.length_append, List.length_set, List.length_replicate]; omega) | (simp [List.length_nil, List.length_cons, List.length_append, List.length_set, List.length_replicate]; done) | (simp [List.length_nil, List.length_cons, List.length_append, List.length_set, List.length_replicate]; omega))) up_none ?_
            intro w15 F15 hC15 hz15 hF15 hO15
            have hE15 : Ext w w15 := hC15.below hE14 (fun c hc => Nat.le_trans (Nat.le_refl _) (hF15 c hc).1) hE14.size
            have hzs15 : w14.heap.size ≤ w15.heap.size := hC15.size
            have hM15 := hO15.swap [] (i := p) (j := c) (by first | omega | assumption | (simp only [List.length_nil, List.length_cons, List.length_append, List.length_set, List.length_replicate]; omega) | (simp [List.length_nil, List.length_cons, List.length_append, List.length_set, List.length_replicate]; done) | (simp [List.length_nil, List.length_cons, List.length_append, List.length_set, List.length_replicate]; omega)) (by first | omega | assumption | (simp only [List.length_nil, List.length_cons, List.length_append, List.length_set, List.length_replicate]; omega) | (simp [List.length_nil, List.length_cons, List.length_append, List.length_set, List.length_replicate]; done) | (simp [List.length_nil, List.length_cons, List.length_append, List.length_set, List.length_replicate]; omega)) (by unfold swapL; rw [hga14, hgc14])
            refine lw_nil ?_
            refine wp_plain _ [0, 0, 0] rfl ?_
            refine q_move (.int .i64 det) rfl up_none ?_
            refine lw_callq 94 [] [] [(.int .i64 det)] rfl rfl cf94 up_none (.int .i64 (md (-det))) (fun wq => c_spec_l01Neg wq _ (by omega) (by omega)) ?_
            refine q_assign (.int .i64 (md (-det))) rfl up_none ?_
            refine lw_nil ?_
            exact ⟨(md (-det)), _, rfl, ⟨rfl, rfl, rfl, trivial⟩, ⟨hE15, (by first | (rw [swapL_comm]; exact hM15.up o2) | (rw [show p = c from by omega, swapL_self _ _ _ (by omega)]; exact hM15.up o2)), (by first | exact hidI (by rw [if_pos (by omega)]) | exact hidI (by rw [if_neg (by omega)])), (by first | exact md_num _ | exact hdet)⟩⟩
          ·
            refine q_gtr false rfl rfl (decide_eq_false hc11) up_none ?_
            refine lw_nil ?_
            refine c_cond_f rfl ?_
            refine wp_skip ?_
            exact ⟨det, _, rfl, ⟨rfl, rfl, rfl, trivial⟩, ⟨hE4, (by first | (rw [swapL_comm]; exact hL4_0.up o2) | (rw [show p = c from by omega, swapL_self _ _ _ (by omega)]; exact hL4_0.up o2)), (by first | exact hidI (by rw [if_pos (by omega)]) | exact hidI (by rw [if_neg (by omega)])), (by first | exact md_num _ | exact hdet)⟩⟩
        ·
          clear hE2 hzs2 hL4_0 hE4 hzs4
          rintro d2 ρ10 w10 ⟨hE10, hL10_0, hd2, hd2r⟩
          have hzs10 : w.heap.size ≤ w10.heap.size := hE10.size
          refine wp_seq ?_
          refine wp_plain _ [0, 0, 0, 0, 2, 0, 0, 2, 0, 0] rfl ?_
          have hS1 : Sq a.length (swapL M c p []) := hSM.swap (by omega) (by omega)
          have hl1 := hS1.len
          have hr1 := hS1.row c (by omega)
          refine q_move (.int .i64 d2) rfl up_none ?_
          refine q_move v1_0 rfl up_none ?_
          refine q_move (.int .i64 ((c : Nat) : Int)) rfl up_none ?_
          refine q_idx (v := v1_0) c u22 ti29 rfl rfl hL10_0.isSl rfl (by first | omega | assumption | (simp only [List.length_nil, List.length_cons, List.length_append, List.length_set, List.length_replicate]; omega) | (simp [List.length_nil, List.length_cons, List.length_append, List.length_set, List.length_replicate]; done) | (simp [List.length_nil, List.length_cons, List.length_append, List.length_set, List.length_replicate]; omega)) up_none ?_
          obtain ⟨ue17, hl17, hd17⟩ := hL10_0.rd2.get (k := c) [] (by first | omega | assumption | (simp only [List.length_nil, List.length_cons, List.length_append, List.length_set, List.length_replicate]; omega) | (simp [List.length_nil, List.length_cons, List.length_append, List.length_set, List.length_replicate]; done) | (simp [List.length_nil, List.length_cons, List.length_append, List.length_set, List.length_replicate]; omega))
          have hln17 := hd17.lenle
          refine q_load (p := eptr v1_0 c 1) (.inr rfl) ue17 one29 rfl hl17 up_none ?_
          refine q_move (.int .i64 ((c : Nat) : Int)) rfl up_none ?_
          refine q_idx (v := ue17) c u29 ti2 rfl rfl hd17.isSl rfl (by first | omega | assumption | (simp only [List.length_nil, List.length_cons, List.length_append, List.length_set, List.length_replicate]; omega) | (simp [List.length_nil, List.length_cons, List.length_append, List.length_set, List.length_replicate]; done) | (simp [List.length_nil, List.length_cons, List.length_append, List.length_set, List.length_replicate]; omega)) up_none ?_
          refine q_load (p := eptr ue17 c 1) (.inr rfl) (.int .i64 (((swapL M c p []).getD c []).getD c 0)) one2 rfl (hd17.getI (by first | omega | assumption | (simp only [List.length_nil, List.length_cons, List.length_append, List.length_set, List.length_replicate]; omega) | (simp [List.length_nil, List.length_cons, List.length_append, List.length_set, List.length_replicate]; done) | (simp [List.length_nil, List.length_cons, List.length_append, List.length_set, List.length_replicate]; omega))).1 up_none ?_
          refine lw_callq 40 [] [] [(.int .i64 d2), (.int .i64 (((swapL M c p []).getD c []).getD c 0))] rfl rfl cf40 up_none (.int .i64 (md (d2 * (((swapL M c p []).getD c []).getD c 0)))) (fun wq => c_spec_Times wq _ _ (by omega) (hd17.getI (by first | omega | assumption | (simp only [List.length_nil, List.length_cons, List.length_append, List.length_set, List.length_replicate]; omega) | (simp [List.length_nil, List.length_cons, List.length_append, List.length_set, List.length_replicate]; done) | (simp [List.length_nil, List.length_cons, List.length_append, List.length_set, List.length_replicate]; omega))).2) ?_
          refine q_assign (.int .i64 (md (d2 * (((swapL M c p []).getD c []).getD c 0)))) rfl up_none ?_
          refine lw_nil ?_
          refine wp_seq ?_
          refine wp_plain _ [0, 0, 0] rfl ?_
          refine q_move (.int .i64 ((c : Nat) : Int)) rfl up_none ?_
          refine q_add ((c + 1 : Nat) : Int) rfl rfl (w64n (by omega) (by first | omega | assumption | (simp only [List.length_nil, List.length_cons, List.length_append, List.length_set, List.length_replicate]; omega) | (simp [List.length_nil, List.length_cons, List.length_append, List.length_set, List.length_replicate]; done) | (simp [List.length_nil, List.length_cons, List.length_append, List.length_set, List.length_replicate]; omega))) up_none ?_
          refine q_assign (.int .i64 ((c + 1 : Nat) : Int)) rfl up_none ?_
          refine lw_nil ?_
          refine wp_block ?_
          refine c_loop (S := Nat × List (List Int)) (fun (⟨j, M2⟩ : Nat × List (List Int)) => ([(8, (.int .i64 ((c + 1 + j : Nat) : Int))), (3, v1_0), (4, (.int .i64 (md (d2 * (((swapL M c p []).getD c []).getD c 0))))), (5, (.int .i64 ((c : Nat) : Int)))] : List (Nat × Value))) (fun (⟨j, M2⟩ : Nat × List (List Int)) (W : World) => Ext w W ∧ Fr (owL (owL rI 2) 29) w.heap.size W.heap.size W.heap v1_0 M2 ∧ c + 1 + j ≤ a.length ∧ Sq a.length M2 ∧ Hid (M2 = elim c ((swapL M c p []).getD c []) (inv (((swapL M c p []).getD c []).getD c 0)) j (swapL M c p []))) (fun (⟨j, M2⟩ : Nat × List (List Int)) => a.length - j) (0, (swapL M c p [])) ⟨rfl, rfl, rfl, rfl, trivial⟩ ⟨hE10, hL10_0.up o2, (by first | omega | assumption | (simp only [List.length_nil, List.length_cons, List.length_append, List.length_set, List.length_replicate]; omega) | (simp [List.length_nil, List.length_cons, List.length_append, List.length_set, List.length_replicate]; done) | (simp [List.length_nil, List.length_cons, List.length_append, List.length_set, List.length_replicate]; omega)), (by exact hS1), (by exact hidI rfl)⟩ ?_
          clear hL10_0 hE10 hzs10 hln17
          rintro ⟨j, M2⟩ ρ19 w19 ⟨hE19, hL19_0, hp19_0, hS2, hEl⟩
          have hzs19 : w.heap.size ≤ w19.heap.size := hE19.size
          have hl2 := hS2.len
          have hc2 := hS2.row c (by omega)
          have hr2 := hS2.row (c + 1 + j)
          refine wp_seq ?_
          refine wp_seq ?_
          refine wp_plain _ [0, 0, 0, 0] rfl ?_
          refine q_move (.int .i64 ((c + 1 + j : Nat) : Int)) rfl up_none ?_
          refine q_move v1_0 rfl up_none ?_
          refine q_len (v := v1_0) u22 rfl hL19_0.isSl up_none ?_
          by_cases hc20 : ((c + 1 + j : Nat) : Int) < ((M2.length : Nat) : Int)
          ·
            refine q_lss true rfl rfl (decide_eq_true hc20) up_none ?_
            refine lw_nil ?_
            refine c_cond_t rfl ?_
            refine wp_skip ?_
            refine wp_seq ?_
            refine wp_block ?_
            refine wp_draw _ [0, 0, 0, 1, 0, 0, 0, 1, 0, 0, 0, 1, 0, 0, 1, 0, 0, 0, 1, 0, 0, 1, 0, 0, 4] mixed (by kernel_rfl) ?_
            have hr3 := hr2 (by omega)
            refine q_move v1_0 rfl up_none ?_
            refine q_move (.int .i64 ((c + 1 + j : Nat) : Int)) rfl up_none ?_
            refine q_idx (v := v1_0) (c + 1 + j) u22 ti29 rfl rfl hL19_0.isSl rfl (by first | omega | assumption | (simp only [List.length_nil, List.length_cons, List.length_append, List.length_set, List.length_replicate]; omega) | (simp [List.length_nil, List.length_cons, List.length_append, List.length_set, List.length_replicate]; done) | (simp [List.length_nil, List.length_cons, List.length_append, List.length_set, List.length_replicate]; omega)) up_none ?_
            obtain ⟨ue21, hl21, hd21⟩ := hL19_0.rd2.get (k := c + 1 + j) [] (by first | omega | assumption | (simp only [List.length_nil, List.length_cons, List.length_append, List.length_set, List.length_replicate]; omega) | (simp [List.length_nil, List.length_cons, List.length_append, List.length_set, List.length_replicate]; done) | (simp [List.length_nil, List.length_cons, List.length_append, List.length_set, List.length_replicate]; omega))
            have hln21 := hd21.lenle
            refine q_load (p := eptr v1_0 (c + 1 + j) 1) (.inl rfl) ue21 one29 rfl hl21 up_none ?_
            refine q_move v1_0 rfl up_none ?_
            refine q_move (.int .i64 ((c : Nat) : Int)) rfl up_none ?_
            refine q_idx (v := v1_0) c u22 ti29 rfl rfl hL19_0.isSl rfl (by first | omega | assumption | (simp only [List.length_nil, List.length_cons, List.length_append, List.length_set, List.length_replicate]; omega) | (simp [List.length_nil, List.length_cons, List.length_append, List.length_set, List.length_replicate]; done) | (simp [List.length_nil, List.length_cons, List.length_append, List.length_set, List.length_replicate]; omega)) up_none ?_
            obtain ⟨ue22, hl22, hd22⟩ := hL19_0.rd2.get (k := c) [] (by first | omega | assumption | (simp only [List.length_nil, List.length_cons, List.length_append, List.length_set, List.length_replicate]; omega) | (simp [List.length_nil, List.length_cons, List.length_append, List.length_set, List.length_replicate]; done) | (simp [List.length_nil, List.length_cons, List.length_append, List.length_set, List.length_replicate]; omega))
            have hln22 := hd22.lenle
            refine q_load (p := eptr v1_0 c 1) (.inl rfl) ue22 one29 rfl hl22 up_none ?_
            refine q_move v1_0 rfl up_none ?_
            refine q_move (.int .i64 ((c + 1 + j : Nat) : Int)) rfl up_none ?_
            refine q_idx (v := v1_0) (c + 1 + j) u22 ti29 rfl rfl hL19_0.isSl rfl (by first | omega | assumption | (simp only [List.length_nil, List.length_cons, List.length_append, List.length_set, List.length_replicate]; omega) | (simp [List.length_nil, List.length_cons, List.length_append, List.length_set, List.length_replicate]; done) | (simp [List.length_nil, List.length_cons, List.length_append, List.length_set, List.length_replicate]; omega)) up_none ?_
            obtain ⟨ue23, hl23, hd23⟩ := hL19_0.rd2.get (k := c + 1 + j) [] (by first | omega | assumption | (simp only [List.length_nil, List.length_cons, List.length_append, List.length_set, List.length_replicate]; omega) | (simp [List.length_nil, List.length_cons, List.length_append, List.length_set, List.length_replicate]; done) | (simp [List.length_nil, List.length_cons, List.length_append, List.length_set, List.length_replicate]; omega))
            have hln23 := hd23.lenle
            refine q_load (p := eptr v1_0 (c + 1 + j) 1) (.inl rfl) ue23 one29 rfl hl23 up_none ?_
            refine q_move (.int .i64 ((c : Nat) : Int)) rfl up_none ?_
            refine q_idx (v := ue23) c u29 ti2 rfl rfl hd23.isSl rfl (by first | omega | assumption | (simp only [List.length_nil, List.length_cons, List.length_append, List.length_set, List.length_replicate]; omega) | (simp [List.length_nil, List.length_cons, List.length_append, List.length_set, List.length_replicate]; done) | (simp [List.length_nil, List.length_cons, List.length_append, List.length_set, List.length_replicate]; omega)) up_none ?_
            refine q_load (p := eptr ue23 c 1) (.inl rfl) (.int .i64 ((M2.getD (c + 1 + j) []).getD c 0)) one2 rfl (hd23.getI (by first | omega | assumption | (simp only [List.length_nil, List.length_cons, List.length_append, List.length_set, List.length_replicate]; omega) | (simp [List.length_nil, List.length_cons, List.length_append, List.length_set, List.length_replicate]; done) | (simp [List.length_nil, List.length_cons, List.length_append, List.length_set, List.length_replicate]; omega))).1 up_none ?_
            refine q_move v1_0 rfl up_none ?_
            refine q_move (.int .i64 ((c : Nat) : Int)) rfl up_none ?_
            refine q_idx (v := v1_0) c u22 ti29 rfl rfl hL19_0.isSl rfl (by first | omega | assumption | (simp only [List.length_nil, List.length_cons, List.length_append, List.length_set, List.length_replicate]; omega) | (simp [List.length_nil, List.length_cons, List.length_append, List.length_set, List.length_replicate]; done) | (simp [List.length_nil, List.length_cons, List.length_append, List.length_set, List.length_replicate]; omega)) up_none ?_
            obtain ⟨ue24, hl24, hd24⟩ := hL19_0.rd2.get (k := c) [] (by first | omega | assumption | (simp only [List.length_nil, List.length_cons, List.length_append, List.length_set, List.length_replicate]; omega) | (simp [List.length_nil, List.length_cons, List.length_append, List.length_set, List.length_replicate]; done) | (simp [List.length_nil, List.length_cons, List.length_append, List.length_set, List.length_replicate]; omega))
            have hln24 := hd24.lenle
            refine q_load (p := eptr v1_0 c 1) (.inl rfl) ue24 one29 rfl hl24 up_none ?_
            refine q_move (.int .i64 ((c : Nat) : Int)) rfl up_none ?_
            refine q_idx (v := ue24) c u29 ti2 rfl rfl hd24.isSl rfl (by first | omega | assumption | (simp only [List.length_nil, List.length_cons, List.length_append, List.length_set, List.length_replicate]; omega) | (simp [List.length_nil, List.length_cons, List.length_append, List.length_set, List.length_replicate]; done) | (simp [List.length_nil, List.length_cons, List.length_append, List.length_set, List.length_replicate]; omega)) up_none ?_
            refine q_load (p := eptr ue24 c 1) (.inl rfl) (.int .i64 ((M2.getD c []).getD c 0)) one2 rfl (hd24.getI (by first | omega | assumption | (simp only [List.length_nil, List.length_cons, List.length_append, List.length_set, List.length_replicate]; omega) | (simp [List.length_nil, List.length_cons, List.length_append, List.length_set, List.length_replicate]; done) | (simp [List.length_nil, List.length_cons, List.length_append, List.length_set, List.length_replicate]; omega))).1 up_none ?_
            refine lw_callq 61 [] [] [(.int .i64 ((M2.getD c []).getD c 0))] rfl rfl cf61 up_none (.int .i64 (inv ((M2.getD c []).getD c 0))) (fun wq => c_spec_l01Inv wq _ (hd24.getI (by first | omega | assumption | (simp only [List.length_nil, List.length_cons, List.length_append, List.length_set, List.length_replicate]; omega) | (simp [List.length_nil, List.length_cons, List.length_append, List.length_set, List.length_replicate]; done) | (simp [List.length_nil, List.length_cons, List.length_append, List.length_set, List.length_replicate]; omega))).2) ?_
            refine lw_callq 40 [] [] [(.int .i64 ((M2.getD (c + 1 + j) []).getD c 0)), (.int .i64 (inv ((M2.getD c []).getD c 0)))] rfl rfl cf40 up_none (.int .i64 (md (((M2.getD (c + 1 + j) []).getD c 0) * (inv ((M2.getD c []).getD c 0))))) (fun wq => c_spec_Times wq _ _ (hd23.getI (by first | omega | assumption | (simp only [List.length_nil, List.length_cons, List.length_append, List.length_set, List.length_replicate]; omega) | (simp [List.length_nil, List.length_cons, List.length_append, List.length_set, List.length_replicate]; done) | (simp [List.length_nil, List.length_cons, List.length_append, List.length_set, List.length_replicate]; omega))).2 (inv_rng _)) ?_
            obtain ⟨G27, ha27, hb27, hc27, hd27, he27⟩ := hL19_0.row_two o1 [] (by first | omega | assumption | (simp only [List.length_nil, List.length_cons, List.length_append, List.length_set, List.length_replicate]; omega) | (simp [List.length_nil, List.length_cons, List.length_append, List.length_set, List.length_replicate]; done) | (simp [List.length_nil, List.length_cons, List.length_append, List.length_set, List.length_replicate]; omega)) hl21
            refine lw_callE 95 [] [] [ue21, ue22, (.int .i64 (md (((M2.getD (c + 1 + j) []).getD c 0) * (inv ((M2.getD c []).getD c 0)))))] rfl rfl cf95 up_none (c_spec_l07Take _ _ _ _ _ _ _ ha27 hb27 (fun w2 h2 => (he27 _ _ (by omega) (by first | omega | assumption | (simp only [List.length_nil, List.length_cons, List.length_append, List.length_set, List.length_replicate]; omega) | (simp [List.length_nil, List.length_cons, List.length_append, List.length_set, List.length_replicate]; done) | (simp [List.length_nil, List.length_cons, List.length_append, List.length_set, List.length_replicate]; omega)) hl22 w2 h2.of_drew).imp fun C h => h.rd id) (md_rng _) (by have := hr2 (by omega); omega) (by exact hS2.num _) (by exact hS2.num _) (by exact md_num _)) ?_
            rintro e27 w27 ⟨rfl, hC27, hO27⟩
            replace hC27 := hC27.of_drew
            refine ⟨_, rfl, ?_⟩
            have hE27 : Ext w w27 := hC27.below hE19 (fun b hb => Nat.le_trans (Nat.le_refl _) (hc27 b hb).1) hE19.size
            have hF27 := hc27
            have hM27 := hd27 hC27 hO27
            have hzs27 : w19.heap.size ≤ w27.heap.size := hC27.size
            refine lw_nil ?_
            refine wp_plain _ [0, 0, 0] rfl ?_
            refine q_move (.int .i64 ((c + 1 + j : Nat) : Int)) rfl up_none ?_
            refine q_add (((c + 1 + j) + 1 : Nat) : Int) rfl rfl (w64n (by omega) (by first | omega | assumption | (simp only [List.length_nil, List.length_cons, List.length_append, List.length_set, List.length_replicate]; omega) | (simp [List.length_nil, List.length_cons, List.length_append, List.length_set, List.length_replicate]; done) | (simp [List.length_nil, List.length_cons, List.length_append, List.length_set, List.length_replicate]; omega))) up_none ?_
            refine q_assign (.int .i64 (((c + 1 + j) + 1 : Nat) : Int)) rfl up_none ?_
            refine lw_nil ?_
            exact ⟨((j + 1), (M2.set (c + 1 + j) (tkr (M2.getD (c + 1 + j) []) (M2.getD c []) (md (((M2.getD (c + 1 + j) []).getD c 0) * (inv ((M2.getD c []).getD c 0))))))), _, rfl, ⟨rfl, rfl, rfl, rfl, trivial⟩, ⟨hE27, hM27.up o2, (by first | omega | assumption | (simp only [List.length_nil, List.length_cons, List.length_append, List.length_set, List.length_replicate]; omega) | (simp [List.length_nil, List.length_cons, List.length_append, List.length_set, List.length_replicate]; done) | (simp [List.length_nil, List.length_cons, List.length_append, List.length_set, List.length_replicate]; omega)), (by exact Sq.set (r := c + 1 + j) hS2 (by omega) (by rw [tkr_len]; exact hS2.row _ (by omega)) (tkr_num _ _ _)), (by exact hidI (elim_rows hS1 hEl.out (by omega)))⟩, by first | omega | (dsimp only; omega)⟩
          ·
            refine q_lss false rfl rfl (decide_eq_false hc20) up_none ?_
            refine lw_nil ?_
            refine c_cond_f rfl ?_
            refine wp_exit ?_
            refine t_exit ?_
            refine t_exit ?_
            refine c_exit_here ?_
            refine wp_plain _ [0, 0, 0] rfl ?_
            refine q_move (.int .i64 ((c : Nat) : Int)) rfl up_none ?_
            refine q_add ((c + 1 : Nat) : Int) rfl rfl (w64n (by omega) (by first | omega | assumption | (simp only [List.length_nil, List.length_cons, List.length_append, List.length_set, List.length_replicate]; omega) | (simp [List.length_nil, List.length_cons, List.length_append, List.length_set, List.length_replicate]; done) | (simp [List.length_nil, List.length_cons, List.length_append, List.length_set, List.length_replicate]; omega))) up_none ?_
            refine q_assign (.int .i64 ((c + 1 : Nat) : Int)) rfl up_none ?_
            refine lw_nil ?_
            exact ⟨((c + 1), M2, (md (d2 * (((swapL M c p []).getD c []).getD c 0)))), _, rfl, ⟨rfl, rfl, rfl, trivial⟩, ⟨hE19, hL19_0.up o2, (by first | omega | assumption | (simp only [List.length_nil, List.length_cons, List.length_append, List.length_set, List.length_replicate]; omega) | (simp [List.length_nil, List.length_cons, List.length_append, List.length_set, List.length_replicate]; done) | (simp [List.length_nil, List.length_cons, List.length_append, List.length_set, List.length_replicate]; omega)), (by exact hS2), (by exact md_num _), (by exact hidI (by have h := det_step hdF.out (by omega) (by have h9 := hpe.out; omega); rw [← hpe.out] at h; rw [← hd2.out] at h; obtain rfl : j = a.length - (c + 1) := (by omega); rw [← hEl.out] at h; exact h))⟩, by first | omega | (dsimp only; omega)⟩
  ·
    refine q_lss false rfl rfl (decide_eq_false hc3) up_none ?_
    refine lw_nil ?_
    refine c_cond_f rfl ?_
    refine wp_exit ?_
    refine t_exit ?_
    refine t_exit ?_
    refine c_exit_here ?_
    refine wp_seq ?_
    refine wp_plain _ [0, 0] rfl ?_
    refine q_move (.int .i64 det) rfl up_none ?_
    refine q_assign (.int .i64 det) rfl up_none ?_
    refine lw_nil ?_
    refine wp_ret ?_
    exact post_ret [2] rfl (.int .i64 det) rfl ⟨(ret_int (det_end hdF.out (by omega))), hE2⟩

/- spec.DeterminantOf -/
theorem detO_rng (a : List (List Int)) : -9223372036854775808 ≤ (if sqB a then detM a else 0) ∧ (if sqB a then detM a else 0) ≤ 9223372036854775807 := by
  have := detM_rng a; split <;> omega

set_option maxHeartbeats 4000000 in
set_option maxRecDepth 100000 in
theorem c_spec_DeterminantOf (w : World) (va : Value) (a : List (List Int)) (ha : Rd (rdL (rdL rI)) w.heap va a)  :
    Calls Try.prog 12 #[va] w (fun e w' => e = .returned (.tuple #[.int .i64 (if sqB a then detM a else 0), .int .i64 (if sqB a then 0 else 1)]) ∧ Ext w w') := by
  refine calls_mk [va] 9 Try.func12 rfl rfl (by simp) ?_
  have hE0 : Ext w w := Ext.refl w
  have hl_va := ha.lenle
  refine wp_seq ?_
  refine wp_plain _ [0, 0] rfl ?_
  refine q_assign (.int .i64 ((0 : Nat) : Int)) rfl up_none ?_
  refine q_assign (.int .i64 ((0 : Nat) : Int)) rfl up_none ?_
  refine lw_nil ?_
  refine wp_seq ?_
  refine wp_seq ?_
  refine wp_plain _ [0, 3, 0] rfl ?_
  refine q_move va rfl up_none ?_
  refine lw_call 52 [] [] [va] rfl rfl cf52 up_none (c_spec_l07Square _ _ _ (ha.ext g2 hE0)) ?_
  rintro e1 w1 ⟨rfl, hX1⟩
  refine ⟨_, rfl, hX1, ?_⟩
  have hzs1 : w.heap.size ≤ w1.heap.size := hX1.size
  have hE1 : Ext w w1 := hE0.trans hX1
  refine q_not (!(sqB a)) rfl rfl up_none ?_
  refine lw_nil ?_
  cases hb2 : (!(sqB a))
  ·
    refine c_cond_f (by first | rfl | (show Value.bool _ = _; rw [hb2])) ?_
    refine wp_skip ?_
    refine wp_seq ?_
    refine wp_plain _ [0, 3, 0, 0] rfl ?_
    refine q_move va rfl up_none ?_
    refine lw_call 53 [] [] [va] rfl rfl cf53 up_none (c_spec_l07Det _ _ _ (ha.ext g2 hE1) (by exact (sq_of (by simpa using ‹(!sqB a) = false›)).1) (by exact (sq_of (by simpa using ‹(!sqB a) = false›)).2)) ?_
    rintro e3 w3 ⟨rfl, hX3⟩
    refine ⟨_, rfl, hX3, ?_⟩
    have hzs3 : w1.heap.size ≤ w3.heap.size := hX3.size
    have hE3 : Ext w w3 := hE1.trans hX3
    refine q_assign (.int .i64 (detM a)) rfl up_none ?_
    refine q_assign (.int .i64 ((0 : Nat) : Int)) rfl up_none ?_
    refine lw_nil ?_
    refine wp_ret ?_
    exact post_ret [2, 3] rfl (.tuple #[(.int .i64 (detM a)), (.int .i64 ((0 : Nat) : Int))]) rfl ⟨(by rw [if_pos (by simpa using ‹(!sqB a) = false›), if_pos (by simpa using ‹(!sqB a) = false›)]; rfl), hE3⟩
  ·
    refine c_cond_t (by first | rfl | (show Value.bool _ = _; rw [hb2])) ?_
    refine wp_seq ?_
    refine wp_plain _ [0, 0] rfl ?_
    refine q_assign (.int .i64 ((0 : Nat) : Int)) rfl up_none ?_
    refine q_assign (.int .i64 ((1 : Nat) : Int)) rfl up_none ?_
    refine lw_nil ?_
    refine wp_ret ?_
    refine t_ret ?_
    exact post_ret [2, 3] rfl (.tuple #[(.int .i64 ((0 : Nat) : Int)), (.int .i64 ((1 : Nat) : Int))]) rfl ⟨(by rw [if_neg (by simpa using ‹(!sqB a) = true›), if_neg (by simpa using ‹(!sqB a) = true›)]; rfl), hE1⟩

/- impl.DeterminantOf -/
set_option maxHeartbeats 4000000 in
set_option maxRecDepth 100000 in
theorem c_impl_DeterminantOf (w : World) (va : Value) (a : List (List Int)) (ha : Rd (rdL (rdL rI)) w.heap va a)  :
    Calls Try.prog 14 #[va] w (fun e w' => e = .returned (.tuple #[.int .i64 (if sqB a then detM a else 0), .int .i64 (if sqB a then 0 else 1)]) ∧ Ext w w') := by
  refine calls_mk [va] 9 Try.func14 rfl rfl (by simp) ?_
  have hE0 : Ext w w := Ext.refl w
  have hl_va := ha.lenle
  refine wp_seq ?_
  refine wp_plain _ [0, 0] rfl ?_
  refine q_assign (.int .i64 ((0 : Nat) : Int)) rfl up_none ?_
  refine q_assign (.int .i64 ((0 : Nat) : Int)) rfl up_none ?_
  refine lw_nil ?_
  refine wp_seq ?_
  refine wp_seq ?_
  refine wp_plain _ [0, 3, 0] rfl ?_
  refine q_move va rfl up_none ?_
  refine lw_call 54 [] [] [va] rfl rfl cf54 up_none (c_impl_isSquare _ _ _ (ha.ext g2 hE0)) ?_
  rintro e1 w1 ⟨rfl, hX1⟩
  refine ⟨_, rfl, hX1, ?_⟩
  have hzs1 : w.heap.size ≤ w1.heap.size := hX1.size
  have hE1 : Ext w w1 := hE0.trans hX1
  refine q_not (!(sqB a)) rfl rfl up_none ?_
  refine lw_nil ?_
  cases hb2 : (!(sqB a))
  ·
    refine c_cond_f (by first | rfl | (show Value.bool _ = _; rw [hb2])) ?_
    refine wp_skip ?_
    refine wp_seq ?_
    refine wp_plain _ [0, 3, 0, 0] rfl ?_
    refine q_move va rfl up_none ?_
    refine lw_call 55 [] [] [va] rfl rfl cf55 up_none (c_impl_determinant _ _ _ (ha.ext g2 hE1) (by exact (sq_of (by simpa using ‹(!sqB a) = false›)).1) (by exact (sq_of (by simpa using ‹(!sqB a) = false›)).2)) ?_
    rintro e3 w3 ⟨rfl, hX3⟩
    refine ⟨_, rfl, hX3, ?_⟩
    have hzs3 : w1.heap.size ≤ w3.heap.size := hX3.size
    have hE3 : Ext w w3 := hE1.trans hX3
    refine q_assign (.int .i64 (detM a)) rfl up_none ?_
    refine q_assign (.int .i64 ((0 : Nat) : Int)) rfl up_none ?_
    refine lw_nil ?_
    refine wp_ret ?_
    exact post_ret [2, 3] rfl (.tuple #[(.int .i64 (detM a)), (.int .i64 ((0 : Nat) : Int))]) rfl ⟨(by rw [if_pos (by simpa using ‹(!sqB a) = false›), if_pos (by simpa using ‹(!sqB a) = false›)]; rfl), hE3⟩
  ·
    refine c_cond_t (by first | rfl | (show Value.bool _ = _; rw [hb2])) ?_
    refine wp_seq ?_
    refine wp_plain _ [0, 0] rfl ?_
    refine q_assign (.int .i64 ((0 : Nat) : Int)) rfl up_none ?_
    refine q_assign (.int .i64 ((1 : Nat) : Int)) rfl up_none ?_
    refine lw_nil ?_
    refine wp_ret ?_
    refine t_ret ?_
    exact post_ret [2, 3] rfl (.tuple #[(.int .i64 ((0 : Nat) : Int)), (.int .i64 ((1 : Nat) : Int))]) rfl ⟨(by rw [if_neg (by simpa using ‹(!sqB a) = true›), if_neg (by simpa using ‹(!sqB a) = true›)]; rfl), hE1⟩
end Go.Proofs.Ytjgnlnlngcjfcaa
