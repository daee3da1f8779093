/- Contracts of functions: each says what the function returns for all arguments that meet its premises. Printed by gen.py. -/
import Derived.Test.YtjgnlnlngcjfcaaFwK
import Derived.Test.YtjgnlnlngcjfcaaMp
import Derived.Test.YtjgnlnlngcjfcaaT
import Derived.Test.YtjgnlnlngcjfcaaSa
import Derived.Test.YtjgnlnlngcjfcaaSb
import Derived.Test.YtjgnlnlngcjfcaaSc
import Derived.Test.YtjgnlnlngcjfcaaSf
import Derived.Test.YtjgnlnlngcjfcaaProg
namespace Go.Proofs.Ytjgnlnlngcjfcaa
open Go Go.RowKit
set_option linter.unusedVariables false
set_option linter.unusedSimpArgs false
attribute [local irreducible] LW
/- laws.szInt64SSS -/
set_option maxHeartbeats 4000000 in
set_option maxRecDepth 100000 in
theorem c_laws_szInt64SSS (w : World) (va : Value) (a : List (List (List Int))) (left : Int) (ha : Rd (rdL (rdL (rdL rI))) w.heap va a) (_hleft : -9223372036854775808 ≤ left ∧ left ≤ 9223372036854775807) (hL : 0 ≤ left ∧ left ≤ 1048576) :
    Calls Try.prog 42 #[va, .int .i64 left] w (fun e w' => e = .returned (.int .i64 (szT a left)) ∧ Ext w w') := by
  refine calls_mk [va, .int .i64 left] 27 Try.func42 rfl rfl (by simp) ?_
  have hE0 : Ext w w := Ext.refl w
  have hl_va := ha.lenle
  refine wp_seq ?_
  refine wp_plain _ [0] rfl ?_
  refine q_assign (.int .i64 ((0 : Nat) : Int)) rfl up_none ?_
  refine lw_nil ?_
  refine wp_seq ?_
  refine wp_plain _ [0, 0, 0, 0, 0] rfl ?_
  refine q_move (.int .i64 left) rfl up_none ?_
  refine q_move va rfl up_none ?_
  refine q_len (v := va) u45 rfl ha.isSl up_none ?_
  refine q_sub (left - ((a.length : Nat) : Int)) rfl rfl (w64 (by first | omega | assumption | (simp only [List.length_nil, List.length_cons, List.length_append, List.length_set, List.length_replicate]; omega) | (simp [List.length_nil, List.length_cons, List.length_append, List.length_set, List.length_replicate]; done) | (simp [List.length_nil, List.length_cons, List.length_append, List.length_set, List.length_replicate]; omega)) (by first | omega | assumption | (simp only [List.length_nil, List.length_cons, List.length_append, List.length_set, List.length_replicate]; omega) | (simp [List.length_nil, List.length_cons, List.length_append, List.length_set, List.length_replicate]; done) | (simp [List.length_nil, List.length_cons, List.length_append, List.length_set, List.length_replicate]; omega))) up_none ?_
  refine q_assign (.int .i64 (left - ((a.length : Nat) : Int))) rfl up_none ?_
  refine lw_nil ?_
  refine wp_seq ?_
  refine wp_seq ?_
  refine wp_plain _ [0, 0] rfl ?_
  refine q_move (.int .i64 (left - ((a.length : Nat) : Int))) rfl up_none ?_
  by_cases hc1 : left - ((a.length : Nat) : Int) < ((0 : Nat) : Int)
  ·
    refine q_lss true rfl rfl (decide_eq_true hc1) up_none ?_
    refine lw_nil ?_
    refine c_cond_t rfl ?_
    refine wp_seq ?_
    refine wp_plain _ [0] rfl ?_
    refine q_assign (.int .i64 (-1)) rfl up_none ?_
    refine lw_nil ?_
    refine wp_ret ?_
    refine t_ret ?_
    exact post_ret [4] rfl (.int .i64 (-1)) rfl ⟨(ret_int (by unfold szT; rw [if_pos (by omega)])), hE0⟩
  ·
    refine q_lss false rfl rfl (decide_eq_false hc1) up_none ?_
    refine lw_nil ?_
    refine c_cond_f rfl ?_
    refine wp_skip ?_
    refine wp_seq ?_
    refine wp_seq ?_
    refine wp_plain _ [0] rfl ?_
    refine q_assign (.int .i64 ((0 : Nat) : Int)) rfl up_none ?_
    refine lw_nil ?_
    refine wp_block ?_
    refine c_loop (S := Nat × Int) (fun (⟨k, l⟩ : Nat × Int) => ([(1, (.int .i64 l)), (5, (.int .i64 ((k : Nat) : Int))), (0, va)] : List (Nat × Value))) (fun (⟨k, l⟩ : Nat × Int) (W : World) => Ext w W ∧ k ≤ a.length ∧ (0 ≤ l ∧ l ≤ 1048576) ∧ szQ (a.drop k) l = szT a left) (fun (⟨k, l⟩ : Nat × Int) => a.length - k) (0, (left - ((a.length : Nat) : Int))) ⟨rfl, rfl, rfl, trivial⟩ ⟨hE0, (by first | omega | assumption | (simp only [List.length_nil, List.length_cons, List.length_append, List.length_set, List.length_replicate]; omega) | (simp [List.length_nil, List.length_cons, List.length_append, List.length_set, List.length_replicate]; done) | (simp [List.length_nil, List.length_cons, List.length_append, List.length_set, List.length_replicate]; omega)), (by omega), (by unfold szT; rw [if_neg (by omega), List.drop_zero])⟩ ?_
    clear hE0
    rintro ⟨k, l⟩ ρ2 w2 ⟨hE2, hp2_0, hl, hz⟩
    have hzs2 : w.heap.size ≤ w2.heap.size := hE2.size
    refine wp_seq ?_
    refine wp_seq ?_
    refine wp_plain _ [0, 0, 0, 0] rfl ?_
    refine q_move (.int .i64 ((k : Nat) : Int)) rfl up_none ?_
    refine q_move va rfl up_none ?_
    refine q_len (v := va) u45 rfl ha.isSl up_none ?_
    by_cases hc3 : ((k : Nat) : Int) < ((a.length : Nat) : Int)
    ·
      refine q_lss true rfl rfl (decide_eq_true hc3) up_none ?_
      refine lw_nil ?_
      refine c_cond_t rfl ?_
      refine wp_skip ?_
      refine wp_seq ?_
      refine wp_block ?_
      refine wp_seq ?_
      refine wp_plain _ [0, 0, 0, 2, 0, 3, 0] rfl ?_
      refine q_move va rfl up_none ?_
      refine q_move (.int .i64 ((k : Nat) : Int)) rfl up_none ?_
      refine q_idx (v := va) k u45 ti22 rfl rfl ha.isSl rfl (by first | omega | assumption | (simp only [List.length_nil, List.length_cons, List.length_append, List.length_set, List.length_replicate]; omega) | (simp [List.length_nil, List.length_cons, List.length_append, List.length_set, List.length_replicate]; done) | (simp [List.length_nil, List.length_cons, List.length_append, List.length_set, List.length_replicate]; omega)) up_none ?_
      obtain ⟨ue4, hl4, hd4⟩ := ha.get (k := k) [] (by first | omega | assumption | (simp only [List.length_nil, List.length_cons, List.length_append, List.length_set, List.length_replicate]; omega) | (simp [List.length_nil, List.length_cons, List.length_append, List.length_set, List.length_replicate]; done) | (simp [List.length_nil, List.length_cons, List.length_append, List.length_set, List.length_replicate]; omega))
      have hln4 := hd4.lenle
      refine q_load (p := eptr va k 1) (.inr rfl) ue4 one22 rfl (ldH_ext hE2 hl4) up_none ?_
      refine q_move (.int .i64 l) rfl up_none ?_
      refine lw_call 11 [] [] [ue4, (.int .i64 l)] rfl rfl cf11 up_none (c_laws_szInt64SS _ _ _ _ (hd4.ext g2 hE2) (by omega) (by exact hl)) ?_
      rintro e5 w5 ⟨rfl, hX5⟩
      refine ⟨_, rfl, hX5, ?_⟩
      have hzs5 : w2.heap.size ≤ w5.heap.size := hX5.size
      have hE5 : Ext w w5 := hE2.trans hX5
      refine q_assign (.int .i64 (szM (a.getD k []) l)) rfl up_none ?_
      refine lw_nil ?_
      refine wp_seq ?_
      refine wp_plain _ [0, 0] rfl ?_
      refine q_move (.int .i64 (szM (a.getD k []) l)) rfl up_none ?_
      by_cases hc6 : szM (a.getD k []) l < ((0 : Nat) : Int)
      ·
        refine q_lss true rfl rfl (decide_eq_true hc6) up_none ?_
        refine lw_nil ?_
        refine c_cond_t rfl ?_
        refine wp_seq ?_
        refine wp_plain _ [0] rfl ?_
        refine q_assign (.int .i64 (-1)) rfl up_none ?_
        refine lw_nil ?_
        refine wp_ret ?_
        refine b_ret ?_
        refine t_ret ?_
        refine t_ret ?_
        refine b_ret ?_
        refine t_ret ?_
        exact post_ret [4] rfl (.int .i64 (-1)) rfl ⟨(ret_int (by rw [← hz, szQ_drop (by omega), if_pos (by omega)])), hE5⟩
      ·
        refine q_lss false rfl rfl (decide_eq_false hc6) up_none ?_
        refine lw_nil ?_
        refine c_cond_f rfl ?_
        refine wp_skip ?_
        refine wp_plain _ [0, 0, 0] rfl ?_
        refine q_move (.int .i64 ((k : Nat) : Int)) rfl up_none ?_
        refine q_add ((k + 1 : Nat) : Int) rfl rfl (w64n (by omega) (by first | omega | assumption | (simp only [List.length_nil, List.length_cons, List.length_append, List.length_set, List.length_replicate]; omega) | (simp [List.length_nil, List.length_cons, List.length_append, List.length_set, List.length_replicate]; done) | (simp [List.length_nil, List.length_cons, List.length_append, List.length_set, List.length_replicate]; omega))) up_none ?_
        refine q_assign (.int .i64 ((k + 1 : Nat) : Int)) rfl up_none ?_
        refine lw_nil ?_
        exact ⟨((k + 1), (szM (a.getD k []) l)), _, rfl, ⟨rfl, rfl, rfl, trivial⟩, ⟨hE5, (by first | omega | assumption | (simp only [List.length_nil, List.length_cons, List.length_append, List.length_set, List.length_replicate]; omega) | (simp [List.length_nil, List.length_cons, List.length_append, List.length_set, List.length_replicate]; done) | (simp [List.length_nil, List.length_cons, List.length_append, List.length_set, List.length_replicate]; omega)), (by have := szM_top (a.getD k []) hl; omega), (by have h := hz; rw [szQ_drop (by omega), if_neg (by omega)] at h; exact h)⟩, by first | omega | (dsimp only; omega)⟩
    ·
      refine q_lss false rfl rfl (decide_eq_false hc3) up_none ?_
      refine lw_nil ?_
      refine c_cond_f rfl ?_
      refine wp_exit ?_
      refine t_exit ?_
      refine t_exit ?_
      refine c_exit_here ?_
      refine wp_seq ?_
      refine wp_plain _ [0, 0] rfl ?_
      refine q_move (.int .i64 l) rfl up_none ?_
      refine q_assign (.int .i64 l) rfl up_none ?_
      refine lw_nil ?_
      refine wp_ret ?_
      exact post_ret [4] rfl (.int .i64 l) rfl ⟨(ret_int (by rw [← hz, List.drop_of_length_le (by omega)]; rfl)), hE2⟩

/- laws.toInt64SSS -/
set_option maxHeartbeats 4000000 in
set_option maxRecDepth 100000 in
theorem c_laws_toInt64SSS (w : World) (va : Value) (a : List (List (List Int))) (ha : Rd (rdL (rdL (rdL rI))) w.heap va a) (hla : a.length ≤ 1000000000000) (hlr : ∀ k, (a.getD k []).length ≤ 1000000000000 ∧ ∀ j, ((a.getD k []).getD j []).length ≤ 1000000000000) :
    Calls Try.prog 44 #[va] w (fun e w' => ∃ v0 : Value, e = .returned (v0) ∧ Ext w w' ∧ Fr (owL (owL (owL rI 2) 29) 22) w.heap.size w'.heap.size w'.heap v0 a) := by
  refine calls_mk [va] 23 Try.func44 rfl rfl (by simp) ?_
  have hE0 : Ext w w := Ext.refl w
  have hl_va := ha.lenle
  refine wp_seq ?_
  refine wp_plain _ [0] rfl ?_
  refine q_assign (.slice none 0 0) rfl up_none ?_
  refine lw_nil ?_
  refine wp_seq ?_
  refine wp_plain _ [0, 0, 3, 0] rfl ?_
  refine q_move va rfl up_none ?_
  refine q_len (v := va) u45 rfl ha.isSl up_none ?_
  refine r_make2 (owL (owL rI 2) 29) o2 (fun _ => .inl ⟨rfl, rfl, rfl⟩) (n := a.length) u45 ti22 rfl rfl rfl (by first | omega | assumption | (simp only [List.length_nil, List.length_cons, List.length_append, List.length_set, List.length_replicate]; omega) | (simp [List.length_nil, List.length_cons, List.length_append, List.length_set, List.length_replicate]; done) | (simp [List.length_nil, List.length_cons, List.length_append, List.length_set, List.length_replicate]; omega)) up_none ?_
  intro v1 w1 hX1 hz1 hO1
  have hzs1 : w.heap.size ≤ w1.heap.size := hX1.size
  have hE1 : Ext w w1 := hE0.trans hX1
  refine q_assign v1 rfl up_none ?_
  refine lw_nil ?_
  refine wp_seq ?_
  refine wp_seq ?_
  refine wp_plain _ [0] rfl ?_
  refine q_assign (.int .i64 ((0 : Nat) : Int)) rfl up_none ?_
  refine lw_nil ?_
  refine wp_block ?_
  refine c_loop (S := Nat) (fun (k : Nat) => ([(4, (.int .i64 ((k : Nat) : Int))), (0, va), (3, v1)] : List (Nat × Value))) (fun (k : Nat) (W : World) => Ext w W ∧ Fr (owL (owL (owL rI 2) 29) 22) w.heap.size W.heap.size W.heap v1 (mix k a (List.replicate a.length [])) ∧ k ≤ a.length) (fun (k : Nat) => a.length - k) 0 ⟨rfl, rfl, rfl, trivial⟩ ⟨hE1, (by rw [mix_zero]; exact hO1.up o3), (by first | omega | assumption | (simp only [List.length_nil, List.length_cons, List.length_append, List.length_set, List.length_replicate]; omega) | (simp [List.length_nil, List.length_cons, List.length_append, List.length_set, List.length_replicate]; done) | (simp [List.length_nil, List.length_cons, List.length_append, List.length_set, List.length_replicate]; omega))⟩ ?_
  clear hE0 hO1 hz1 hX1 hzs1 hE1
  rintro k ρ2 w2 ⟨hE2, hL2_0, hp2_0⟩
  have hzs2 : w.heap.size ≤ w2.heap.size := hE2.size
  have hml := mix_len k a (List.replicate a.length []) (by simp)
  rw [List.length_replicate] at hml
  refine wp_seq ?_
  refine wp_seq ?_
  refine wp_plain _ [0, 0, 0, 0] rfl ?_
  refine q_move (.int .i64 ((k : Nat) : Int)) rfl up_none ?_
  refine q_move va rfl up_none ?_
  refine q_len (v := va) u45 rfl ha.isSl up_none ?_
  by_cases hc3 : ((k : Nat) : Int) < ((a.length : Nat) : Int)
  ·
    refine q_lss true rfl rfl (decide_eq_true hc3) up_none ?_
    refine lw_nil ?_
    refine c_cond_t rfl ?_
    refine wp_skip ?_
    refine wp_seq ?_
    refine wp_block ?_
    refine wp_plain _ [0, 0, 0, 0, 0, 2, 3, 0, 4] rfl ?_
    refine q_move v1 rfl up_none ?_
    refine q_move (.int .i64 ((k : Nat) : Int)) rfl up_none ?_
    refine q_move va rfl up_none ?_
    refine q_move (.int .i64 ((k : Nat) : Int)) rfl up_none ?_
    refine q_idx (v := va) k u45 ti22 rfl rfl ha.isSl rfl (by first | omega | assumption | (simp only [List.length_nil, List.length_cons, List.length_append, List.length_set, List.length_replicate]; omega) | (simp [List.length_nil, List.length_cons, List.length_append, List.length_set, List.length_replicate]; done) | (simp [List.length_nil, List.length_cons, List.length_append, List.length_set, List.length_replicate]; omega)) up_none ?_
    obtain ⟨ue4, hl4, hd4⟩ := ha.get (k := k) [] (by first | omega | assumption | (simp only [List.length_nil, List.length_cons, List.length_append, List.length_set, List.length_replicate]; omega) | (simp [List.length_nil, List.length_cons, List.length_append, List.length_set, List.length_replicate]; done) | (simp [List.length_nil, List.length_cons, List.length_append, List.length_set, List.length_replicate]; omega))
    have hln4 := hd4.lenle
    refine q_load (p := eptr va k 1) (.inr rfl) ue4 one22 rfl (ldH_ext hE2 hl4) up_none ?_
    refine lw_call 13 [] [] [ue4] rfl rfl cf13 up_none (c_laws_toInt64SS _ _ _ (hd4.ext g2 hE2) (by exact (hlr _).1) (by exact (hlr _).2)) ?_
    rintro e5 w5 ⟨v5_0, rfl, hX5, hO5_0⟩
    refine ⟨_, rfl, hX5, ?_⟩
    have hzs5 : w2.heap.size ≤ w5.heap.size := hX5.size
    have hE5 : Ext w w5 := hE2.trans hX5
    have hL2_0x5 := hL2_0.ext (o3) hX5
    refine q_idx (v := v1) k u45 ti22 rfl rfl hL2_0x5.isSl rfl (by first | omega | assumption | (simp only [List.length_nil, List.length_cons, List.length_append, List.length_set, List.length_replicate]; omega) | (simp [List.length_nil, List.length_cons, List.length_append, List.length_set, List.length_replicate]; done) | (simp [List.length_nil, List.length_cons, List.length_append, List.length_set, List.length_replicate]; omega)) up_none ?_
    refine e_setF o2 (v := v1) (u := v5_0) (w := w5) sz22 rfl rfl hL2_0x5 hO5_0 (by omega) hE2.size (by first | omega | assumption | (simp only [List.length_nil, List.length_cons, List.length_append, List.length_set, List.length_replicate]; omega) | (simp [List.length_nil, List.length_cons, List.length_append, List.length_set, List.length_replicate]; done) | (simp [List.length_nil, List.length_cons, List.length_append, List.length_set, List.length_replicate]; omega)) up_none ?_
    intro w6 F6 hC6 hz6 hF6 hO6
    have hE6 : Ext w w6 := hC6.below hE5 (fun c hc => Nat.le_trans (Nat.le_refl _) (hF6 c hc).1) hE5.size
    have hzs6 : w5.heap.size ≤ w6.heap.size := hC6.size
    refine lw_nil ?_
    refine wp_plain _ [0, 0, 0] rfl ?_
    refine q_move (.int .i64 ((k : Nat) : Int)) rfl up_none ?_
    refine q_add ((k + 1 : Nat) : Int) rfl rfl (w64n (by omega) (by first | omega | assumption | (simp only [List.length_nil, List.length_cons, List.length_append, List.length_set, List.length_replicate]; omega) | (simp [List.length_nil, List.length_cons, List.length_append, List.length_set, List.length_replicate]; done) | (simp [List.length_nil, List.length_cons, List.length_append, List.length_set, List.length_replicate]; omega))) up_none ?_
    refine q_assign (.int .i64 ((k + 1 : Nat) : Int)) rfl up_none ?_
    refine lw_nil ?_
    exact ⟨(k + 1), _, rfl, ⟨rfl, rfl, rfl, trivial⟩, ⟨hE6, (by rw [← mix_set [] (by simp) (by simp; omega)]; exact hO6.up o3), (by first | omega | assumption | (simp only [List.length_nil, List.length_cons, List.length_append, List.length_set, List.length_replicate]; omega) | (simp [List.length_nil, List.length_cons, List.length_append, List.length_set, List.length_replicate]; done) | (simp [List.length_nil, List.length_cons, List.length_append, List.length_set, List.length_replicate]; omega))⟩, by first | omega | (dsimp only; omega)⟩
  ·
    refine q_lss false rfl rfl (decide_eq_false hc3) up_none ?_
    refine lw_nil ?_
    refine c_cond_f rfl ?_
    refine wp_exit ?_
    refine t_exit ?_
    refine t_exit ?_
    refine c_exit_here ?_
    refine wp_seq ?_
    refine wp_plain _ [0, 0] rfl ?_
    refine q_move v1 rfl up_none ?_
    refine q_assign v1 rfl up_none ?_
    refine lw_nil ?_
    refine wp_ret ?_
    exact post_ret [2] rfl v1 rfl ⟨v1, rfl, hE2, (by have h := hL2_0.up o3; rwa [mix_all (by simp) (by simp; omega)] at h)⟩

/- laws.eqInt64SSS -/
set_option maxHeartbeats 4000000 in
set_option maxRecDepth 100000 in
theorem c_laws_eqInt64SSS (w : World) (va : Value) (a : List (List (List Int))) (vb : Value) (b : List (List (List Int))) (ha : Rd (rdL (rdL (rdL rI))) w.heap va a) (hb : Rd (rdL (rdL (rdL rI))) w.heap vb b)  :
    Calls Try.prog 45 #[va, vb] w (fun e w' => e = .returned (.bool (decide (a = b))) ∧ Ext w w') := by
  refine calls_mk [va, vb] 27 Try.func45 rfl rfl (by simp) ?_
  have hE0 : Ext w w := Ext.refl w
  have hl_va := ha.lenle
  have hl_vb := hb.lenle
  refine wp_seq ?_
  refine wp_plain _ [0] rfl ?_
  refine q_assign (.bool false) rfl up_none ?_
  refine lw_nil ?_
  refine wp_seq ?_
  refine wp_seq ?_
  refine wp_plain _ [0, 0, 0, 0, 0] rfl ?_
  refine q_move va rfl up_none ?_
  refine q_len (v := va) u45 rfl ha.isSl up_none ?_
  refine q_move vb rfl up_none ?_
  refine q_len (v := vb) u45 rfl hb.isSl up_none ?_
  by_cases hc1 : ((a.length : Nat) : Int) ≠ ((b.length : Nat) : Int)
  ·
    refine q_neq true rfl rfl (decide_eq_true hc1) up_none ?_
    refine lw_nil ?_
    refine c_cond_t rfl ?_
    refine wp_seq ?_
    refine wp_plain _ [0] rfl ?_
    refine q_assign (.bool false) rfl up_none ?_
    refine lw_nil ?_
    refine wp_ret ?_
    refine t_ret ?_
    exact post_ret [4] rfl (.bool false) rfl ⟨(ret_bool (decide_eq_false (leq_len (by omega))).symm), hE0⟩
  ·
    refine q_neq false rfl rfl (decide_eq_false hc1) up_none ?_
    refine lw_nil ?_
    refine c_cond_f rfl ?_
    refine wp_skip ?_
    refine wp_seq ?_
    refine wp_seq ?_
    refine wp_plain _ [0] rfl ?_
    refine q_assign (.int .i64 ((0 : Nat) : Int)) rfl up_none ?_
    refine lw_nil ?_
    refine wp_block ?_
    refine c_loop (S := Nat) (fun (k : Nat) => ([(5, (.int .i64 ((k : Nat) : Int))), (0, va), (1, vb)] : List (Nat × Value))) (fun (k : Nat) (W : World) => Ext w W ∧ k ≤ a.length ∧ (∀ j, j < k → a.getD j [] = b.getD j [])) (fun (k : Nat) => a.length - k) 0 ⟨rfl, rfl, rfl, trivial⟩ ⟨hE0, (by first | omega | assumption | (simp only [List.length_nil, List.length_cons, List.length_append, List.length_set, List.length_replicate]; omega) | (simp [List.length_nil, List.length_cons, List.length_append, List.length_set, List.length_replicate]; done) | (simp [List.length_nil, List.length_cons, List.length_append, List.length_set, List.length_replicate]; omega)), (by intro j hj; omega)⟩ ?_
    clear hE0
    rintro k ρ2 w2 ⟨hE2, hp2_0, hq⟩
    have hzs2 : w.heap.size ≤ w2.heap.size := hE2.size
    refine wp_seq ?_
    refine wp_seq ?_
    refine wp_plain _ [0, 0, 0, 0] rfl ?_
    refine q_move (.int .i64 ((k : Nat) : Int)) rfl up_none ?_
    refine q_move va rfl up_none ?_
    refine q_len (v := va) u45 rfl ha.isSl up_none ?_
    by_cases hc3 : ((k : Nat) : Int) < ((a.length : Nat) : Int)
    ·
      refine q_lss true rfl rfl (decide_eq_true hc3) up_none ?_
      refine lw_nil ?_
      refine c_cond_t rfl ?_
      refine wp_skip ?_
      refine wp_seq ?_
      refine wp_block ?_
      refine wp_seq ?_
      refine wp_draw _ [0, 0, 0, 1, 0, 0, 0, 1, 3, 0] mixed (by kernel_rfl) ?_
      refine q_move va rfl up_none ?_
      refine q_move (.int .i64 ((k : Nat) : Int)) rfl up_none ?_
      refine q_idx (v := va) k u45 ti22 rfl rfl ha.isSl rfl (by first | omega | assumption | (simp only [List.length_nil, List.length_cons, List.length_append, List.length_set, List.length_replicate]; omega) | (simp [List.length_nil, List.length_cons, List.length_append, List.length_set, List.length_replicate]; done) | (simp [List.length_nil, List.length_cons, List.length_append, List.length_set, List.length_replicate]; omega)) up_none ?_
      obtain ⟨ue4, hl4, hd4⟩ := ha.get (k := k) [] (by first | omega | assumption | (simp only [List.length_nil, List.length_cons, List.length_append, List.length_set, List.length_replicate]; omega) | (simp [List.length_nil, List.length_cons, List.length_append, List.length_set, List.length_replicate]; done) | (simp [List.length_nil, List.length_cons, List.length_append, List.length_set, List.length_replicate]; omega))
      have hln4 := hd4.lenle
      refine q_load (p := eptr va k 1) (.inl rfl) ue4 one22 rfl (ldH_ext hE2.drew hl4) up_none ?_
      refine q_move vb rfl up_none ?_
      refine q_move (.int .i64 ((k : Nat) : Int)) rfl up_none ?_
      refine q_idx (v := vb) k u45 ti22 rfl rfl hb.isSl rfl (by first | omega | assumption | (simp only [List.length_nil, List.length_cons, List.length_append, List.length_set, List.length_replicate]; omega) | (simp [List.length_nil, List.length_cons, List.length_append, List.length_set, List.length_replicate]; done) | (simp [List.length_nil, List.length_cons, List.length_append, List.length_set, List.length_replicate]; omega)) up_none ?_
      obtain ⟨ue5, hl5, hd5⟩ := hb.get (k := k) [] (by first | omega | assumption | (simp only [List.length_nil, List.length_cons, List.length_append, List.length_set, List.length_replicate]; omega) | (simp [List.length_nil, List.length_cons, List.length_append, List.length_set, List.length_replicate]; done) | (simp [List.length_nil, List.length_cons, List.length_append, List.length_set, List.length_replicate]; omega))
      have hln5 := hd5.lenle
      refine q_load (p := eptr vb k 1) (.inl rfl) ue5 one22 rfl (ldH_ext hE2.drew hl5) up_none ?_
      refine lw_call 15 [] [] [ue4, ue5] rfl rfl cf15 up_none (c_laws_eqInt64SS _ _ _ _ _ (hd4.ext g2 hE2.drew) (hd5.ext g2 hE2.drew)) ?_
      rintro e6 w6 ⟨rfl, hX6⟩
      refine ⟨_, rfl, hX6, ?_⟩
      replace hX6 := hX6.of_drew
      have hzs6 : w2.heap.size ≤ w6.heap.size := hX6.size
      have hE6 : Ext w w6 := hE2.trans hX6
      refine q_not (!(decide ((a.getD k []) = (b.getD k [])))) rfl rfl up_none ?_
      refine lw_nil ?_
      cases hb7 : (!(decide ((a.getD k []) = (b.getD k []))))
      ·
        refine c_cond_f (by first | rfl | (show Value.bool _ = _; rw [hb7])) ?_
        refine wp_skip ?_
        refine wp_plain _ [0, 0, 0] rfl ?_
        refine q_move (.int .i64 ((k : Nat) : Int)) rfl up_none ?_
        refine q_add ((k + 1 : Nat) : Int) rfl rfl (w64n (by omega) (by first | omega | assumption | (simp only [List.length_nil, List.length_cons, List.length_append, List.length_set, List.length_replicate]; omega) | (simp [List.length_nil, List.length_cons, List.length_append, List.length_set, List.length_replicate]; done) | (simp [List.length_nil, List.length_cons, List.length_append, List.length_set, List.length_replicate]; omega))) up_none ?_
        refine q_assign (.int .i64 ((k + 1 : Nat) : Int)) rfl up_none ?_
        refine lw_nil ?_
        exact ⟨(k + 1), _, rfl, ⟨rfl, rfl, rfl, trivial⟩, ⟨hE6, (by first | omega | assumption | (simp only [List.length_nil, List.length_cons, List.length_append, List.length_set, List.length_replicate]; omega) | (simp [List.length_nil, List.length_cons, List.length_append, List.length_set, List.length_replicate]; done) | (simp [List.length_nil, List.length_cons, List.length_append, List.length_set, List.length_replicate]; omega)), (by exact leq_step hq (by simpa using ‹(!decide (a.getD k [] = b.getD k [])) = false›))⟩, by first | omega | (dsimp only; omega)⟩
      ·
        refine c_cond_t (by first | rfl | (show Value.bool _ = _; rw [hb7])) ?_
        refine wp_seq ?_
        refine wp_plain _ [0] rfl ?_
        refine q_assign (.bool false) rfl up_none ?_
        refine lw_nil ?_
        refine wp_ret ?_
        refine b_ret ?_
        refine t_ret ?_
        refine t_ret ?_
        refine b_ret ?_
        refine t_ret ?_
        exact post_ret [4] rfl (.bool false) rfl ⟨(ret_bool (decide_eq_false (leq_fail (d := []) (k := k) (by simpa using ‹(!decide (a.getD k [] = b.getD k [])) = true›))).symm), hE6⟩
    ·
      refine q_lss false rfl rfl (decide_eq_false hc3) up_none ?_
      refine lw_nil ?_
      refine c_cond_f rfl ?_
      refine wp_exit ?_
      refine t_exit ?_
      refine t_exit ?_
      refine c_exit_here ?_
      refine wp_seq ?_
      refine wp_plain _ [0] rfl ?_
      refine q_assign (.bool true) rfl up_none ?_
      refine lw_nil ?_
      refine wp_ret ?_
      exact post_ret [4] rfl (.bool true) rfl ⟨(ret_bool (decide_eq_true (leq_done hq (by omega) (by omega))).symm), hE2⟩

/- laws.markInt64SSS -/
set_option maxHeartbeats 4000000 in
set_option maxRecDepth 100000 in
theorem c_laws_markInt64SSS (w : World) (va : Value) (a : List (List (List Int))) (Fa : List Nat) (k : Int) (ha : owL (owL (owL rI 2) 29) 22 w.heap va a Fa) (hna : Fa.Nodup) (_hk : -9223372036854775808 ≤ k ∧ k ≤ 9223372036854775807) (hk : 0 ≤ k ∧ k + (tot3 a a.length : Int) ≤ 4611686018427387904) :
    Calls Try.prog 46 #[va, .int .i64 k] w (fun e w' => e = .returned (.int .i64 (k + ((tot3 a a.length : Nat) : Int))) ∧ Chg Fa w w' ∧ owL (owL (owL rI 2) 29) 22 w'.heap va (mk3 a k) Fa) := by
  refine calls_mk [va, .int .i64 k] 19 Try.func46 rfl rfl (by simp) ?_
  have hE0 : Chg Fa w w := Chg.refl Fa w
  have hl_va := ha.lenle
  unfold maxLen at hl_va
  refine wp_seq ?_
  refine wp_plain _ [0] rfl ?_
  refine q_assign (.int .i64 ((0 : Nat) : Int)) rfl up_none ?_
  refine lw_nil ?_
  refine wp_seq ?_
  refine wp_seq ?_
  refine wp_plain _ [0] rfl ?_
  refine q_assign (.int .i64 ((0 : Nat) : Int)) rfl up_none ?_
  refine lw_nil ?_
  refine wp_block ?_
  refine c_loop (S := Nat × Int) (fun (⟨j, l⟩ : Nat × Int) => ([(1, (.int .i64 l)), (5, (.int .i64 ((j : Nat) : Int))), (0, va)] : List (Nat × Value))) (fun (⟨j, l⟩ : Nat × Int) (W : World) => Chg Fa w W ∧ owL (owL (owL rI 2) 29) 22 W.heap va (mix j (mk3 a k) a) Fa ∧ j ≤ a.length ∧ l = k + ((tot3 a j : Nat) : Int)) (fun (⟨j, l⟩ : Nat × Int) => a.length - j) (0, k) ⟨rfl, rfl, rfl, trivial⟩ ⟨hE0, (by first | (rw [mix_zero]; exact ha) | (have h := ha; rw [hl, mix_ge [] (mk3_len _ _) (Nat.le_refl _) (by omega)] at h; unfold mk3; rw [mix_tab rfl (by omega)]; exact h)), (by first | omega | assumption | (simp only [List.length_nil, List.length_cons, List.length_append, List.length_set, List.length_replicate]; omega) | (simp [List.length_nil, List.length_cons, List.length_append, List.length_set, List.length_replicate]; done) | (simp [List.length_nil, List.length_cons, List.length_append, List.length_set, List.length_replicate]; omega)), (by rw [tot3_zero]; omega)⟩ ?_
  clear hE0
  rintro ⟨j, l⟩ ρ1 w1 ⟨hE1, hL1_0, hp1_0, hl⟩
  have hzs1 : w.heap.size ≤ w1.heap.size := hE1.size
  have hml := mix_len j (mk3 a k) a (mk3_len _ _)
  have hmo := tot3_mono a (j + 1)
  have hmi := tot3_mono a j
  refine wp_seq ?_
  refine wp_seq ?_
  refine wp_plain _ [0, 0, 0, 0] rfl ?_
  refine q_move (.int .i64 ((j : Nat) : Int)) rfl up_none ?_
  refine q_move va rfl up_none ?_
  refine q_len (v := va) u45 rfl (own_rdI3 hL1_0).isSl up_none ?_
  by_cases hc2 : ((j : Nat) : Int) < (((mix j (mk3 a k) a).length : Nat) : Int)
  ·
    refine q_lss true rfl rfl (decide_eq_true hc2) up_none ?_
    refine lw_nil ?_
    refine c_cond_t rfl ?_
    refine wp_skip ?_
    refine wp_seq ?_
    refine wp_block ?_
    refine wp_plain _ [0, 0, 0, 2, 0, 4, 0] rfl ?_
    refine q_move va rfl up_none ?_
    refine q_move (.int .i64 ((j : Nat) : Int)) rfl up_none ?_
    refine q_idx (v := va) j u45 ti22 rfl rfl (own_rdI3 hL1_0).isSl rfl (by first | omega | assumption | (simp only [List.length_nil, List.length_cons, List.length_append, List.length_set, List.length_replicate]; omega) | (simp [List.length_nil, List.length_cons, List.length_append, List.length_set, List.length_replicate]; done) | (simp [List.length_nil, List.length_cons, List.length_append, List.length_set, List.length_replicate]; omega)) up_none ?_
    obtain ⟨ue3, hl3, hd3⟩ := (own_rdI3 hL1_0).get (k := j) [] (by first | omega | assumption | (simp only [List.length_nil, List.length_cons, List.length_append, List.length_set, List.length_replicate]; omega) | (simp [List.length_nil, List.length_cons, List.length_append, List.length_set, List.length_replicate]; done) | (simp [List.length_nil, List.length_cons, List.length_append, List.length_set, List.length_replicate]; omega))
    have hln3 := hd3.lenle
    refine q_load (p := eptr va j 1) (.inr rfl) ue3 one22 rfl hl3 up_none ?_
    refine q_move (.int .i64 l) rfl up_none ?_
    obtain ⟨G4, ha4, hb4, hc4, hd4⟩ := own_row o2 [] hL1_0 hna (by first | omega | assumption | (simp only [List.length_nil, List.length_cons, List.length_append, List.length_set, List.length_replicate]; omega) | (simp [List.length_nil, List.length_cons, List.length_append, List.length_set, List.length_replicate]; done) | (simp [List.length_nil, List.length_cons, List.length_append, List.length_set, List.length_replicate]; omega)) hl3
    refine lw_callE 20 [] [] [ue3, (.int .i64 l)] rfl rfl cf20 up_none (c_laws_markInt64SS _ _ _ _ _ ha4 hb4 (by omega) (by rw [mix_ge [] (mk3_len _ _) (Nat.le_refl _) (by omega)]; have := tot3_succ (a := a) (i := j) (by omega); omega)) ?_
    rintro e4 w4 ⟨rfl, hC4, hO4⟩
    refine ⟨_, rfl, ?_⟩
    have hE4 : Chg Fa w w4 := hE1.trans (hC4.sub hc4)
    have hM4 := hd4 hC4 hO4
    refine q_assign (.int .i64 (l + ((tot ((mix j (mk3 a k) a).getD j []) ((mix j (mk3 a k) a).getD j []).length : Nat) : Int))) rfl up_none ?_
    refine lw_nil ?_
    refine wp_plain _ [0, 0, 0] rfl ?_
    refine q_move (.int .i64 ((j : Nat) : Int)) rfl up_none ?_
    refine q_add ((j + 1 : Nat) : Int) rfl rfl (w64n (by omega) (by first | omega | assumption | (simp only [List.length_nil, List.length_cons, List.length_append, List.length_set, List.length_replicate]; omega) | (simp [List.length_nil, List.length_cons, List.length_append, List.length_set, List.length_replicate]; done) | (simp [List.length_nil, List.length_cons, List.length_append, List.length_set, List.length_replicate]; omega))) up_none ?_
    refine q_assign (.int .i64 ((j + 1 : Nat) : Int)) rfl up_none ?_
    refine lw_nil ?_
    exact ⟨((j + 1), (l + ((tot ((mix j (mk3 a k) a).getD j []) ((mix j (mk3 a k) a).getD j []).length : Nat) : Int))), _, rfl, ⟨rfl, rfl, rfl, trivial⟩, ⟨hE4, (by first | (rw [mix_zero]; exact hM4) | (have h := hM4; rw [hl, mix_ge [] (mk3_len _ _) (Nat.le_refl _) (by omega)] at h; unfold mk3; rw [mix_tab rfl (by omega)]; exact h)), (by first | omega | assumption | (simp only [List.length_nil, List.length_cons, List.length_append, List.length_set, List.length_replicate]; omega) | (simp [List.length_nil, List.length_cons, List.length_append, List.length_set, List.length_replicate]; done) | (simp [List.length_nil, List.length_cons, List.length_append, List.length_set, List.length_replicate]; omega)), (by rw [tot3_succ (by omega), mix_ge [] (mk3_len _ _) (Nat.le_refl _) (by omega)]; omega)⟩, by first | omega | (dsimp only; omega)⟩
  ·
    refine q_lss false rfl rfl (decide_eq_false hc2) up_none ?_
    refine lw_nil ?_
    refine c_cond_f rfl ?_
    refine wp_exit ?_
    refine t_exit ?_
    refine t_exit ?_
    refine c_exit_here ?_
    refine wp_seq ?_
    refine wp_plain _ [0, 0] rfl ?_
    refine q_move (.int .i64 l) rfl up_none ?_
    refine q_assign (.int .i64 l) rfl up_none ?_
    refine lw_nil ?_
    refine wp_ret ?_
    exact post_ret [4] rfl (.int .i64 l) rfl ⟨(ret_int (by rw [hl, show j = a.length from by omega])), hE1, (by have h := hL1_0; rwa [mix_all (mk3_len _ _) (by omega)] at h)⟩
end Go.Proofs.Ytjgnlnlngcjfcaa
