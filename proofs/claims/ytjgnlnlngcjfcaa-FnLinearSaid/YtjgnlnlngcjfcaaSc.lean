/- Contracts of functions: each says what the function returns for all arguments that meet its premises. Printed by gen.py. -/
import Derived.Test.YtjgnlnlngcjfcaaMb
import Derived.Test.YtjgnlnlngcjfcaaT
import Derived.Test.YtjgnlnlngcjfcaaSa
import Derived.Test.YtjgnlnlngcjfcaaSb
import Derived.Test.YtjgnlnlngcjfcaaProg
namespace Go.Proofs.Ytjgnlnlngcjfcaa
open Go Go.RowKit
set_option linter.unusedVariables false
set_option linter.unusedSimpArgs false
attribute [local irreducible] LW
/- spec.l07Take -/
set_option maxHeartbeats 4000000 in
set_option maxRecDepth 100000 in
theorem c_spec_l07Take (w : World) (va : Value) (a : List Int) (Fa : List Nat) (vb : Value) (b : List Int) (y : Int) (ha : owL rI 2 w.heap va a Fa) (hna : Fa.Nodup) (hb : ∀ w', Chg Fa w w' → Rd (rdL rI) w'.heap vb b) (_hy : -9223372036854775808 ≤ y ∧ y ≤ 9223372036854775807) (hl : a.length ≤ b.length) (hqa : allN a = true) (hqb : allN b = true) (hy : 0 ≤ y ∧ y < 1000003) :
    Calls Try.prog 95 #[va, vb, .int .i64 y] w (fun e w' => e = .returned (.tuple #[]) ∧ Chg Fa w w' ∧ owL rI 2 w'.heap va (tkr a b y) Fa) := by
  refine calls_mk [va, vb, .int .i64 y] 27 Try.func95 rfl rfl (by simp) ?_
  have hE0 : Chg Fa w w := Chg.refl Fa w
  have hl_va := ha.lenle
  unfold maxLen at hl_va
  have hl_vb := (hb _ hE0).lenle
  refine wp_seq ?_
  refine wp_plain _ [0] rfl ?_
  refine q_assign (.int .i64 ((0 : Nat) : Int)) rfl up_none ?_
  refine lw_nil ?_
  refine wp_block ?_
  refine c_loop (S := Nat) (fun (k : Nat) => ([(6, (.int .i64 ((k : Nat) : Int))), (0, va), (1, vb), (2, (.int .i64 y))] : List (Nat × Value))) (fun (k : Nat) (W : World) => Chg Fa w W ∧ owL rI 2 W.heap va (mix k (tkr a b y) a) Fa ∧ k ≤ a.length) (fun (k : Nat) => a.length - k) 0 ⟨rfl, rfl, rfl, rfl, trivial⟩ ⟨hE0, (by first | (rw [mix_zero]; exact ha) | (have h := ha; rw [mix_ge 0 (tkr_len a b y) (Nat.le_refl _) (by omega)] at h; unfold tkr; rw [mix_tab rfl (by omega)]; exact h)), (by first | omega | assumption | (simp only [List.length_nil, List.length_cons, List.length_append, List.length_set, List.length_replicate]; omega) | (simp [List.length_nil, List.length_cons, List.length_append, List.length_set, List.length_replicate]; done) | (simp [List.length_nil, List.length_cons, List.length_append, List.length_set, List.length_replicate]; omega))⟩ ?_
  clear hE0
  rintro k ρ1 w1 ⟨hE1, hL1_0, hp1_0⟩
  have hzs1 : w.heap.size ≤ w1.heap.size := hE1.size
  have hml := mix_len k (tkr a b y) a (tkr_len a b y)
  have hgb := allN_get hqb k
  have hga := allN_get hqa k
  refine wp_seq ?_
  refine wp_seq ?_
  refine wp_plain _ [0, 0, 0, 0] rfl ?_
  refine q_move (.int .i64 ((k : Nat) : Int)) rfl up_none ?_
  refine q_move va rfl up_none ?_
  refine q_len (v := va) u29 rfl (hL1_0.rd id).isSl up_none ?_
  by_cases hc2 : ((k : Nat) : Int) < (((mix k (tkr a b y) a).length : Nat) : Int)
  ·
    refine q_lss true rfl rfl (decide_eq_true hc2) up_none ?_
    refine lw_nil ?_
    refine c_cond_t rfl ?_
    refine wp_skip ?_
    refine wp_seq ?_
    refine wp_block ?_
    refine wp_draw _ [0, 0, 0, 0, 0, 1, 0, 0, 0, 0, 1, 0, 0, 0, 4] mixed (by kernel_rfl) ?_
    refine q_move va rfl up_none ?_
    refine q_move (.int .i64 ((k : Nat) : Int)) rfl up_none ?_
    refine q_move va rfl up_none ?_
    refine q_move (.int .i64 ((k : Nat) : Int)) rfl up_none ?_
    refine q_idx (v := va) k u29 ti2 rfl rfl (hL1_0.rd id).isSl rfl (by first | omega | assumption | (simp only [List.length_nil, List.length_cons, List.length_append, List.length_set, List.length_replicate]; omega) | (simp [List.length_nil, List.length_cons, List.length_append, List.length_set, List.length_replicate]; done) | (simp [List.length_nil, List.length_cons, List.length_append, List.length_set, List.length_replicate]; omega)) up_none ?_
    refine q_load (p := eptr va k 1) (.inl rfl) (.int .i64 ((mix k (tkr a b y) a).getD k 0)) one2 rfl ((own_rdI hL1_0).getI (by first | omega | assumption | (simp only [List.length_nil, List.length_cons, List.length_append, List.length_set, List.length_replicate]; omega) | (simp [List.length_nil, List.length_cons, List.length_append, List.length_set, List.length_replicate]; done) | (simp [List.length_nil, List.length_cons, List.length_append, List.length_set, List.length_replicate]; omega))).1 up_none ?_
    refine q_move (.int .i64 y) rfl up_none ?_
    refine q_move vb rfl up_none ?_
    refine q_move (.int .i64 ((k : Nat) : Int)) rfl up_none ?_
    refine q_idx (v := vb) k u29 ti2 rfl rfl (hb _ hE1.drew).isSl rfl (by first | omega | assumption | (simp only [List.length_nil, List.length_cons, List.length_append, List.length_set, List.length_replicate]; omega) | (simp [List.length_nil, List.length_cons, List.length_append, List.length_set, List.length_replicate]; done) | (simp [List.length_nil, List.length_cons, List.length_append, List.length_set, List.length_replicate]; omega)) up_none ?_
    refine q_load (p := eptr vb k 1) (.inl rfl) (.int .i64 (b.getD k 0)) one2 rfl ((hb _ hE1.drew).getI (by first | omega | assumption | (simp only [List.length_nil, List.length_cons, List.length_append, List.length_set, List.length_replicate]; omega) | (simp [List.length_nil, List.length_cons, List.length_append, List.length_set, List.length_replicate]; done) | (simp [List.length_nil, List.length_cons, List.length_append, List.length_set, List.length_replicate]; omega))).1 up_none ?_
    refine lw_callq 40 [] [] [(.int .i64 y), (.int .i64 (b.getD k 0))] rfl rfl cf40 up_none (.int .i64 (md (y * (b.getD k 0)))) (fun wq => c_spec_Times wq _ _ _hy ((hb _ hE1.drew).getI (by first | omega | assumption | (simp only [List.length_nil, List.length_cons, List.length_append, List.length_set, List.length_replicate]; omega) | (simp [List.length_nil, List.length_cons, List.length_append, List.length_set, List.length_replicate]; done) | (simp [List.length_nil, List.length_cons, List.length_append, List.length_set, List.length_replicate]; omega))).2) ?_
    refine lw_callq 116 [] [] [(.int .i64 ((mix k (tkr a b y) a).getD k 0)), (.int .i64 (md (y * (b.getD k 0))))] rfl rfl cf116 up_none (.int .i64 (md (((mix k (tkr a b y) a).getD k 0) - (md (y * (b.getD k 0)))))) (fun wq => c_spec_l01Minus wq _ _ ((own_rdI hL1_0).getI (by first | omega | assumption | (simp only [List.length_nil, List.length_cons, List.length_append, List.length_set, List.length_replicate]; omega) | (simp [List.length_nil, List.length_cons, List.length_append, List.length_set, List.length_replicate]; done) | (simp [List.length_nil, List.length_cons, List.length_append, List.length_set, List.length_replicate]; omega))).2 (md_rng _) (by have h1 := md_num (y * b.getD k 0); rw [mix_ge 0 (tkr_len a b y) (Nat.le_refl _) (by omega)]; omega)) ?_
    refine q_idx (v := va) k u29 ti2 rfl rfl (hL1_0.rd id).isSl rfl (by first | omega | assumption | (simp only [List.length_nil, List.length_cons, List.length_append, List.length_set, List.length_replicate]; omega) | (simp [List.length_nil, List.length_cons, List.length_append, List.length_set, List.length_replicate]; done) | (simp [List.length_nil, List.length_cons, List.length_append, List.length_set, List.length_replicate]; omega)) up_none ?_
    refine e_set0 (v := va) (w := w1.drew) sz2 rfl rfl (md_rng _) hL1_0 hna (by first | omega | assumption | (simp only [List.length_nil, List.length_cons, List.length_append, List.length_set, List.length_replicate]; omega) | (simp [List.length_nil, List.length_cons, List.length_append, List.length_set, List.length_replicate]; done) | (simp [List.length_nil, List.length_cons, List.length_append, List.length_set, List.length_replicate]; omega)) up_none ?_
    intro w5 hC5 hz5 hO5
    replace hC5 := hC5.of_drew
    have hE5 : Chg Fa w w5 := hE1.trans hC5
    refine lw_nil ?_
    refine wp_plain _ [0, 0, 0] rfl ?_
    refine q_move (.int .i64 ((k : Nat) : Int)) rfl up_none ?_
    refine q_add ((k + 1 : Nat) : Int) rfl rfl (w64n (by omega) (by first | omega | assumption | (simp only [List.length_nil, List.length_cons, List.length_append, List.length_set, List.length_replicate]; omega) | (simp [List.length_nil, List.length_cons, List.length_append, List.length_set, List.length_replicate]; done) | (simp [List.length_nil, List.length_cons, List.length_append, List.length_set, List.length_replicate]; omega))) up_none ?_
    refine q_assign (.int .i64 ((k + 1 : Nat) : Int)) rfl up_none ?_
    refine lw_nil ?_
    exact ⟨(k + 1), _, rfl, ⟨rfl, rfl, rfl, rfl, trivial⟩, ⟨hE5, (by first | (rw [mix_zero]; exact hO5) | (have h := hO5; rw [mix_ge 0 (tkr_len a b y) (Nat.le_refl _) (by omega)] at h; unfold tkr; rw [mix_tab rfl (by omega)]; exact h)), (by first | omega | assumption | (simp only [List.length_nil, List.length_cons, List.length_append, List.length_set, List.length_replicate]; omega) | (simp [List.length_nil, List.length_cons, List.length_append, List.length_set, List.length_replicate]; done) | (simp [List.length_nil, List.length_cons, List.length_append, List.length_set, List.length_replicate]; omega))⟩, by first | omega | (dsimp only; omega)⟩
  ·
    refine q_lss false rfl rfl (decide_eq_false hc2) up_none ?_
    refine lw_nil ?_
    refine c_cond_f rfl ?_
    refine wp_exit ?_
    refine t_exit ?_
    refine t_exit ?_
    refine c_exit_here ?_
    exact post_end [] rfl (.tuple #[]) rfl ⟨rfl, hE1, (by have h := hL1_0; rwa [mix_all (tkr_len a b y) (by omega)] at h)⟩

/- spec.l07Square -/
set_option maxHeartbeats 4000000 in
set_option maxRecDepth 100000 in
theorem c_spec_l07Square (w : World) (va : Value) (a : List (List Int)) (ha : Rd (rdL (rdL rI)) w.heap va a)  :
    Calls Try.prog 52 #[va] w (fun e w' => e = .returned (.bool (sqB a)) ∧ Ext w w') := by
  refine calls_mk [va] 29 Try.func52 rfl rfl (by simp) ?_
  have hE0 : Ext w w := Ext.refl w
  have hl_va := ha.lenle
  refine wp_seq ?_
  refine wp_plain _ [0] rfl ?_
  refine q_assign (.bool false) rfl up_none ?_
  refine lw_nil ?_
  refine wp_seq ?_
  refine wp_seq ?_
  refine wp_plain _ [0] rfl ?_
  refine q_assign (.int .i64 ((0 : Nat) : Int)) rfl up_none ?_
  refine lw_nil ?_
  refine wp_block ?_
  refine c_loop (S := Nat) (fun (k : Nat) => ([(3, (.int .i64 ((k : Nat) : Int))), (0, va)] : List (Nat × Value))) (fun (k : Nat) (W : World) => Ext w W ∧ k ≤ a.length ∧ ((a.take k).all (fun r => decide (r.length = a.length) && allN r) = true)) (fun (k : Nat) => a.length - k) 0 ⟨rfl, rfl, trivial⟩ ⟨hE0, (by first | omega | assumption | (simp only [List.length_nil, List.length_cons, List.length_append, List.length_set, List.length_replicate]; omega) | (simp [List.length_nil, List.length_cons, List.length_append, List.length_set, List.length_replicate]; done) | (simp [List.length_nil, List.length_cons, List.length_append, List.length_set, List.length_replicate]; omega)), (by exact rfl)⟩ ?_
  clear hE0
  rintro k ρ1 w1 ⟨hE1, hp1_0, hq⟩
  have hzs1 : w.heap.size ≤ w1.heap.size := hE1.size
  refine wp_seq ?_
  refine wp_seq ?_
  refine wp_plain _ [0, 0, 0, 0] rfl ?_
  refine q_move (.int .i64 ((k : Nat) : Int)) rfl up_none ?_
  refine q_move va rfl up_none ?_
  refine q_len (v := va) u22 rfl ha.isSl up_none ?_
  by_cases hc2 : ((k : Nat) : Int) < ((a.length : Nat) : Int)
  ·
    refine q_lss true rfl rfl (decide_eq_true hc2) up_none ?_
    refine lw_nil ?_
    refine c_cond_t rfl ?_
    refine wp_skip ?_
    refine wp_seq ?_
    refine wp_block ?_
    refine wp_seq ?_
    refine wp_plain _ [0, 0, 0, 2, 0, 0, 0, 0, 0, 0, 0, 0, 2, 3, 0, 0] rfl ?_
    refine q_move va rfl up_none ?_
    refine q_move (.int .i64 ((k : Nat) : Int)) rfl up_none ?_
    refine q_idx (v := va) k u22 ti29 rfl rfl ha.isSl rfl (by first | omega | assumption | (simp only [List.length_nil, List.length_cons, List.length_append, List.length_set, List.length_replicate]; omega) | (simp [List.length_nil, List.length_cons, List.length_append, List.length_set, List.length_replicate]; done) | (simp [List.length_nil, List.length_cons, List.length_append, List.length_set, List.length_replicate]; omega)) up_none ?_
    obtain ⟨ue3, hl3, hd3⟩ := ha.get (k := k) [] (by first | omega | assumption | (simp only [List.length_nil, List.length_cons, List.length_append, List.length_set, List.length_replicate]; omega) | (simp [List.length_nil, List.length_cons, List.length_append, List.length_set, List.length_replicate]; done) | (simp [List.length_nil, List.length_cons, List.length_append, List.length_set, List.length_replicate]; omega))
    have hln3 := hd3.lenle
    refine q_load (p := eptr va k 1) (.inr rfl) ue3 one29 rfl (ldH_ext hE1 hl3) up_none ?_
    refine q_len (v := ue3) u29 rfl hd3.isSl up_none ?_
    refine q_move va rfl up_none ?_
    refine q_len (v := va) u22 rfl ha.isSl up_none ?_
    by_cases hc4 : (((a.getD k []).length : Nat) : Int) ≠ ((a.length : Nat) : Int)
    ·
      refine q_neq true rfl rfl (decide_eq_true hc4) up_none ?_
      refine q_move (.bool true) rfl up_none ?_
      refine lw_skip (e := 18) (c := true) rfl rfl rfl rfl ?_
      refine lw_skip (e := 18) (c := true) rfl rfl rfl rfl ?_
      refine lw_skip (e := 18) (c := true) rfl rfl rfl rfl ?_
      refine lw_skip (e := 18) (c := true) rfl rfl rfl rfl ?_
      refine lw_skip (e := 18) (c := true) rfl rfl rfl rfl ?_
      refine lw_skip (e := 18) (c := true) rfl rfl rfl rfl ?_
      refine q_pick true (.bool true) rfl rfl up_none ?_
      refine lw_nil ?_
      refine c_cond_t rfl ?_
      refine wp_seq ?_
      refine wp_plain _ [0] rfl ?_
      refine q_assign (.bool false) rfl up_none ?_
      refine lw_nil ?_
      refine wp_ret ?_
      refine b_ret ?_
      refine t_ret ?_
      refine t_ret ?_
      refine b_ret ?_
      refine t_ret ?_
      exact post_ret [2] rfl (.bool false) rfl ⟨(ret_bool (by unfold sqB; rw [all_fail (f := fun r => decide (r.length = a.length) && allN r) (k := k) [] (by omega) (by rw [Bool.and_eq_false_iff]; left; exact decide_eq_false (by omega)), Bool.and_false])), hE1⟩
    ·
      refine q_neq false rfl rfl (decide_eq_false hc4) up_none ?_
      refine q_move (.bool false) rfl up_none ?_
      refine q_move va rfl (up_some (e := 18) rfl rfl rfl) ?_
      refine q_move (.int .i64 ((k : Nat) : Int)) rfl (up_some (e := 18) rfl rfl rfl) ?_
      refine q_idx (v := va) k u22 ti29 rfl rfl ha.isSl rfl (by first | omega | assumption | (simp only [List.length_nil, List.length_cons, List.length_append, List.length_set, List.length_replicate]; omega) | (simp [List.length_nil, List.length_cons, List.length_append, List.length_set, List.length_replicate]; done) | (simp [List.length_nil, List.length_cons, List.length_append, List.length_set, List.length_replicate]; omega)) (up_some (e := 18) rfl rfl rfl) ?_
      obtain ⟨ue5, hl5, hd5⟩ := ha.get (k := k) [] (by first | omega | assumption | (simp only [List.length_nil, List.length_cons, List.length_append, List.length_set, List.length_replicate]; omega) | (simp [List.length_nil, List.length_cons, List.length_append, List.length_set, List.length_replicate]; done) | (simp [List.length_nil, List.length_cons, List.length_append, List.length_set, List.length_replicate]; omega))
      have hln5 := hd5.lenle
      refine q_load (p := eptr va k 1) (.inr rfl) ue5 one29 rfl (ldH_ext hE1 hl5) (up_some (e := 18) rfl rfl rfl) ?_
      refine lw_call 69 [] [] [ue5] rfl rfl cf69 (up_some (e := 18) rfl rfl rfl) (c_spec_l01Numbers _ _ _ (hd5.ext g1 hE1)) ?_
      rintro e6 w6 ⟨rfl, hX6⟩
      refine ⟨_, rfl, hX6, ?_⟩
      have hzs6 : w1.heap.size ≤ w6.heap.size := hX6.size
      have hE6 : Ext w w6 := hE1.trans hX6
      refine q_not (!(allN (a.getD k []))) rfl rfl (up_some (e := 18) rfl rfl rfl) ?_
      refine q_pick false (.bool (!(allN (a.getD k [])))) rfl rfl up_none ?_
      refine lw_nil ?_
      cases hb7 : (!(allN (a.getD k [])))
      ·
        refine c_cond_f (by first | rfl | (show Value.bool _ = _; rw [hb7])) ?_
        refine wp_skip ?_
        refine wp_plain _ [0, 0, 0] rfl ?_
        refine q_move (.int .i64 ((k : Nat) : Int)) rfl up_none ?_
        refine q_add ((k + 1 : Nat) : Int) rfl rfl (w64n (by omega) (by first | omega | assumption | (simp only [List.length_nil, List.length_cons, List.length_append, List.length_set, List.length_replicate]; omega) | (simp [List.length_nil, List.length_cons, List.length_append, List.length_set, List.length_replicate]; done) | (simp [List.length_nil, List.length_cons, List.length_append, List.length_set, List.length_replicate]; omega))) up_none ?_
        refine q_assign (.int .i64 ((k + 1 : Nat) : Int)) rfl up_none ?_
        refine lw_nil ?_
        exact ⟨(k + 1), _, rfl, ⟨rfl, rfl, trivial⟩, ⟨hE6, (by first | omega | assumption | (simp only [List.length_nil, List.length_cons, List.length_append, List.length_set, List.length_replicate]; omega) | (simp [List.length_nil, List.length_cons, List.length_append, List.length_set, List.length_replicate]; done) | (simp [List.length_nil, List.length_cons, List.length_append, List.length_set, List.length_replicate]; omega)), (by exact all_succ (f := fun r => decide (r.length = a.length) && allN r) [] hq (by omega) (by simp only [Bool.and_eq_true, decide_eq_true_eq]; exact ⟨by omega, by simpa using ‹(!allN (a.getD k [])) = false›⟩))⟩, by first | omega | (dsimp only; omega)⟩
      ·
        refine c_cond_t (by first | rfl | (show Value.bool _ = _; rw [hb7])) ?_
        refine wp_seq ?_
        refine wp_plain _ [0] rfl ?_
        refine q_assign (.bool false) rfl up_none ?_
        refine lw_nil ?_
        refine wp_ret ?_
        refine b_ret ?_
        refine t_ret ?_
        refine t_ret ?_
        refine b_ret ?_
        refine t_ret ?_
        exact post_ret [2] rfl (.bool false) rfl ⟨(ret_bool (by unfold sqB; rw [all_fail (f := fun r => decide (r.length = a.length) && allN r) (k := k) [] (by omega) (by rw [Bool.and_eq_false_iff]; right; simpa using ‹(!allN (a.getD k [])) = true›), Bool.and_false])), hE6⟩
  ·
    refine q_lss false rfl rfl (decide_eq_false hc2) up_none ?_
    refine lw_nil ?_
    refine c_cond_f rfl ?_
    refine wp_exit ?_
    refine t_exit ?_
    refine t_exit ?_
    refine c_exit_here ?_
    refine wp_seq ?_
    refine wp_plain _ [0, 0, 0, 0] rfl ?_
    refine q_move va rfl up_none ?_
    refine q_len (v := va) u22 rfl ha.isSl up_none ?_
    refine q_leq (decide (((a.length : Nat) : Int) ≤ ((6 : Nat) : Int))) rfl rfl rfl up_none ?_
    refine q_assign (.bool (decide (((a.length : Nat) : Int) ≤ ((6 : Nat) : Int)))) rfl up_none ?_
    refine lw_nil ?_
    refine wp_ret ?_
    exact post_ret [2] rfl (.bool (decide (((a.length : Nat) : Int) ≤ ((6 : Nat) : Int)))) rfl ⟨(ret_bool (by unfold sqB; rw [all_done hq (by omega), Bool.and_true]; exact decide_eq_decide.2 (by omega))), hE1⟩

/- laws.eqInt64S -/
set_option maxHeartbeats 4000000 in
set_option maxRecDepth 100000 in
theorem c_laws_eqInt64S (w : World) (va : Value) (a : List Int) (vb : Value) (b : List Int) (ha : Rd (rdL rI) w.heap va a) (hb : Rd (rdL rI) w.heap vb b)  :
    Calls Try.prog 19 #[va, vb] w (fun e w' => e = .returned (.bool (decide (a = b))) ∧ Ext w w') := by
  refine calls_mk [va, vb] 26 Try.func19 rfl rfl (by simp) ?_
  have hE0 : Ext w w := Ext.refl w
  have hl_va := ha.lenle
  have hl_vb := hb.lenle
  refine wp_seq ?_
  refine wp_plain _ [0] rfl ?_
  refine q_assign (.bool false) rfl up_none ?_
  refine lw_nil ?_
  refine wp_seq ?_
  refine wp_seq ?_
  refine wp_plain _ [0, 0, 0, 0, 0] rfl ?_
  refine q_move va rfl up_none ?_
  refine q_len (v := va) u29 rfl ha.isSl up_none ?_
  refine q_move vb rfl up_none ?_
  refine q_len (v := vb) u29 rfl hb.isSl up_none ?_
  by_cases hc1 : ((a.length : Nat) : Int) ≠ ((b.length : Nat) : Int)
  ·
    refine q_neq true rfl rfl (decide_eq_true hc1) up_none ?_
    refine lw_nil ?_
    refine c_cond_t rfl ?_
    refine wp_seq ?_
    refine wp_plain _ [0] rfl ?_
    refine q_assign (.bool false) rfl up_none ?_
    refine lw_nil ?_
    refine wp_ret ?_
    refine t_ret ?_
    exact post_ret [4] rfl (.bool false) rfl ⟨(ret_bool (decide_eq_false (leq_len (by omega))).symm), hE0⟩
  ·
    refine q_neq false rfl rfl (decide_eq_false hc1) up_none ?_
    refine lw_nil ?_
    refine c_cond_f rfl ?_
    refine wp_skip ?_
    refine wp_seq ?_
    refine wp_seq ?_
    refine wp_plain _ [0] rfl ?_
    refine q_assign (.int .i64 ((0 : Nat) : Int)) rfl up_none ?_
    refine lw_nil ?_
    refine wp_block ?_
    refine c_loop (S := Nat) (fun (k : Nat) => ([(5, (.int .i64 ((k : Nat) : Int))), (0, va), (1, vb)] : List (Nat × Value))) (fun (k : Nat) (W : World) => Ext w W ∧ k ≤ a.length ∧ (∀ j, j < k → a.getD j 0 = b.getD j 0)) (fun (k : Nat) => a.length - k) 0 ⟨rfl, rfl, rfl, trivial⟩ ⟨hE0, (by first | omega | assumption | (simp only [List.length_nil, List.length_cons, List.length_append, List.length_set, List.length_replicate]; omega) | (simp [List.length_nil, List.length_cons, List.length_append, List.length_set, List.length_replicate]; done) | (simp [List.length_nil, List.length_cons, List.length_append, List.length_set, List.length_replicate]; omega)), (by intro j hj; omega)⟩ ?_
    clear hE0
    rintro k ρ2 w2 ⟨hE2, hp2_0, hq⟩
    have hzs2 : w.heap.size ≤ w2.heap.size := hE2.size
    refine wp_seq ?_
    refine wp_seq ?_
    refine wp_plain _ [0, 0, 0, 0] rfl ?_
    refine q_move (.int .i64 ((k : Nat) : Int)) rfl up_none ?_
    refine q_move va rfl up_none ?_
    refine q_len (v := va) u29 rfl ha.isSl up_none ?_
    by_cases hc3 : ((k : Nat) : Int) < ((a.length : Nat) : Int)
    ·
      refine q_lss true rfl rfl (decide_eq_true hc3) up_none ?_
      refine lw_nil ?_
      refine c_cond_t rfl ?_
      refine wp_skip ?_
      refine wp_seq ?_
      refine wp_block ?_
      refine wp_seq ?_
      refine wp_draw _ [0, 0, 0, 1, 0, 0, 0, 1, 0] mixed (by kernel_rfl) ?_
      refine q_move va rfl up_none ?_
      refine q_move (.int .i64 ((k : Nat) : Int)) rfl up_none ?_
      refine q_idx (v := va) k u29 ti2 rfl rfl ha.isSl rfl (by first | omega | assumption | (simp only [List.length_nil, List.length_cons, List.length_append, List.length_set, List.length_replicate]; omega) | (simp [List.length_nil, List.length_cons, List.length_append, List.length_set, List.length_replicate]; done) | (simp [List.length_nil, List.length_cons, List.length_append, List.length_set, List.length_replicate]; omega)) up_none ?_
      refine q_load (p := eptr va k 1) (.inl rfl) (.int .i64 (a.getD k 0)) one2 rfl (ldH_ext hE2.drew (ha.getI (by first | omega | assumption | (simp only [List.length_nil, List.length_cons, List.length_append, List.length_set, List.length_replicate]; omega) | (simp [List.length_nil, List.length_cons, List.length_append, List.length_set, List.length_replicate]; done) | (simp [List.length_nil, List.length_cons, List.length_append, List.length_set, List.length_replicate]; omega))).1) up_none ?_
      refine q_move vb rfl up_none ?_
      refine q_move (.int .i64 ((k : Nat) : Int)) rfl up_none ?_
      refine q_idx (v := vb) k u29 ti2 rfl rfl hb.isSl rfl (by first | omega | assumption | (simp only [List.length_nil, List.length_cons, List.length_append, List.length_set, List.length_replicate]; omega) | (simp [List.length_nil, List.length_cons, List.length_append, List.length_set, List.length_replicate]; done) | (simp [List.length_nil, List.length_cons, List.length_append, List.length_set, List.length_replicate]; omega)) up_none ?_
      refine q_load (p := eptr vb k 1) (.inl rfl) (.int .i64 (b.getD k 0)) one2 rfl (ldH_ext hE2.drew (hb.getI (by first | omega | assumption | (simp only [List.length_nil, List.length_cons, List.length_append, List.length_set, List.length_replicate]; omega) | (simp [List.length_nil, List.length_cons, List.length_append, List.length_set, List.length_replicate]; done) | (simp [List.length_nil, List.length_cons, List.length_append, List.length_set, List.length_replicate]; omega))).1) up_none ?_
      by_cases hc4 : a.getD k 0 ≠ b.getD k 0
      ·
        refine q_neq true rfl rfl (decide_eq_true hc4) up_none ?_
        refine lw_nil ?_
        refine c_cond_t rfl ?_
        refine wp_seq ?_
        refine wp_plain _ [0] rfl ?_
        refine q_assign (.bool false) rfl up_none ?_
        refine lw_nil ?_
        refine wp_ret ?_
        refine b_ret ?_
        refine t_ret ?_
        refine t_ret ?_
        refine b_ret ?_
        refine t_ret ?_
        exact post_ret [4] rfl (.bool false) rfl ⟨(ret_bool (decide_eq_false (leq_fail (d := 0) (k := k) (by omega))).symm), hE2.drew⟩
      ·
        refine q_neq false rfl rfl (decide_eq_false hc4) up_none ?_
        refine lw_nil ?_
        refine c_cond_f rfl ?_
        refine wp_skip ?_
        refine wp_plain _ [0, 0, 0] rfl ?_
        refine q_move (.int .i64 ((k : Nat) : Int)) rfl up_none ?_
        refine q_add ((k + 1 : Nat) : Int) rfl rfl (w64n (by omega) (by first | omega | assumption | (simp only [List.length_nil, List.length_cons, List.length_append, List.length_set, List.length_replicate]; omega) | (simp [List.length_nil, List.length_cons, List.length_append, List.length_set, List.length_replicate]; done) | (simp [List.length_nil, List.length_cons, List.length_append, List.length_set, List.length_replicate]; omega))) up_none ?_
        refine q_assign (.int .i64 ((k + 1 : Nat) : Int)) rfl up_none ?_
        refine lw_nil ?_
        exact ⟨(k + 1), _, rfl, ⟨rfl, rfl, rfl, trivial⟩, ⟨hE2.drew, (by first | omega | assumption | (simp only [List.length_nil, List.length_cons, List.length_append, List.length_set, List.length_replicate]; omega) | (simp [List.length_nil, List.length_cons, List.length_append, List.length_set, List.length_replicate]; done) | (simp [List.length_nil, List.length_cons, List.length_append, List.length_set, List.length_replicate]; omega)), (by exact leq_step hq (by omega))⟩, by first | omega | (dsimp only; omega)⟩
    ·
      refine q_lss false rfl rfl (decide_eq_false hc3) up_none ?_
      refine lw_nil ?_
      refine c_cond_f rfl ?_
      refine wp_exit ?_
      refine t_exit ?_
      refine t_exit ?_
      refine c_exit_here ?_
      refine wp_seq ?_
      refine wp_plain _ [0] rfl ?_
      refine q_assign (.bool true) rfl up_none ?_
      refine lw_nil ?_
      refine wp_ret ?_
      exact post_ret [4] rfl (.bool true) rfl ⟨(ret_bool (decide_eq_true (leq_done hq (by omega) (by omega))).symm), hE2⟩

/- laws.eqInt64SS -/
set_option maxHeartbeats 4000000 in
set_option maxRecDepth 100000 in
theorem c_laws_eqInt64SS (w : World) (va : Value) (a : List (List Int)) (vb : Value) (b : List (List Int)) (ha : Rd (rdL (rdL rI)) w.heap va a) (hb : Rd (rdL (rdL rI)) w.heap vb b)  :
    Calls Try.prog 15 #[va, vb] w (fun e w' => e = .returned (.bool (decide (a = b))) ∧ Ext w w') := by
  refine calls_mk [va, vb] 27 Try.func15 rfl rfl (by simp) ?_
  have hE0 : Ext w w := Ext.refl w
  have hl_va := ha.lenle
  have hl_vb := hb.lenle
  refine wp_seq ?_
  refine wp_plain _ [0] rfl ?_
  refine q_assign (.bool false) rfl up_none ?_
  refine lw_nil ?_
  refine wp_seq ?_
  refine wp_seq ?_
  refine wp_plain _ [0, 0, 0, 0, 0] rfl ?_
  refine q_move va rfl up_none ?_
  refine q_len (v := va) u22 rfl ha.isSl up_none ?_
  refine q_move vb rfl up_none ?_
  refine q_len (v := vb) u22 rfl hb.isSl up_none ?_
  by_cases hc1 : ((a.length : Nat) : Int) ≠ ((b.length : Nat) : Int)
  ·
    refine q_neq true rfl rfl (decide_eq_true hc1) up_none ?_
    refine lw_nil ?_
    refine c_cond_t rfl ?_
    refine wp_seq ?_
    refine wp_plain _ [0] rfl ?_
    refine q_assign (.bool false) rfl up_none ?_
    refine lw_nil ?_
    refine wp_ret ?_
    refine t_ret ?_
    exact post_ret [4] rfl (.bool false) rfl ⟨(ret_bool (decide_eq_false (leq_len (by omega))).symm), hE0⟩
  ·
    refine q_neq false rfl rfl (decide_eq_false hc1) up_none ?_
    refine lw_nil ?_
    refine c_cond_f rfl ?_
    refine wp_skip ?_
    refine wp_seq ?_
    refine wp_seq ?_
    refine wp_plain _ [0] rfl ?_
    refine q_assign (.int .i64 ((0 : Nat) : Int)) rfl up_none ?_
    refine lw_nil ?_
    refine wp_block ?_
    refine c_loop (S := Nat) (fun (k : Nat) => ([(5, (.int .i64 ((k : Nat) : Int))), (0, va), (1, vb)] : List (Nat × Value))) (fun (k : Nat) (W : World) => Ext w W ∧ k ≤ a.length ∧ (∀ j, j < k → a.getD j [] = b.getD j [])) (fun (k : Nat) => a.length - k) 0 ⟨rfl, rfl, rfl, trivial⟩ ⟨hE0, (by first | omega | assumption | (simp only [List.length_nil, List.length_cons, List.length_append, List.length_set, List.length_replicate]; omega) | (simp [List.length_nil, List.length_cons, List.length_append, List.length_set, List.length_replicate]; done) | (simp [List.length_nil, List.length_cons, List.length_append, List.length_set, List.length_replicate]; omega)), (by intro j hj; omega)⟩ ?_
    clear hE0
    rintro k ρ2 w2 ⟨hE2, hp2_0, hq⟩
    have hzs2 : w.heap.size ≤ w2.heap.size := hE2.size
    refine wp_seq ?_
    refine wp_seq ?_
    refine wp_plain _ [0, 0, 0, 0] rfl ?_
    refine q_move (.int .i64 ((k : Nat) : Int)) rfl up_none ?_
    refine q_move va rfl up_none ?_
    refine q_len (v := va) u22 rfl ha.isSl up_none ?_
    by_cases hc3 : ((k : Nat) : Int) < ((a.length : Nat) : Int)
    ·
      refine q_lss true rfl rfl (decide_eq_true hc3) up_none ?_
      refine lw_nil ?_
      refine c_cond_t rfl ?_
      refine wp_skip ?_
      refine wp_seq ?_
      refine wp_block ?_
      refine wp_seq ?_
      refine wp_draw _ [0, 0, 0, 1, 0, 0, 0, 1, 3, 0] mixed (by kernel_rfl) ?_
      refine q_move va rfl up_none ?_
      refine q_move (.int .i64 ((k : Nat) : Int)) rfl up_none ?_
      refine q_idx (v := va) k u22 ti29 rfl rfl ha.isSl rfl (by first | omega | assumption | (simp only [List.length_nil, List.length_cons, List.length_append, List.length_set, List.length_replicate]; omega) | (simp [List.length_nil, List.length_cons, List.length_append, List.length_set, List.length_replicate]; done) | (simp [List.length_nil, List.length_cons, List.length_append, List.length_set, List.length_replicate]; omega)) up_none ?_
      obtain ⟨ue4, hl4, hd4⟩ := ha.get (k := k) [] (by first | omega | assumption | (simp only [List.length_nil, List.length_cons, List.length_append, List.length_set, List.length_replicate]; omega) | (simp [List.length_nil, List.length_cons, List.length_append, List.length_set, List.length_replicate]; done) | (simp [List.length_nil, List.length_cons, List.length_append, List.length_set, List.length_replicate]; omega))
      have hln4 := hd4.lenle
      refine q_load (p := eptr va k 1) (.inl rfl) ue4 one29 rfl (ldH_ext hE2.drew hl4) up_none ?_
      refine q_move vb rfl up_none ?_
      refine q_move (.int .i64 ((k : Nat) : Int)) rfl up_none ?_
      refine q_idx (v := vb) k u22 ti29 rfl rfl hb.isSl rfl (by first | omega | assumption | (simp only [List.length_nil, List.length_cons, List.length_append, List.length_set, List.length_replicate]; omega) | (simp [List.length_nil, List.length_cons, List.length_append, List.length_set, List.length_replicate]; done) | (simp [List.length_nil, List.length_cons, List.length_append, List.length_set, List.length_replicate]; omega)) up_none ?_
      obtain ⟨ue5, hl5, hd5⟩ := hb.get (k := k) [] (by first | omega | assumption | (simp only [List.length_nil, List.length_cons, List.length_append, List.length_set, List.length_replicate]; omega) | (simp [List.length_nil, List.length_cons, List.length_append, List.length_set, List.length_replicate]; done) | (simp [List.length_nil, List.length_cons, List.length_append, List.length_set, List.length_replicate]; omega))
      have hln5 := hd5.lenle
      refine q_load (p := eptr vb k 1) (.inl rfl) ue5 one29 rfl (ldH_ext hE2.drew hl5) up_none ?_
      refine lw_call 19 [] [] [ue4, ue5] rfl rfl cf19 up_none (c_laws_eqInt64S _ _ _ _ _ (hd4.ext g1 hE2.drew) (hd5.ext g1 hE2.drew)) ?_
      rintro e6 w6 ⟨rfl, hX6⟩
      refine ⟨_, rfl, hX6, ?_⟩
      replace hX6 := hX6.of_drew
      have hzs6 : w2.heap.size ≤ w6.heap.size := hX6.size
      have hE6 : Ext w w6 := hE2.trans hX6
      refine q_not (!(decide ((a.getD k []) = (b.getD k [])))) rfl rfl up_none ?_
      refine lw_nil ?_
      cases hb7 : (!(decide ((a.getD k []) = (b.getD k []))))
      ·
        refine c_cond_f (by first | rfl | (show Value.bool _ = _; rw [hb7])) ?_
        refine wp_skip ?_
        refine wp_plain _ [0, 0, 0] rfl ?_
        refine q_move (.int .i64 ((k : Nat) : Int)) rfl up_none ?_
        refine q_add ((k + 1 : Nat) : Int) rfl rfl (w64n (by omega) (by first | omega | assumption | (simp only [List.length_nil, List.length_cons, List.length_append, List.length_set, List.length_replicate]; omega) | (simp [List.length_nil, List.length_cons, List.length_append, List.length_set, List.length_replicate]; done) | (simp [List.length_nil, List.length_cons, List.length_append, List.length_set, List.length_replicate]; omega))) up_none ?_
        refine q_assign (.int .i64 ((k + 1 : Nat) : Int)) rfl up_none ?_
        refine lw_nil ?_
        exact ⟨(k + 1), _, rfl, ⟨rfl, rfl, rfl, trivial⟩, ⟨hE6, (by first | omega | assumption | (simp only [List.length_nil, List.length_cons, List.length_append, List.length_set, List.length_replicate]; omega) | (simp [List.length_nil, List.length_cons, List.length_append, List.length_set, List.length_replicate]; done) | (simp [List.length_nil, List.length_cons, List.length_append, List.length_set, List.length_replicate]; omega)), (by exact leq_step hq (by simpa using ‹(!decide (a.getD k [] = b.getD k [])) = false›))⟩, by first | omega | (dsimp only; omega)⟩
      ·
        refine c_cond_t (by first | rfl | (show Value.bool _ = _; rw [hb7])) ?_
        refine wp_seq ?_
        refine wp_plain _ [0] rfl ?_
        refine q_assign (.bool false) rfl up_none ?_
        refine lw_nil ?_
        refine wp_ret ?_
        refine b_ret ?_
        refine t_ret ?_
        refine t_ret ?_
        refine b_ret ?_
        refine t_ret ?_
        exact post_ret [4] rfl (.bool false) rfl ⟨(ret_bool (decide_eq_false (leq_fail (d := []) (k := k) (by simpa using ‹(!decide (a.getD k [] = b.getD k [])) = true›))).symm), hE6⟩
    ·
      refine q_lss false rfl rfl (decide_eq_false hc3) up_none ?_
      refine lw_nil ?_
      refine c_cond_f rfl ?_
      refine wp_exit ?_
      refine t_exit ?_
      refine t_exit ?_
      refine c_exit_here ?_
      refine wp_seq ?_
      refine wp_plain _ [0] rfl ?_
      refine q_assign (.bool true) rfl up_none ?_
      refine lw_nil ?_
      refine wp_ret ?_
      exact post_ret [4] rfl (.bool true) rfl ⟨(ret_bool (decide_eq_true (leq_done hq (by omega) (by omega))).symm), hE2⟩

/- laws.toInt64S -/
set_option maxHeartbeats 4000000 in
set_option maxRecDepth 100000 in
theorem c_laws_toInt64S (w : World) (va : Value) (a : List Int) (ha : Rd (rdL rI) w.heap va a) (hla : a.length ≤ 1000000000000) :
    Calls Try.prog 17 #[va] w (fun e w' => ∃ v0 : Value, e = .returned (v0) ∧ Ext w w' ∧ Fr (owL rI 2) w.heap.size w'.heap.size w'.heap v0 a) := by
  refine calls_mk [va] 22 Try.func17 rfl rfl (by simp) ?_
  have hE0 : Ext w w := Ext.refl w
  have hl_va := ha.lenle
  refine wp_seq ?_
  refine wp_plain _ [0] rfl ?_
  refine q_assign (.slice none 0 0) rfl up_none ?_
  refine lw_nil ?_
  refine wp_seq ?_
  refine wp_plain _ [0, 0, 3, 0] rfl ?_
  refine q_move va rfl up_none ?_
  refine q_len (v := va) u29 rfl ha.isSl up_none ?_
  refine r_make (n := a.length) u29 ti2 rfl rfl rfl (by first | omega | assumption | (simp only [List.length_nil, List.length_cons, List.length_append, List.length_set, List.length_replicate]; omega) | (simp [List.length_nil, List.length_cons, List.length_append, List.length_set, List.length_replicate]; done) | (simp [List.length_nil, List.length_cons, List.length_append, List.length_set, List.length_replicate]; omega)) up_none ?_
  intro v1 w1 hX1 hz1 hO1
  have hzs1 : w.heap.size ≤ w1.heap.size := hX1.size
  have hE1 : Ext w w1 := hE0.trans hX1
  refine q_assign v1 rfl up_none ?_
  refine lw_nil ?_
  refine wp_seq ?_
  refine wp_seq ?_
  refine wp_plain _ [0] rfl ?_
  refine q_assign (.int .i64 ((0 : Nat) : Int)) rfl up_none ?_
  refine lw_nil ?_
  refine wp_block ?_
  refine c_loop (S := Nat) (fun (k : Nat) => ([(4, (.int .i64 ((k : Nat) : Int))), (0, va), (3, v1)] : List (Nat × Value))) (fun (k : Nat) (W : World) => Ext w W ∧ Fr (owL rI 2) w.heap.size W.heap.size W.heap v1 (mix k a (List.replicate a.length 0)) ∧ k ≤ a.length) (fun (k : Nat) => a.length - k) 0 ⟨rfl, rfl, rfl, trivial⟩ ⟨hE1, (by rw [mix_zero]; exact hO1.up o1), (by first | omega | assumption | (simp only [List.length_nil, List.length_cons, List.length_append, List.length_set, List.length_replicate]; omega) | (simp [List.length_nil, List.length_cons, List.length_append, List.length_set, List.length_replicate]; done) | (simp [List.length_nil, List.length_cons, List.length_append, List.length_set, List.length_replicate]; omega))⟩ ?_
  clear hE0 hO1 hz1 hX1 hzs1 hE1
  rintro k ρ2 w2 ⟨hE2, hL2_0, hp2_0⟩
  have hzs2 : w.heap.size ≤ w2.heap.size := hE2.size
  have hml := mix_len k a (List.replicate a.length 0) (by simp)
  rw [List.length_replicate] at hml
  refine wp_seq ?_
  refine wp_seq ?_
  refine wp_plain _ [0, 0, 0, 0] rfl ?_
  refine q_move (.int .i64 ((k : Nat) : Int)) rfl up_none ?_
  refine q_move va rfl up_none ?_
  refine q_len (v := va) u29 rfl ha.isSl up_none ?_
  by_cases hc3 : ((k : Nat) : Int) < ((a.length : Nat) : Int)
  ·
    refine q_lss true rfl rfl (decide_eq_true hc3) up_none ?_
    refine lw_nil ?_
    refine c_cond_t rfl ?_
    refine wp_skip ?_
    refine wp_seq ?_
    refine wp_block ?_
    refine wp_plain _ [0, 0, 0, 0, 0, 2, 0, 4] rfl ?_
    refine q_move v1 rfl up_none ?_
    refine q_move (.int .i64 ((k : Nat) : Int)) rfl up_none ?_
    refine q_move va rfl up_none ?_
    refine q_move (.int .i64 ((k : Nat) : Int)) rfl up_none ?_
    refine q_idx (v := va) k u29 ti2 rfl rfl ha.isSl rfl (by first | omega | assumption | (simp only [List.length_nil, List.length_cons, List.length_append, List.length_set, List.length_replicate]; omega) | (simp [List.length_nil, List.length_cons, List.length_append, List.length_set, List.length_replicate]; done) | (simp [List.length_nil, List.length_cons, List.length_append, List.length_set, List.length_replicate]; omega)) up_none ?_
    refine q_load (p := eptr va k 1) (.inr rfl) (.int .i64 (a.getD k 0)) one2 rfl (ldH_ext hE2 (ha.getI (by first | omega | assumption | (simp only [List.length_nil, List.length_cons, List.length_append, List.length_set, List.length_replicate]; omega) | (simp [List.length_nil, List.length_cons, List.length_append, List.length_set, List.length_replicate]; done) | (simp [List.length_nil, List.length_cons, List.length_append, List.length_set, List.length_replicate]; omega))).1) up_none ?_
    refine q_idx (v := v1) k u29 ti2 rfl rfl hL2_0.isSl rfl (by first | omega | assumption | (simp only [List.length_nil, List.length_cons, List.length_append, List.length_set, List.length_replicate]; omega) | (simp [List.length_nil, List.length_cons, List.length_append, List.length_set, List.length_replicate]; done) | (simp [List.length_nil, List.length_cons, List.length_append, List.length_set, List.length_replicate]; omega)) up_none ?_
    refine e_setI (v := v1) (w := w2) sz2 rfl rfl (ha.getI (by first | omega | assumption | (simp only [List.length_nil, List.length_cons, List.length_append, List.length_set, List.length_replicate]; omega) | (simp [List.length_nil, List.length_cons, List.length_append, List.length_set, List.length_replicate]; done) | (simp [List.length_nil, List.length_cons, List.length_append, List.length_set, List.length_replicate]; omega))).2 hL2_0 (by first | omega | assumption | (simp only [List.length_nil, List.length_cons, List.length_append, List.length_set, List.length_replicate]; omega) | (simp [List.length_nil, List.length_cons, List.length_append, List.length_set, List.length_replicate]; done) | (simp [List.length_nil, List.length_cons, List.length_append, List.length_set, List.length_replicate]; omega)) up_none ?_
    intro w4 F4 hC4 hz4 hF4 hO4
    have hE4 : Ext w w4 := hC4.below hE2 (fun c hc => Nat.le_trans (Nat.le_refl _) (hF4 c hc).1) hE2.size
    have hzs4 : w2.heap.size ≤ w4.heap.size := hC4.size
    refine lw_nil ?_
    refine wp_plain _ [0, 0, 0] rfl ?_
    refine q_move (.int .i64 ((k : Nat) : Int)) rfl up_none ?_
    refine q_add ((k + 1 : Nat) : Int) rfl rfl (w64n (by omega) (by first | omega | assumption | (simp only [List.length_nil, List.length_cons, List.length_append, List.length_set, List.length_replicate]; omega) | (simp [List.length_nil, List.length_cons, List.length_append, List.length_set, List.length_replicate]; done) | (simp [List.length_nil, List.length_cons, List.length_append, List.length_set, List.length_replicate]; omega))) up_none ?_
    refine q_assign (.int .i64 ((k + 1 : Nat) : Int)) rfl up_none ?_
    refine lw_nil ?_
    exact ⟨(k + 1), _, rfl, ⟨rfl, rfl, rfl, trivial⟩, ⟨hE4, (by rw [← mix_set 0 (by simp) (by simp; omega)]; exact hO4.up o1), (by first | omega | assumption | (simp only [List.length_nil, List.length_cons, List.length_append, List.length_set, List.length_replicate]; omega) | (simp [List.length_nil, List.length_cons, List.length_append, List.length_set, List.length_replicate]; done) | (simp [List.length_nil, List.length_cons, List.length_append, List.length_set, List.length_replicate]; omega))⟩, by first | omega | (dsimp only; omega)⟩
  ·
    refine q_lss false rfl rfl (decide_eq_false hc3) up_none ?_
    refine lw_nil ?_
    refine c_cond_f rfl ?_
    refine wp_exit ?_
    refine t_exit ?_
    refine t_exit ?_
    refine c_exit_here ?_
    refine wp_seq ?_
    refine wp_plain _ [0, 0] rfl ?_
    refine q_move v1 rfl up_none ?_
    refine q_assign v1 rfl up_none ?_
    refine lw_nil ?_
    refine wp_ret ?_
    exact post_ret [2] rfl v1 rfl ⟨v1, rfl, hE2, (by have h := hL2_0.up o1; rwa [mix_all (by simp) (by simp; omega)] at h)⟩

/- laws.toInt64SS -/
set_option maxHeartbeats 4000000 in
set_option maxRecDepth 100000 in
theorem c_laws_toInt64SS (w : World) (va : Value) (a : List (List Int)) (ha : Rd (rdL (rdL rI)) w.heap va a) (hla : a.length ≤ 1000000000000) (hlr : ∀ k, (a.getD k []).length ≤ 1000000000000) :
    Calls Try.prog 13 #[va] w (fun e w' => ∃ v0 : Value, e = .returned (v0) ∧ Ext w w' ∧ Fr (owL (owL rI 2) 29) w.heap.size w'.heap.size w'.heap v0 a) := by
  refine calls_mk [va] 23 Try.func13 rfl rfl (by simp) ?_
  have hE0 : Ext w w := Ext.refl w
  have hl_va := ha.lenle
  refine wp_seq ?_
  refine wp_plain _ [0] rfl ?_
  refine q_assign (.slice none 0 0) rfl up_none ?_
  refine lw_nil ?_
  refine wp_seq ?_
  refine wp_plain _ [0, 0, 3, 0] rfl ?_
  refine q_move va rfl up_none ?_
  refine q_len (v := va) u22 rfl ha.isSl up_none ?_
  refine r_make2 (owL rI 2) o1 (fun _ => .inl ⟨rfl, rfl, rfl⟩) (n := a.length) u22 ti29 rfl rfl rfl (by first | omega | assumption | (simp only [List.length_nil, List.length_cons, List.length_append, List.length_set, List.length_replicate]; omega) | (simp [List.length_nil, List.length_cons, List.length_append, List.length_set, List.length_replicate]; done) | (simp [List.length_nil, List.length_cons, List.length_append, List.length_set, List.length_replicate]; omega)) up_none ?_
  intro v1 w1 hX1 hz1 hO1
  have hzs1 : w.heap.size ≤ w1.heap.size := hX1.size
  have hE1 : Ext w w1 := hE0.trans hX1
  refine q_assign v1 rfl up_none ?_
  refine lw_nil ?_
  refine wp_seq ?_
  refine wp_seq ?_
  refine wp_plain _ [0] rfl ?_
  refine q_assign (.int .i64 ((0 : Nat) : Int)) rfl up_none ?_
  refine lw_nil ?_
  refine wp_block ?_
  refine c_loop (S := Nat) (fun (k : Nat) => ([(4, (.int .i64 ((k : Nat) : Int))), (0, va), (3, v1)] : List (Nat × Value))) (fun (k : Nat) (W : World) => Ext w W ∧ Fr (owL (owL rI 2) 29) w.heap.size W.heap.size W.heap v1 (mix k a (List.replicate a.length [])) ∧ k ≤ a.length) (fun (k : Nat) => a.length - k) 0 ⟨rfl, rfl, rfl, trivial⟩ ⟨hE1, (by rw [mix_zero]; exact hO1.up o2), (by first | omega | assumption | (simp only [List.length_nil, List.length_cons, List.length_append, List.length_set, List.length_replicate]; omega) | (simp [List.length_nil, List.length_cons, List.length_append, List.length_set, List.length_replicate]; done) | (simp [List.length_nil, List.length_cons, List.length_append, List.length_set, List.length_replicate]; omega))⟩ ?_
  clear hE0 hO1 hz1 hX1 hzs1 hE1
  rintro k ρ2 w2 ⟨hE2, hL2_0, hp2_0⟩
  have hzs2 : w.heap.size ≤ w2.heap.size := hE2.size
  have hml := mix_len k a (List.replicate a.length []) (by simp)
  rw [List.length_replicate] at hml
  refine wp_seq ?_
  refine wp_seq ?_
  refine wp_plain _ [0, 0, 0, 0] rfl ?_
  refine q_move (.int .i64 ((k : Nat) : Int)) rfl up_none ?_
  refine q_move va rfl up_none ?_
  refine q_len (v := va) u22 rfl ha.isSl up_none ?_
  by_cases hc3 : ((k : Nat) : Int) < ((a.length : Nat) : Int)
  ·
    refine q_lss true rfl rfl (decide_eq_true hc3) up_none ?_
    refine lw_nil ?_
    refine c_cond_t rfl ?_
    refine wp_skip ?_
    refine wp_seq ?_
    refine wp_block ?_
    refine wp_plain _ [0, 0, 0, 0, 0, 2, 3, 0, 4] rfl ?_
    refine q_move v1 rfl up_none ?_
    refine q_move (.int .i64 ((k : Nat) : Int)) rfl up_none ?_
    refine q_move va rfl up_none ?_
    refine q_move (.int .i64 ((k : Nat) : Int)) rfl up_none ?_
    refine q_idx (v := va) k u22 ti29 rfl rfl ha.isSl rfl (by first | omega | assumption | (simp only [List.length_nil, List.length_cons, List.length_append, List.length_set, List.length_replicate]; omega) | (simp [List.length_nil, List.length_cons, List.length_append, List.length_set, List.length_replicate]; done) | (simp [List.length_nil, List.length_cons, List.length_append, List.length_set, List.length_replicate]; omega)) up_none ?_
    obtain ⟨ue4, hl4, hd4⟩ := ha.get (k := k) [] (by first | omega | assumption | (simp only [List.length_nil, List.length_cons, List.length_append, List.length_set, List.length_replicate]; omega) | (simp [List.length_nil, List.length_cons, List.length_append, List.length_set, List.length_replicate]; done) | (simp [List.length_nil, List.length_cons, List.length_append, List.length_set, List.length_replicate]; omega))
    have hln4 := hd4.lenle
    refine q_load (p := eptr va k 1) (.inr rfl) ue4 one29 rfl (ldH_ext hE2 hl4) up_none ?_
    refine lw_call 17 [] [] [ue4] rfl rfl cf17 up_none (c_laws_toInt64S _ _ _ (hd4.ext g1 hE2) (by exact hlr _)) ?_
    rintro e5 w5 ⟨v5_0, rfl, hX5, hO5_0⟩
    refine ⟨_, rfl, hX5, ?_⟩
    have hzs5 : w2.heap.size ≤ w5.heap.size := hX5.size
    have hE5 : Ext w w5 := hE2.trans hX5
    have hL2_0x5 := hL2_0.ext (o2) hX5
    refine q_idx (v := v1) k u22 ti29 rfl rfl hL2_0x5.isSl rfl (by first | omega | assumption | (simp only [List.length_nil, List.length_cons, List.length_append, List.length_set, List.length_replicate]; omega) | (simp [List.length_nil, List.length_cons, List.length_append, List.length_set, List.length_replicate]; done) | (simp [List.length_nil, List.length_cons, List.length_append, List.length_set, List.length_replicate]; omega)) up_none ?_
    refine e_setF o1 (v := v1) (u := v5_0) (w := w5) sz29 rfl rfl hL2_0x5 hO5_0 (by omega) hE2.size (by first | omega | assumption | (simp only [List.length_nil, List.length_cons, List.length_append, List.length_set, List.length_replicate]; omega) | (simp [List.length_nil, List.length_cons, List.length_append, List.length_set, List.length_replicate]; done) | (simp [List.length_nil, List.length_cons, List.length_append, List.length_set, List.length_replicate]; omega)) up_none ?_
    intro w6 F6 hC6 hz6 hF6 hO6
    have hE6 : Ext w w6 := hC6.below hE5 (fun c hc => Nat.le_trans (Nat.le_refl _) (hF6 c hc).1) hE5.size
    have hzs6 : w5.heap.size ≤ w6.heap.size := hC6.size
    refine lw_nil ?_
    refine wp_plain _ [0, 0, 0] rfl ?_
    refine q_move (.int .i64 ((k : Nat) : Int)) rfl up_none ?_
    refine q_add ((k + 1 : Nat) : Int) rfl rfl (w64n (by omega) (by first | omega | assumption | (simp only [List.length_nil, List.length_cons, List.length_append, List.length_set, List.length_replicate]; omega) | (simp [List.length_nil, List.length_cons, List.length_append, List.length_set, List.length_replicate]; done) | (simp [List.length_nil, List.length_cons, List.length_append, List.length_set, List.length_replicate]; omega))) up_none ?_
    refine q_assign (.int .i64 ((k + 1 : Nat) : Int)) rfl up_none ?_
    refine lw_nil ?_
    exact ⟨(k + 1), _, rfl, ⟨rfl, rfl, rfl, trivial⟩, ⟨hE6, (by rw [← mix_set [] (by simp) (by simp; omega)]; exact hO6.up o2), (by first | omega | assumption | (simp only [List.length_nil, List.length_cons, List.length_append, List.length_set, List.length_replicate]; omega) | (simp [List.length_nil, List.length_cons, List.length_append, List.length_set, List.length_replicate]; done) | (simp [List.length_nil, List.length_cons, List.length_append, List.length_set, List.length_replicate]; omega))⟩, by first | omega | (dsimp only; omega)⟩
  ·
    refine q_lss false rfl rfl (decide_eq_false hc3) up_none ?_
    refine lw_nil ?_
    refine c_cond_f rfl ?_
    refine wp_exit ?_
    refine t_exit ?_
    refine t_exit ?_
    refine c_exit_here ?_
    refine wp_seq ?_
    refine wp_plain _ [0, 0] rfl ?_
    refine q_move v1 rfl up_none ?_
    refine q_assign v1 rfl up_none ?_
    refine lw_nil ?_
    refine wp_ret ?_
    exact post_ret [2] rfl v1 rfl ⟨v1, rfl, hE2, (by have h := hL2_0.up o2; rwa [mix_all (by simp) (by simp; omega)] at h)⟩

/- laws.szInt64S -/
theorem szI_rng (n : Nat) {l : Int} (h : 0 ≤ l ∧ l ≤ 1048576) : -9223372036854775808 ≤ szI n l ∧ szI n l ≤ 9223372036854775807 := by
  unfold szI; split <;> omega

set_option maxHeartbeats 4000000 in
set_option maxRecDepth 100000 in
theorem c_laws_szInt64S (w : World) (va : Value) (a : List Int) (left : Int) (ha : Rd (rdL rI) w.heap va a) (_hleft : -9223372036854775808 ≤ left ∧ left ≤ 9223372036854775807) (hL : 0 ≤ left ∧ left ≤ 1048576) :
    Calls Try.prog 51 #[va, .int .i64 left] w (fun e w' => e = .returned (.int .i64 (szI a.length left)) ∧ Ext w w') := by
  refine calls_mk [va, .int .i64 left] 12 Try.func51 rfl rfl (by simp) ?_
  have hE0 : Ext w w := Ext.refl w
  have hl_va := ha.lenle
  refine wp_seq ?_
  refine wp_plain _ [0] rfl ?_
  refine q_assign (.int .i64 ((0 : Nat) : Int)) rfl up_none ?_
  refine lw_nil ?_
  refine wp_seq ?_
  refine wp_plain _ [0, 0, 0, 0, 0] rfl ?_
  refine q_move (.int .i64 left) rfl up_none ?_
  refine q_move va rfl up_none ?_
  refine q_len (v := va) u29 rfl ha.isSl up_none ?_
  refine q_sub (left - ((a.length : Nat) : Int)) rfl rfl (w64 (by first | omega | assumption | (simp only [List.length_nil, List.length_cons, List.length_append, List.length_set, List.length_replicate]; omega) | (simp [List.length_nil, List.length_cons, List.length_append, List.length_set, List.length_replicate]; done) | (simp [List.length_nil, List.length_cons, List.length_append, List.length_set, List.length_replicate]; omega)) (by first | omega | assumption | (simp only [List.length_nil, List.length_cons, List.length_append, List.length_set, List.length_replicate]; omega) | (simp [List.length_nil, List.length_cons, List.length_append, List.length_set, List.length_replicate]; done) | (simp [List.length_nil, List.length_cons, List.length_append, List.length_set, List.length_replicate]; omega))) up_none ?_
  refine q_assign (.int .i64 (left - ((a.length : Nat) : Int))) rfl up_none ?_
  refine lw_nil ?_
  refine wp_seq ?_
  refine wp_seq ?_
  refine wp_plain _ [0, 0] rfl ?_
  refine q_move (.int .i64 (left - ((a.length : Nat) : Int))) rfl up_none ?_
  by_cases hc1 : left - ((a.length : Nat) : Int) < ((0 : Nat) : Int)
  ·
    refine q_lss true rfl rfl (decide_eq_true hc1) up_none ?_
    refine lw_nil ?_
    refine c_cond_t rfl ?_
    refine wp_seq ?_
    refine wp_plain _ [0] rfl ?_
    refine q_assign (.int .i64 (-1)) rfl up_none ?_
    refine lw_nil ?_
    refine wp_ret ?_
    refine t_ret ?_
    exact post_ret [4] rfl (.int .i64 (-1)) rfl ⟨(ret_int (by unfold szI; rw [if_pos (by omega)])), hE0⟩
  ·
    refine q_lss false rfl rfl (decide_eq_false hc1) up_none ?_
    refine lw_nil ?_
    refine c_cond_f rfl ?_
    refine wp_skip ?_
    refine wp_seq ?_
    refine wp_plain _ [0, 0] rfl ?_
    refine q_move (.int .i64 (left - ((a.length : Nat) : Int))) rfl up_none ?_
    refine q_assign (.int .i64 (left - ((a.length : Nat) : Int))) rfl up_none ?_
    refine lw_nil ?_
    refine wp_ret ?_
    exact post_ret [4] rfl (.int .i64 (left - ((a.length : Nat) : Int))) rfl ⟨(ret_int (by unfold szI; rw [if_neg (by omega)])), hE0⟩

/- laws.szInt64SS -/
theorem szR_rng : ∀ (a : List (List Int)) (l : Int), (0 ≤ l ∧ l ≤ 1048576) → -1 ≤ szR a l ∧ szR a l ≤ 1048576
  | [], l, h => by unfold szR; omega
  | r :: rs, l, h => by
    unfold szR
    split
    · omega
    · rename_i hh
      have := szI_le (n := r.length) (l := l) (by omega)
      exact szR_rng rs _ (by omega)
theorem szM_rng (a : List (List Int)) {l : Int} (h : 0 ≤ l ∧ l ≤ 1048576) : -9223372036854775808 ≤ szM a l ∧ szM a l ≤ 9223372036854775807 := by
  unfold szM; split
  · omega
  · have := szR_rng a (l - (a.length : Int)) (by omega); omega

set_option maxHeartbeats 4000000 in
set_option maxRecDepth 100000 in
theorem c_laws_szInt64SS (w : World) (va : Value) (a : List (List Int)) (left : Int) (ha : Rd (rdL (rdL rI)) w.heap va a) (_hleft : -9223372036854775808 ≤ left ∧ left ≤ 9223372036854775807) (hL : 0 ≤ left ∧ left ≤ 1048576) :
    Calls Try.prog 11 #[va, .int .i64 left] w (fun e w' => e = .returned (.int .i64 (szM a left)) ∧ Ext w w') := by
  refine calls_mk [va, .int .i64 left] 27 Try.func11 rfl rfl (by simp) ?_
  have hE0 : Ext w w := Ext.refl w
  have hl_va := ha.lenle
  refine wp_seq ?_
  refine wp_plain _ [0] rfl ?_
  refine q_assign (.int .i64 ((0 : Nat) : Int)) rfl up_none ?_
  refine lw_nil ?_
  refine wp_seq ?_
  refine wp_plain _ [0, 0, 0, 0, 0] rfl ?_
  refine q_move (.int .i64 left) rfl up_none ?_
  refine q_move va rfl up_none ?_
  refine q_len (v := va) u22 rfl ha.isSl up_none ?_
  refine q_sub (left - ((a.length : Nat) : Int)) rfl rfl (w64 (by first | omega | assumption | (simp only [List.length_nil, List.length_cons, List.length_append, List.length_set, List.length_replicate]; omega) | (simp [List.length_nil, List.length_cons, List.length_append, List.length_set, List.length_replicate]; done) | (simp [List.length_nil, List.length_cons, List.length_append, List.length_set, List.length_replicate]; omega)) (by first | omega | assumption | (simp only [List.length_nil, List.length_cons, List.length_append, List.length_set, List.length_replicate]; omega) | (simp [List.length_nil, List.length_cons, List.length_append, List.length_set, List.length_replicate]; done) | (simp [List.length_nil, List.length_cons, List.length_append, List.length_set, List.length_replicate]; omega))) up_none ?_
  refine q_assign (.int .i64 (left - ((a.length : Nat) : Int))) rfl up_none ?_
  refine lw_nil ?_
  refine wp_seq ?_
  refine wp_seq ?_
  refine wp_plain _ [0, 0] rfl ?_
  refine q_move (.int .i64 (left - ((a.length : Nat) : Int))) rfl up_none ?_
  by_cases hc1 : left - ((a.length : Nat) : Int) < ((0 : Nat) : Int)
  ·
    refine q_lss true rfl rfl (decide_eq_true hc1) up_none ?_
    refine lw_nil ?_
    refine c_cond_t rfl ?_
    refine wp_seq ?_
    refine wp_plain _ [0] rfl ?_
    refine q_assign (.int .i64 (-1)) rfl up_none ?_
    refine lw_nil ?_
    refine wp_ret ?_
    refine t_ret ?_
    exact post_ret [4] rfl (.int .i64 (-1)) rfl ⟨(ret_int (by unfold szM; rw [if_pos (by omega)])), hE0⟩
  ·
    refine q_lss false rfl rfl (decide_eq_false hc1) up_none ?_
    refine lw_nil ?_
    refine c_cond_f rfl ?_
    refine wp_skip ?_
    refine wp_seq ?_
    refine wp_seq ?_
    refine wp_plain _ [0] rfl ?_
    refine q_assign (.int .i64 ((0 : Nat) : Int)) rfl up_none ?_
    refine lw_nil ?_
    refine wp_block ?_
    refine c_loop (S := Nat × Int) (fun (⟨k, l⟩ : Nat × Int) => ([(1, (.int .i64 l)), (5, (.int .i64 ((k : Nat) : Int))), (0, va)] : List (Nat × Value))) (fun (⟨k, l⟩ : Nat × Int) (W : World) => Ext w W ∧ k ≤ a.length ∧ (0 ≤ l ∧ l ≤ 1048576) ∧ szR (a.drop k) l = szM a left) (fun (⟨k, l⟩ : Nat × Int) => a.length - k) (0, (left - ((a.length : Nat) : Int))) ⟨rfl, rfl, rfl, trivial⟩ ⟨hE0, (by first | omega | assumption | (simp only [List.length_nil, List.length_cons, List.length_append, List.length_set, List.length_replicate]; omega) | (simp [List.length_nil, List.length_cons, List.length_append, List.length_set, List.length_replicate]; done) | (simp [List.length_nil, List.length_cons, List.length_append, List.length_set, List.length_replicate]; omega)), (by omega), (by unfold szM; rw [if_neg (by omega), List.drop_zero])⟩ ?_
    clear hE0
    rintro ⟨k, l⟩ ρ2 w2 ⟨hE2, hp2_0, hl, hz⟩
    have hzs2 : w.heap.size ≤ w2.heap.size := hE2.size
    refine wp_seq ?_
    refine wp_seq ?_
    refine wp_plain _ [0, 0, 0, 0] rfl ?_
    refine q_move (.int .i64 ((k : Nat) : Int)) rfl up_none ?_
    refine q_move va rfl up_none ?_
    refine q_len (v := va) u22 rfl ha.isSl up_none ?_
    by_cases hc3 : ((k : Nat) : Int) < ((a.length : Nat) : Int)
    ·
      refine q_lss true rfl rfl (decide_eq_true hc3) up_none ?_
      refine lw_nil ?_
      refine c_cond_t rfl ?_
      refine wp_skip ?_
      refine wp_seq ?_
      refine wp_block ?_
      refine wp_seq ?_
      refine wp_plain _ [0, 0, 0, 2, 0, 3, 0] rfl ?_
      refine q_move va rfl up_none ?_
      refine q_move (.int .i64 ((k : Nat) : Int)) rfl up_none ?_
      refine q_idx (v := va) k u22 ti29 rfl rfl ha.isSl rfl (by first | omega | assumption | (simp only [List.length_nil, List.length_cons, List.length_append, List.length_set, List.length_replicate]; omega) | (simp [List.length_nil, List.length_cons, List.length_append, List.length_set, List.length_replicate]; done) | (simp [List.length_nil, List.length_cons, List.length_append, List.length_set, List.length_replicate]; omega)) up_none ?_
      obtain ⟨ue4, hl4, hd4⟩ := ha.get (k := k) [] (by first | omega | assumption | (simp only [List.length_nil, List.length_cons, List.length_append, List.length_set, List.length_replicate]; omega) | (simp [List.length_nil, List.length_cons, List.length_append, List.length_set, List.length_replicate]; done) | (simp [List.length_nil, List.length_cons, List.length_append, List.length_set, List.length_replicate]; omega))
      have hln4 := hd4.lenle
      refine q_load (p := eptr va k 1) (.inr rfl) ue4 one29 rfl (ldH_ext hE2 hl4) up_none ?_
      refine q_move (.int .i64 l) rfl up_none ?_
      refine lw_call 51 [] [] [ue4, (.int .i64 l)] rfl rfl cf51 up_none (c_laws_szInt64S _ _ _ _ (hd4.ext g1 hE2) (by omega) (by exact hl)) ?_
      rintro e5 w5 ⟨rfl, hX5⟩
      refine ⟨_, rfl, hX5, ?_⟩
      have hzs5 : w2.heap.size ≤ w5.heap.size := hX5.size
      have hE5 : Ext w w5 := hE2.trans hX5
      refine q_assign (.int .i64 (szI (a.getD k []).length l)) rfl up_none ?_
      refine lw_nil ?_
      refine wp_seq ?_
      refine wp_plain _ [0, 0] rfl ?_
      refine q_move (.int .i64 (szI (a.getD k []).length l)) rfl up_none ?_
      by_cases hc6 : szI (a.getD k []).length l < ((0 : Nat) : Int)
      ·
        refine q_lss true rfl rfl (decide_eq_true hc6) up_none ?_
        refine lw_nil ?_
        refine c_cond_t rfl ?_
        refine wp_seq ?_
        refine wp_plain _ [0] rfl ?_
        refine q_assign (.int .i64 (-1)) rfl up_none ?_
        refine lw_nil ?_
        refine wp_ret ?_
        refine b_ret ?_
        refine t_ret ?_
        refine t_ret ?_
        refine b_ret ?_
        refine t_ret ?_
        exact post_ret [4] rfl (.int .i64 (-1)) rfl ⟨(ret_int (by rw [← hz, szR_drop (by omega), if_pos (by omega)])), hE5⟩
      ·
        refine q_lss false rfl rfl (decide_eq_false hc6) up_none ?_
        refine lw_nil ?_
        refine c_cond_f rfl ?_
        refine wp_skip ?_
        refine wp_plain _ [0, 0, 0] rfl ?_
        refine q_move (.int .i64 ((k : Nat) : Int)) rfl up_none ?_
        refine q_add ((k + 1 : Nat) : Int) rfl rfl (w64n (by omega) (by first | omega | assumption | (simp only [List.length_nil, List.length_cons, List.length_append, List.length_set, List.length_replicate]; omega) | (simp [List.length_nil, List.length_cons, List.length_append, List.length_set, List.length_replicate]; done) | (simp [List.length_nil, List.length_cons, List.length_append, List.length_set, List.length_replicate]; omega))) up_none ?_
        refine q_assign (.int .i64 ((k + 1 : Nat) : Int)) rfl up_none ?_
        refine lw_nil ?_
        exact ⟨((k + 1), (szI (a.getD k []).length l)), _, rfl, ⟨rfl, rfl, rfl, trivial⟩, ⟨hE5, (by first | omega | assumption | (simp only [List.length_nil, List.length_cons, List.length_append, List.length_set, List.length_replicate]; omega) | (simp [List.length_nil, List.length_cons, List.length_append, List.length_set, List.length_replicate]; done) | (simp [List.length_nil, List.length_cons, List.length_append, List.length_set, List.length_replicate]; omega)), (by have := szI_le (n := (a.getD k []).length) (l := l) (by omega); omega), (by have h := hz; rw [szR_drop (by omega), if_neg (by omega)] at h; exact h)⟩, by first | omega | (dsimp only; omega)⟩
    ·
      refine q_lss false rfl rfl (decide_eq_false hc3) up_none ?_
      refine lw_nil ?_
      refine c_cond_f rfl ?_
      refine wp_exit ?_
      refine t_exit ?_
      refine t_exit ?_
      refine c_exit_here ?_
      refine wp_seq ?_
      refine wp_plain _ [0, 0] rfl ?_
      refine q_move (.int .i64 l) rfl up_none ?_
      refine q_assign (.int .i64 l) rfl up_none ?_
      refine lw_nil ?_
      refine wp_ret ?_
      exact post_ret [4] rfl (.int .i64 l) rfl ⟨(ret_int (by rw [← hz, List.drop_of_length_le (by omega)]; rfl)), hE2⟩
end Go.Proofs.Ytjgnlnlngcjfcaa
