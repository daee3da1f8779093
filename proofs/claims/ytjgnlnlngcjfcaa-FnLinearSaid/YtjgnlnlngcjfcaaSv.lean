/- Contracts of functions: each says what the function returns for all arguments that meet its premises. Printed by gen.py. -/
import Derived.Test.YtjgnlnlngcjfcaaFwM
import Derived.Test.YtjgnlnlngcjfcaaMb
import Derived.Test.YtjgnlnlngcjfcaaT
import Derived.Test.YtjgnlnlngcjfcaaSa
import Derived.Test.YtjgnlnlngcjfcaaSb
import Derived.Test.YtjgnlnlngcjfcaaSc
import Derived.Test.YtjgnlnlngcjfcaaProg
namespace Go.Proofs.Ytjgnlnlngcjfcaa
open Go Go.RowKit
set_option linter.unusedVariables false
set_option linter.unusedSimpArgs false
attribute [local irreducible] LW
/- (*spec.l00Src).next -/
set_option maxHeartbeats 4000000 in
set_option maxRecDepth 100000 in
theorem c_spec_l00Src_next (w : World) (g : Nat) (sv : Value) (cs : List UInt8) (n0 : Nat) (hs : Src w.heap g sv cs n0) (hn0 : n0 + 1 ≤ 1000000000000)  :
    Calls Try.prog 111 #[.pointer (some ⟨g, 0, none⟩)] w (fun e w' => ∃ (x0 : Int) (n1 : Nat), e = .returned (.int .i64 x0) ∧ Chg [g] w w' ∧ Src w'.heap g sv cs n1 ∧ (n0 ≤ n1 ∧ n1 ≤ n0 + 1) ∧ (0 ≤ x0 ∧ x0 ≤ 255)) := by
  refine calls_mk [.pointer (some ⟨g, 0, none⟩)] 62 Try.func111 rfl rfl (by simp) ?_
  have hE0 : Chg [g] w w := Chg.refl [g] w
  have hgl := hs.lt
  obtain ⟨sd, hbx, hrs⟩ := hs.parts
  have hl_sv := (hrs _ (Chg.refl [g] w)).lenle
  refine wp_seq ?_
  refine wp_plain _ [0] rfl ?_
  refine q_assign (.int .i64 ((0 : Nat) : Int)) rfl up_none ?_
  refine lw_nil ?_
  refine wp_seq ?_
  refine wp_plain _ [0] rfl ?_
  refine q_assign (.int .i64 ((0 : Nat) : Int)) rfl up_none ?_
  refine lw_nil ?_
  refine wp_seq ?_
  refine wp_seq ?_
  refine wp_draw _ [0, 0, 0, 1, 0, 0, 0, 1, 0, 0] mixed (by kernel_rfl) ?_
  refine q_move (.pointer (some ⟨g, 0, none⟩)) rfl up_none ?_
  refine q_nil rfl up_none ?_
  refine q_fld 1 (by kernel_rfl) rfl up_none ?_
  refine q_load (p := (.pointer (some ⟨g, 1, none⟩))) (.inl rfl) (.int .i64 ((n0 : Nat) : Int)) one3 rfl (hbx.ld (k := 1) (by simp)) up_none ?_
  refine q_move (.pointer (some ⟨g, 0, none⟩)) rfl up_none ?_
  refine q_nil rfl up_none ?_
  refine q_fld 0 (by kernel_rfl) rfl up_none ?_
  refine q_load (p := (.pointer (some ⟨g, 0, none⟩))) (.inl rfl) sv one40 rfl (hbx.ld (k := 0) (by simp)) up_none ?_
  refine q_len (v := sv) u40 rfl (hrs _ hE0.drew).isSl up_none ?_
  by_cases hc1 : ((n0 : Nat) : Int) < ((cs.length : Nat) : Int)
  ·
    refine q_lss true rfl rfl (decide_eq_true hc1) up_none ?_
    refine lw_nil ?_
    refine c_cond_t rfl ?_
    refine wp_draw _ [0, 0, 0, 1, 0, 0, 0, 1, 0, 1, 0, 0] mixed (by kernel_rfl) ?_
    refine q_move (.pointer (some ⟨g, 0, none⟩)) rfl up_none ?_
    refine q_nil rfl up_none ?_
    refine q_fld 0 (by kernel_rfl) rfl up_none ?_
    refine q_load (p := (.pointer (some ⟨g, 0, none⟩))) (.inl rfl) sv one40 rfl (hbx.ld (k := 0) (by simp)) up_none ?_
    refine q_move (.pointer (some ⟨g, 0, none⟩)) rfl up_none ?_
    refine q_nil rfl up_none ?_
    refine q_fld 1 (by kernel_rfl) rfl up_none ?_
    refine q_load (p := (.pointer (some ⟨g, 1, none⟩))) (.inl rfl) (.int .i64 ((n0 : Nat) : Int)) one3 rfl (hbx.ld (k := 1) (by simp)) up_none ?_
    refine q_idx (v := sv) n0 u40 ti5 rfl rfl (hrs _ hE0.drew.drew).isSl rfl (by first | omega | assumption | (simp only [List.length_nil, List.length_cons, List.length_append, List.length_set, List.length_replicate]; omega) | (simp [List.length_nil, List.length_cons, List.length_append, List.length_set, List.length_replicate]; done) | (simp [List.length_nil, List.length_cons, List.length_append, List.length_set, List.length_replicate]; omega)) up_none ?_
    refine q_load (p := eptr sv n0 1) (.inl rfl) (.int .u8 ((cs.getD n0 0).toNat : Int)) one5 rfl ((hrs _ hE0.drew.drew).getU (by first | omega | assumption | (simp only [List.length_nil, List.length_cons, List.length_append, List.length_set, List.length_replicate]; omega) | (simp [List.length_nil, List.length_cons, List.length_append, List.length_set, List.length_replicate]; done) | (simp [List.length_nil, List.length_cons, List.length_append, List.length_set, List.length_replicate]; omega))).1 up_none ?_
    refine q_conv ((cs.getD n0 0).toNat : Int) u5 u3 rfl (w8 _) up_none ?_
    refine q_assign (.int .i64 ((cs.getD n0 0).toNat : Int)) rfl up_none ?_
    refine lw_nil ?_
    refine wp_seq ?_
    refine wp_plain _ [0, 0, 0, 2, 0, 0, 0, 4] rfl ?_
    refine q_move (.pointer (some ⟨g, 0, none⟩)) rfl up_none ?_
    refine q_nil rfl up_none ?_
    refine q_fld 1 (by kernel_rfl) rfl up_none ?_
    refine q_load (p := (.pointer (some ⟨g, 1, none⟩))) (.inr rfl) (.int .i64 ((n0 : Nat) : Int)) one3 rfl (hbx.ld (k := 1) (by simp)) up_none ?_
    refine q_add ((n0 + 1 : Nat) : Int) rfl rfl (w64n (by omega) (by first | omega | assumption | (simp only [List.length_nil, List.length_cons, List.length_append, List.length_set, List.length_replicate]; omega) | (simp [List.length_nil, List.length_cons, List.length_append, List.length_set, List.length_replicate]; done) | (simp [List.length_nil, List.length_cons, List.length_append, List.length_set, List.length_replicate]; omega))) up_none ?_
    refine q_nil rfl up_none ?_
    refine q_fld 1 (by kernel_rfl) rfl up_none ?_
    refine e_setB (w := w.drew.drew) sz3 rfl rfl ⟨rfl, rfl⟩ hbx (by simp) up_none ?_
    intro w2 hC2 hz2 hB2
    replace hC2 := hC2.of_drew
    replace hC2 := hC2.of_drew
    have hE2 : Chg [g] w w2 := hE0.trans hC2
    have hBx2 : BX w2.heap g [sv, (.int .i64 ((n0 + 1 : Nat) : Int)), (.int .u64 sd)] := hB2
    refine lw_nil ?_
    refine wp_seq ?_
    refine wp_plain _ [0, 0, 0, 0, 2, 0, 0, 0, 0, 0, 0, 0, 4] rfl ?_
    refine q_move (.pointer (some ⟨g, 0, none⟩)) rfl up_none ?_
    refine q_move (.pointer (some ⟨g, 0, none⟩)) rfl up_none ?_
    refine q_nil rfl up_none ?_
    refine q_fld 2 (by kernel_rfl) rfl up_none ?_
    refine q_load (p := (.pointer (some ⟨g, 2, none⟩))) (.inr rfl) (.int .u64 sd) one96 rfl (hBx2.ld (k := 2) (by simp)) up_none ?_
    refine q_mul (IntKind.u64.wrap (sd * 6364136223846793005)) rfl rfl rfl up_none ?_
    refine q_move (.int .i64 ((cs.getD n0 0).toNat : Int)) rfl up_none ?_
    refine q_conv (IntKind.u64.wrap (((cs.getD n0 0).toNat : Int))) u3 u96 rfl rfl up_none ?_
    refine q_add (IntKind.u64.wrap ((IntKind.u64.wrap (sd * 6364136223846793005)) + (IntKind.u64.wrap (((cs.getD n0 0).toNat : Int))))) rfl rfl rfl up_none ?_
    refine q_add (IntKind.u64.wrap ((IntKind.u64.wrap ((IntKind.u64.wrap (sd * 6364136223846793005)) + (IntKind.u64.wrap (((cs.getD n0 0).toNat : Int))))) + 1442695040888963407)) rfl rfl rfl up_none ?_
    refine q_nil rfl up_none ?_
    refine q_fld 2 (by kernel_rfl) rfl up_none ?_
    refine e_setB (w := w2) sz96 rfl rfl ⟨rfl, rfl⟩ hBx2 (by simp) up_none ?_
    intro w3 hC3 hz3 hB3
    have hE3 : Chg [g] w w3 := hE2.trans hC3
    have hBx3 : BX w3.heap g [sv, (.int .i64 ((n0 + 1 : Nat) : Int)), (.int .u64 (IntKind.u64.wrap ((IntKind.u64.wrap ((IntKind.u64.wrap (sd * 6364136223846793005)) + (IntKind.u64.wrap (((cs.getD n0 0).toNat : Int))))) + 1442695040888963407)))] := hB3
    refine lw_nil ?_
    refine wp_seq ?_
    refine wp_seq ?_
    refine wp_draw _ [0, 0, 0, 1, 0, 0, 0, 1, 0, 0] mixed (by kernel_rfl) ?_
    refine q_move (.pointer (some ⟨g, 0, none⟩)) rfl up_none ?_
    refine q_nil rfl up_none ?_
    refine q_fld 1 (by kernel_rfl) rfl up_none ?_
    refine q_load (p := (.pointer (some ⟨g, 1, none⟩))) (.inl rfl) (.int .i64 ((n0 + 1 : Nat) : Int)) one3 rfl (hBx3.ld (k := 1) (by simp)) up_none ?_
    refine q_move (.pointer (some ⟨g, 0, none⟩)) rfl up_none ?_
    refine q_nil rfl up_none ?_
    refine q_fld 0 (by kernel_rfl) rfl up_none ?_
    refine q_load (p := (.pointer (some ⟨g, 0, none⟩))) (.inl rfl) sv one40 rfl (hBx3.ld (k := 0) (by simp)) up_none ?_
    refine q_len (v := sv) u40 rfl (hrs _ hE3.drew).isSl up_none ?_
    by_cases hc4 : ((n0 + 1 : Nat) : Int) ≤ ((cs.length : Nat) : Int)
    ·
      refine q_leq true rfl rfl (decide_eq_true hc4) up_none ?_
      refine lw_nil ?_
      refine c_cond_t rfl ?_
      refine wp_seq ?_
      refine wp_plain _ [0, 0] rfl ?_
      refine q_move (.int .i64 ((cs.getD n0 0).toNat : Int)) rfl up_none ?_
      refine q_assign (.int .i64 ((cs.getD n0 0).toNat : Int)) rfl up_none ?_
      refine lw_nil ?_
      refine wp_ret ?_
      refine t_ret ?_
      have hu8 := u8_lt (cs.getD n0 0)
      exact post_ret [2] rfl (.int .i64 ((cs.getD n0 0).toNat : Int)) rfl ⟨((cs.getD n0 0).toNat : Int), n0 + 1, rfl, hE3.drew, (hs.close hE3.drew hBx3), ⟨by omega, by omega⟩, (by first | omega | exact and_255 _)⟩
    ·
      refine q_leq false rfl rfl (decide_eq_false hc4) up_none ?_
      refine lw_nil ?_
      refine c_cond_f rfl ?_
      refine wp_skip ?_
      refine wp_seq ?_
      refine wp_plain _ [0, 0, 0, 2, 0, 0, 0, 0] rfl ?_
      refine q_move (.pointer (some ⟨g, 0, none⟩)) rfl up_none ?_
      refine q_nil rfl up_none ?_
      refine q_fld 2 (by kernel_rfl) rfl up_none ?_
      refine q_load (p := (.pointer (some ⟨g, 2, none⟩))) (.inr rfl) (.int .u64 (IntKind.u64.wrap ((IntKind.u64.wrap ((IntKind.u64.wrap (sd * 6364136223846793005)) + (IntKind.u64.wrap (((cs.getD n0 0).toNat : Int))))) + 1442695040888963407))) one96 rfl (hBx3.ld (k := 2) (by simp)) up_none ?_
      refine q_shr ((IntKind.u64.wrap ((IntKind.u64.wrap ((IntKind.u64.wrap (sd * 6364136223846793005)) + (IntKind.u64.wrap (((cs.getD n0 0).toNat : Int))))) + 1442695040888963407)).fdiv (2 ^ (min (40 : Int).toNat (IntKind.u64).bits))) rfl rfl (by decide) rfl up_none ?_
      refine q_and rfl rfl up_none ?_
      refine q_conv (andV .u64 ((IntKind.u64.wrap ((IntKind.u64.wrap ((IntKind.u64.wrap (sd * 6364136223846793005)) + (IntKind.u64.wrap (((cs.getD n0 0).toNat : Int))))) + 1442695040888963407)).fdiv (2 ^ (min (40 : Int).toNat (IntKind.u64).bits))) 255) u96 u2 rfl (wand _) up_none ?_
      refine q_assign (.int .i64 (andV .u64 ((IntKind.u64.wrap ((IntKind.u64.wrap ((IntKind.u64.wrap (sd * 6364136223846793005)) + (IntKind.u64.wrap (((cs.getD n0 0).toNat : Int))))) + 1442695040888963407)).fdiv (2 ^ (min (40 : Int).toNat (IntKind.u64).bits))) 255)) rfl up_none ?_
      refine lw_nil ?_
      refine wp_ret ?_
      have hu8 := u8_lt (cs.getD n0 0)
      exact post_ret [2] rfl (.int .i64 (andV .u64 ((IntKind.u64.wrap ((IntKind.u64.wrap ((IntKind.u64.wrap (sd * 6364136223846793005)) + (IntKind.u64.wrap (((cs.getD n0 0).toNat : Int))))) + 1442695040888963407)).fdiv (2 ^ (min (40 : Int).toNat (IntKind.u64).bits))) 255)) rfl ⟨andV .u64 ((IntKind.u64.wrap ((IntKind.u64.wrap ((IntKind.u64.wrap (sd * 6364136223846793005)) + (IntKind.u64.wrap (((cs.getD n0 0).toNat : Int))))) + 1442695040888963407)).fdiv (2 ^ (min (40 : Int).toNat (IntKind.u64).bits))) 255, n0 + 1, rfl, hE3.drew, (hs.close hE3.drew hBx3), ⟨by omega, by omega⟩, (by first | omega | exact and_255 _)⟩
  ·
    refine q_lss false rfl rfl (decide_eq_false hc1) up_none ?_
    refine lw_nil ?_
    refine c_cond_f rfl ?_
    refine wp_skip ?_
    refine wp_seq ?_
    refine wp_plain _ [0, 0, 0, 2, 0, 0, 0, 4] rfl ?_
    refine q_move (.pointer (some ⟨g, 0, none⟩)) rfl up_none ?_
    refine q_nil rfl up_none ?_
    refine q_fld 1 (by kernel_rfl) rfl up_none ?_
    refine q_load (p := (.pointer (some ⟨g, 1, none⟩))) (.inr rfl) (.int .i64 ((n0 : Nat) : Int)) one3 rfl (hbx.ld (k := 1) (by simp)) up_none ?_
    refine q_add ((n0 + 1 : Nat) : Int) rfl rfl (w64n (by omega) (by first | omega | assumption | (simp only [List.length_nil, List.length_cons, List.length_append, List.length_set, List.length_replicate]; omega) | (simp [List.length_nil, List.length_cons, List.length_append, List.length_set, List.length_replicate]; done) | (simp [List.length_nil, List.length_cons, List.length_append, List.length_set, List.length_replicate]; omega))) up_none ?_
    refine q_nil rfl up_none ?_
    refine q_fld 1 (by kernel_rfl) rfl up_none ?_
    refine e_setB (w := w.drew) sz3 rfl rfl ⟨rfl, rfl⟩ hbx (by simp) up_none ?_
    intro w5 hC5 hz5 hB5
    replace hC5 := hC5.of_drew
    have hE5 : Chg [g] w w5 := hE0.trans hC5
    have hBx5 : BX w5.heap g [sv, (.int .i64 ((n0 + 1 : Nat) : Int)), (.int .u64 sd)] := hB5
    refine lw_nil ?_
    refine wp_seq ?_
    refine wp_plain _ [0, 0, 0, 0, 2, 0, 0, 0, 0, 0, 0, 0, 4] rfl ?_
    refine q_move (.pointer (some ⟨g, 0, none⟩)) rfl up_none ?_
    refine q_move (.pointer (some ⟨g, 0, none⟩)) rfl up_none ?_
    refine q_nil rfl up_none ?_
    refine q_fld 2 (by kernel_rfl) rfl up_none ?_
    refine q_load (p := (.pointer (some ⟨g, 2, none⟩))) (.inr rfl) (.int .u64 sd) one96 rfl (hBx5.ld (k := 2) (by simp)) up_none ?_
    refine q_mul (IntKind.u64.wrap (sd * 6364136223846793005)) rfl rfl rfl up_none ?_
    refine q_move (.int .i64 ((0 : Nat) : Int)) rfl up_none ?_
    refine q_conv (IntKind.u64.wrap (((0 : Nat) : Int))) u3 u96 rfl rfl up_none ?_
    refine q_add (IntKind.u64.wrap ((IntKind.u64.wrap (sd * 6364136223846793005)) + (IntKind.u64.wrap (((0 : Nat) : Int))))) rfl rfl rfl up_none ?_
    refine q_add (IntKind.u64.wrap ((IntKind.u64.wrap ((IntKind.u64.wrap (sd * 6364136223846793005)) + (IntKind.u64.wrap (((0 : Nat) : Int))))) + 1442695040888963407)) rfl rfl rfl up_none ?_
    refine q_nil rfl up_none ?_
    refine q_fld 2 (by kernel_rfl) rfl up_none ?_
    refine e_setB (w := w5) sz96 rfl rfl ⟨rfl, rfl⟩ hBx5 (by simp) up_none ?_
    intro w6 hC6 hz6 hB6
    have hE6 : Chg [g] w w6 := hE5.trans hC6
    have hBx6 : BX w6.heap g [sv, (.int .i64 ((n0 + 1 : Nat) : Int)), (.int .u64 (IntKind.u64.wrap ((IntKind.u64.wrap ((IntKind.u64.wrap (sd * 6364136223846793005)) + (IntKind.u64.wrap (((0 : Nat) : Int))))) + 1442695040888963407)))] := hB6
    refine lw_nil ?_
    refine wp_seq ?_
    refine wp_seq ?_
    refine wp_draw _ [0, 0, 0, 1, 0, 0, 0, 1, 0, 0] mixed (by kernel_rfl) ?_
    refine q_move (.pointer (some ⟨g, 0, none⟩)) rfl up_none ?_
    refine q_nil rfl up_none ?_
    refine q_fld 1 (by kernel_rfl) rfl up_none ?_
    refine q_load (p := (.pointer (some ⟨g, 1, none⟩))) (.inl rfl) (.int .i64 ((n0 + 1 : Nat) : Int)) one3 rfl (hBx6.ld (k := 1) (by simp)) up_none ?_
    refine q_move (.pointer (some ⟨g, 0, none⟩)) rfl up_none ?_
    refine q_nil rfl up_none ?_
    refine q_fld 0 (by kernel_rfl) rfl up_none ?_
    refine q_load (p := (.pointer (some ⟨g, 0, none⟩))) (.inl rfl) sv one40 rfl (hBx6.ld (k := 0) (by simp)) up_none ?_
    refine q_len (v := sv) u40 rfl (hrs _ hE6.drew).isSl up_none ?_
    by_cases hc7 : ((n0 + 1 : Nat) : Int) ≤ ((cs.length : Nat) : Int)
    ·
      refine q_leq true rfl rfl (decide_eq_true hc7) up_none ?_
      refine lw_nil ?_
      refine c_cond_t rfl ?_
      refine wp_seq ?_
      refine wp_plain _ [0, 0] rfl ?_
      refine q_move (.int .i64 ((0 : Nat) : Int)) rfl up_none ?_
      refine q_assign (.int .i64 ((0 : Nat) : Int)) rfl up_none ?_
      refine lw_nil ?_
      refine wp_ret ?_
      refine t_ret ?_
      have hu8 := u8_lt (cs.getD n0 0)
      exact post_ret [2] rfl (.int .i64 ((0 : Nat) : Int)) rfl ⟨((0 : Nat) : Int), n0 + 1, rfl, hE6.drew, (hs.close hE6.drew hBx6), ⟨by omega, by omega⟩, (by first | omega | exact and_255 _)⟩
    ·
      refine q_leq false rfl rfl (decide_eq_false hc7) up_none ?_
      refine lw_nil ?_
      refine c_cond_f rfl ?_
      refine wp_skip ?_
      refine wp_seq ?_
      refine wp_plain _ [0, 0, 0, 2, 0, 0, 0, 0] rfl ?_
      refine q_move (.pointer (some ⟨g, 0, none⟩)) rfl up_none ?_
      refine q_nil rfl up_none ?_
      refine q_fld 2 (by kernel_rfl) rfl up_none ?_
      refine q_load (p := (.pointer (some ⟨g, 2, none⟩))) (.inr rfl) (.int .u64 (IntKind.u64.wrap ((IntKind.u64.wrap ((IntKind.u64.wrap (sd * 6364136223846793005)) + (IntKind.u64.wrap (((0 : Nat) : Int))))) + 1442695040888963407))) one96 rfl (hBx6.ld (k := 2) (by simp)) up_none ?_
      refine q_shr ((IntKind.u64.wrap ((IntKind.u64.wrap ((IntKind.u64.wrap (sd * 6364136223846793005)) + (IntKind.u64.wrap (((0 : Nat) : Int))))) + 1442695040888963407)).fdiv (2 ^ (min (40 : Int).toNat (IntKind.u64).bits))) rfl rfl (by decide) rfl up_none ?_
      refine q_and rfl rfl up_none ?_
      refine q_conv (andV .u64 ((IntKind.u64.wrap ((IntKind.u64.wrap ((IntKind.u64.wrap (sd * 6364136223846793005)) + (IntKind.u64.wrap (((0 : Nat) : Int))))) + 1442695040888963407)).fdiv (2 ^ (min (40 : Int).toNat (IntKind.u64).bits))) 255) u96 u2 rfl (wand _) up_none ?_
      refine q_assign (.int .i64 (andV .u64 ((IntKind.u64.wrap ((IntKind.u64.wrap ((IntKind.u64.wrap (sd * 6364136223846793005)) + (IntKind.u64.wrap (((0 : Nat) : Int))))) + 1442695040888963407)).fdiv (2 ^ (min (40 : Int).toNat (IntKind.u64).bits))) 255)) rfl up_none ?_
      refine lw_nil ?_
      refine wp_ret ?_
      have hu8 := u8_lt (cs.getD n0 0)
      exact post_ret [2] rfl (.int .i64 (andV .u64 ((IntKind.u64.wrap ((IntKind.u64.wrap ((IntKind.u64.wrap (sd * 6364136223846793005)) + (IntKind.u64.wrap (((0 : Nat) : Int))))) + 1442695040888963407)).fdiv (2 ^ (min (40 : Int).toNat (IntKind.u64).bits))) 255)) rfl ⟨andV .u64 ((IntKind.u64.wrap ((IntKind.u64.wrap ((IntKind.u64.wrap (sd * 6364136223846793005)) + (IntKind.u64.wrap (((0 : Nat) : Int))))) + 1442695040888963407)).fdiv (2 ^ (min (40 : Int).toNat (IntKind.u64).bits))) 255, n0 + 1, rfl, hE6.drew, (hs.close hE6.drew hBx6), ⟨by omega, by omega⟩, (by first | omega | exact and_255 _)⟩

/- (*spec.l00Src).pick -/
set_option maxHeartbeats 4000000 in
set_option maxRecDepth 100000 in
theorem c_spec_l00Src_pick (w : World) (g : Nat) (sv : Value) (cs : List UInt8) (n0 : Nat) (k : Int) (hs : Src w.heap g sv cs n0) (hn0 : n0 + 2 ≤ 1000000000000) (_hk : -9223372036854775808 ≤ k ∧ k ≤ 9223372036854775807) (hk : k ≤ 1000000) :
    Calls Try.prog 78 #[.pointer (some ⟨g, 0, none⟩), .int .i64 k] w (fun e w' => ∃ (x0 : Int) (n1 : Nat), e = .returned (.int .i64 x0) ∧ Chg [g] w w' ∧ Src w'.heap g sv cs n1 ∧ (n0 ≤ n1 ∧ n1 ≤ n0 + 2) ∧ (0 ≤ x0 ∧ x0 ≤ 1000000 ∧ (1 ≤ k → x0 < k))) := by
  refine calls_mk [.pointer (some ⟨g, 0, none⟩), .int .i64 k] 20 Try.func78 rfl rfl (by simp) ?_
  have hE0 : Chg [g] w w := Chg.refl [g] w
  have hgl := hs.lt
  refine wp_seq ?_
  refine wp_plain _ [0] rfl ?_
  refine q_assign (.int .i64 ((0 : Nat) : Int)) rfl up_none ?_
  refine lw_nil ?_
  refine wp_seq ?_
  refine wp_seq ?_
  refine wp_plain _ [0, 0] rfl ?_
  refine q_move (.int .i64 k) rfl up_none ?_
  by_cases hc1 : k ≤ ((1 : Nat) : Int)
  ·
    refine q_leq true rfl rfl (decide_eq_true hc1) up_none ?_
    refine lw_nil ?_
    refine c_cond_t rfl ?_
    refine wp_seq ?_
    refine wp_plain _ [0] rfl ?_
    refine q_assign (.int .i64 ((0 : Nat) : Int)) rfl up_none ?_
    refine lw_nil ?_
    refine wp_ret ?_
    refine t_ret ?_
    exact post_ret [4] rfl (.int .i64 ((0 : Nat) : Int)) rfl ⟨((0 : Nat) : Int), n0, rfl, hE0, hs, ⟨by omega, by omega⟩, (by first | omega | exact ⟨Int.emod_nonneg _ (by omega), Int.le_of_lt (Int.lt_of_lt_of_le (Int.emod_lt_of_pos _ (by omega)) (by omega)), fun _ => Int.emod_lt_of_pos _ (by omega)⟩)⟩
  ·
    refine q_leq false rfl rfl (decide_eq_false hc1) up_none ?_
    refine lw_nil ?_
    refine c_cond_f rfl ?_
    refine wp_skip ?_
    refine wp_seq ?_
    refine wp_plain _ [0, 4, 0] rfl ?_
    refine q_move (.pointer (some ⟨g, 0, none⟩)) rfl up_none ?_
    refine lw_callE 111 [] [] [(.pointer (some ⟨g, 0, none⟩))] rfl rfl cf111 up_none (c_spec_l00Src_next _ g _ _ _ hs (by omega)) ?_
    rintro e2 w2 ⟨x2_0, n2, rfl, hC2, hs2, hb2, hp2_0⟩
    refine ⟨_, rfl, ?_⟩
    have hzs2 : w.heap.size ≤ w2.heap.size := hC2.size
    have hE2 : Chg [g] w w2 := hE0.trans hC2
    refine q_assign (.int .i64 x2_0) rfl up_none ?_
    refine lw_nil ?_
    refine wp_seq ?_
    refine wp_seq ?_
    refine wp_plain _ [0, 0] rfl ?_
    refine q_move (.int .i64 k) rfl up_none ?_
    by_cases hc3 : ((200 : Nat) : Int) < k
    ·
      refine q_gtr true rfl rfl (decide_eq_true hc3) up_none ?_
      refine lw_nil ?_
      refine c_cond_t rfl ?_
      refine wp_plain _ [0, 0, 0, 4, 0, 0] rfl ?_
      refine q_move (.int .i64 x2_0) rfl up_none ?_
      refine q_mul (x2_0 * ((256 : Nat) : Int)) rfl rfl (w64 (by first | omega | assumption | (simp only [List.length_nil, List.length_cons, List.length_append, List.length_set, List.length_replicate]; omega) | (simp [List.length_nil, List.length_cons, List.length_append, List.length_set, List.length_replicate]; done) | (simp [List.length_nil, List.length_cons, List.length_append, List.length_set, List.length_replicate]; omega)) (by first | omega | assumption | (simp only [List.length_nil, List.length_cons, List.length_append, List.length_set, List.length_replicate]; omega) | (simp [List.length_nil, List.length_cons, List.length_append, List.length_set, List.length_replicate]; done) | (simp [List.length_nil, List.length_cons, List.length_append, List.length_set, List.length_replicate]; omega))) up_none ?_
      refine q_move (.pointer (some ⟨g, 0, none⟩)) rfl up_none ?_
      refine lw_callE 111 [] [] [(.pointer (some ⟨g, 0, none⟩))] rfl rfl cf111 up_none (c_spec_l00Src_next _ g _ _ _ hs2 (by omega)) ?_
      rintro e4 w4 ⟨x4_0, n4, rfl, hC4, hs4, hb4, hp4_0⟩
      refine ⟨_, rfl, ?_⟩
      have hzs4 : w2.heap.size ≤ w4.heap.size := hC4.size
      have hE4 : Chg [g] w w4 := hE2.trans hC4
      refine q_add ((x2_0 * ((256 : Nat) : Int)) + x4_0) rfl rfl (w64 (by first | omega | assumption | (simp only [List.length_nil, List.length_cons, List.length_append, List.length_set, List.length_replicate]; omega) | (simp [List.length_nil, List.length_cons, List.length_append, List.length_set, List.length_replicate]; done) | (simp [List.length_nil, List.length_cons, List.length_append, List.length_set, List.length_replicate]; omega)) (by first | omega | assumption | (simp only [List.length_nil, List.length_cons, List.length_append, List.length_set, List.length_replicate]; omega) | (simp [List.length_nil, List.length_cons, List.length_append, List.length_set, List.length_replicate]; done) | (simp [List.length_nil, List.length_cons, List.length_append, List.length_set, List.length_replicate]; omega))) up_none ?_
      refine q_assign (.int .i64 ((x2_0 * ((256 : Nat) : Int)) + x4_0)) rfl up_none ?_
      refine lw_nil ?_
      refine wp_seq ?_
      refine wp_plain _ [0, 0, 0, 0] rfl ?_
      refine q_move (.int .i64 ((x2_0 * ((256 : Nat) : Int)) + x4_0)) rfl up_none ?_
      refine q_move (.int .i64 k) rfl up_none ?_
      refine q_rem (((x2_0 * ((256 : Nat) : Int)) + x4_0) % k) rfl rfl (by omega) (Int.tmod_eq_emod_of_nonneg (by omega)) up_none ?_
      refine q_assign (.int .i64 (((x2_0 * ((256 : Nat) : Int)) + x4_0) % k)) rfl up_none ?_
      refine lw_nil ?_
      refine wp_ret ?_
      exact post_ret [4] rfl (.int .i64 (((x2_0 * ((256 : Nat) : Int)) + x4_0) % k)) rfl ⟨((x2_0 * ((256 : Nat) : Int)) + x4_0) % k, n4, rfl, hE4, hs4, ⟨by omega, by omega⟩, (by first | omega | exact ⟨Int.emod_nonneg _ (by omega), Int.le_of_lt (Int.lt_of_lt_of_le (Int.emod_lt_of_pos _ (by omega)) (by omega)), fun _ => Int.emod_lt_of_pos _ (by omega)⟩)⟩
    ·
      refine q_gtr false rfl rfl (decide_eq_false hc3) up_none ?_
      refine lw_nil ?_
      refine c_cond_f rfl ?_
      refine wp_skip ?_
      refine wp_seq ?_
      refine wp_plain _ [0, 0, 0, 0] rfl ?_
      refine q_move (.int .i64 x2_0) rfl up_none ?_
      refine q_move (.int .i64 k) rfl up_none ?_
      refine q_rem ((x2_0) % k) rfl rfl (by omega) (Int.tmod_eq_emod_of_nonneg (by omega)) up_none ?_
      refine q_assign (.int .i64 ((x2_0) % k)) rfl up_none ?_
      refine lw_nil ?_
      refine wp_ret ?_
      exact post_ret [4] rfl (.int .i64 ((x2_0) % k)) rfl ⟨(x2_0) % k, n2, rfl, hE2, hs2, ⟨by omega, by omega⟩, (by first | omega | exact ⟨Int.emod_nonneg _ (by omega), Int.le_of_lt (Int.lt_of_lt_of_le (Int.emod_lt_of_pos _ (by omega)) (by omega)), fun _ => Int.emod_lt_of_pos _ (by omega)⟩)⟩

/- (*spec.l00Src).one -/
set_option maxHeartbeats 4000000 in
set_option maxRecDepth 100000 in
theorem c_spec_l00Src_one (w : World) (g : Nat) (sv : Value) (cs : List UInt8) (n0 : Nat) (k : Int) (hs : Src w.heap g sv cs n0) (hn0 : n0 + 2 ≤ 1000000000000) (_hk : -9223372036854775808 ≤ k ∧ k ≤ 9223372036854775807) (hk : k ≤ 1000000) :
    Calls Try.prog 80 #[.pointer (some ⟨g, 0, none⟩), .int .i64 k] w (fun e w' => ∃ (x0 : Bool) (n1 : Nat), e = .returned (.bool x0) ∧ Chg [g] w w' ∧ Src w'.heap g sv cs n1 ∧ (n0 ≤ n1 ∧ n1 ≤ n0 + 2) ∧ True) := by
  refine calls_mk [.pointer (some ⟨g, 0, none⟩), .int .i64 k] 9 Try.func80 rfl rfl (by simp) ?_
  have hE0 : Chg [g] w w := Chg.refl [g] w
  have hgl := hs.lt
  refine wp_seq ?_
  refine wp_plain _ [0] rfl ?_
  refine q_assign (.bool false) rfl up_none ?_
  refine lw_nil ?_
  refine wp_seq ?_
  refine wp_plain _ [0, 0, 4, 0, 0] rfl ?_
  refine q_move (.pointer (some ⟨g, 0, none⟩)) rfl up_none ?_
  refine q_move (.int .i64 k) rfl up_none ?_
  refine lw_callE 78 [] [] [(.pointer (some ⟨g, 0, none⟩)), (.int .i64 k)] rfl rfl cf78 up_none (c_spec_l00Src_pick _ g _ _ _ _ hs (by omega) _hk (by first | omega | assumption | (simp only [List.length_nil, List.length_cons, List.length_append, List.length_set, List.length_replicate]; omega) | (simp [List.length_nil, List.length_cons, List.length_append, List.length_set, List.length_replicate]; done) | (simp [List.length_nil, List.length_cons, List.length_append, List.length_set, List.length_replicate]; omega))) ?_
  rintro e1 w1 ⟨x1_0, n1, rfl, hC1, hs1, hb1, hp1_0⟩
  refine ⟨_, rfl, ?_⟩
  have hzs1 : w.heap.size ≤ w1.heap.size := hC1.size
  have hE1 : Chg [g] w w1 := hE0.trans hC1
  refine q_eql (decide (x1_0 = ((0 : Nat) : Int))) rfl rfl rfl up_none ?_
  refine q_assign (.bool (decide (x1_0 = ((0 : Nat) : Int)))) rfl up_none ?_
  refine lw_nil ?_
  refine wp_ret ?_
  exact post_ret [4] rfl (.bool (decide (x1_0 = ((0 : Nat) : Int)))) rfl ⟨decide (x1_0 = ((0 : Nat) : Int)), n1, rfl, hE1, hs1, ⟨by omega, by omega⟩, (by trivial)⟩

/- spec.l01Any -/
set_option maxHeartbeats 4000000 in
set_option maxRecDepth 100000 in
theorem c_spec_l01Any (w : World) (g : Nat) (sv : Value) (cs : List UInt8) (n0 : Nat) (hs : Src w.heap g sv cs n0) (hn0 : n0 + 8 ≤ 1000000000000)  :
    Calls Try.prog 112 #[.pointer (some ⟨g, 0, none⟩)] w (fun e w' => ∃ (x0 : Int) (n1 : Nat), e = .returned (.int .i64 x0) ∧ Chg [g] w w' ∧ Src w'.heap g sv cs n1 ∧ (n0 ≤ n1 ∧ n1 ≤ n0 + 8) ∧ (0 ≤ x0 ∧ x0 < 1000003)) := by
  refine calls_mk [.pointer (some ⟨g, 0, none⟩)] 25 Try.func112 rfl rfl (by simp) ?_
  have hE0 : Chg [g] w w := Chg.refl [g] w
  have hgl := hs.lt
  refine wp_seq ?_
  refine wp_plain _ [0] rfl ?_
  refine q_assign (.int .i64 ((0 : Nat) : Int)) rfl up_none ?_
  refine lw_nil ?_
  refine wp_seq ?_
  refine wp_seq ?_
  refine wp_plain _ [0, 4] rfl ?_
  refine q_move (.pointer (some ⟨g, 0, none⟩)) rfl up_none ?_
  refine lw_callE 78 [] [] [(.pointer (some ⟨g, 0, none⟩)), (.int .i64 ((6 : Nat) : Int))] rfl rfl cf78 up_none (c_spec_l00Src_pick _ g _ _ _ _ hs (by omega) (by omega) (by first | omega | assumption | (simp only [List.length_nil, List.length_cons, List.length_append, List.length_set, List.length_replicate]; omega) | (simp [List.length_nil, List.length_cons, List.length_append, List.length_set, List.length_replicate]; done) | (simp [List.length_nil, List.length_cons, List.length_append, List.length_set, List.length_replicate]; omega))) ?_
  rintro e1 w1 ⟨x1_0, n1, rfl, hC1, hs1, hb1, hp1_0⟩
  refine ⟨_, rfl, ?_⟩
  have hzs1 : w.heap.size ≤ w1.heap.size := hC1.size
  have hE1 : Chg [g] w w1 := hE0.trans hC1
  refine lw_nil ?_
  refine wp_block ?_
  refine wp_seq ?_
  refine wp_plain _ [0, 0] rfl ?_
  by_cases hc2 : x1_0 = ((0 : Nat) : Int)
  ·
    refine q_eql true rfl rfl (decide_eq_true hc2) up_none ?_
    refine q_assign (.bool true) rfl up_none ?_
    refine lw_nil ?_
    refine c_cond_t rfl ?_
    refine wp_seq ?_
    refine wp_plain _ [0, 4, 0, 0] rfl ?_
    refine q_move (.pointer (some ⟨g, 0, none⟩)) rfl up_none ?_
    refine lw_callE 78 [] [] [(.pointer (some ⟨g, 0, none⟩)), (.int .i64 ((3 : Nat) : Int))] rfl rfl cf78 up_none (c_spec_l00Src_pick _ g _ _ _ _ hs1 (by omega) (by omega) (by first | omega | assumption | (simp only [List.length_nil, List.length_cons, List.length_append, List.length_set, List.length_replicate]; omega) | (simp [List.length_nil, List.length_cons, List.length_append, List.length_set, List.length_replicate]; done) | (simp [List.length_nil, List.length_cons, List.length_append, List.length_set, List.length_replicate]; omega))) ?_
    rintro e3 w3 ⟨x3_0, n3, rfl, hC3, hs3, hb3, hp3_0⟩
    refine ⟨_, rfl, ?_⟩
    have hzs3 : w1.heap.size ≤ w3.heap.size := hC3.size
    have hE3 : Chg [g] w w3 := hE1.trans hC3
    refine q_sub (((1000002 : Nat) : Int) - x3_0) rfl rfl (w64 (by first | omega | assumption | (simp only [List.length_nil, List.length_cons, List.length_append, List.length_set, List.length_replicate]; omega) | (simp [List.length_nil, List.length_cons, List.length_append, List.length_set, List.length_replicate]; done) | (simp [List.length_nil, List.length_cons, List.length_append, List.length_set, List.length_replicate]; omega)) (by first | omega | assumption | (simp only [List.length_nil, List.length_cons, List.length_append, List.length_set, List.length_replicate]; omega) | (simp [List.length_nil, List.length_cons, List.length_append, List.length_set, List.length_replicate]; done) | (simp [List.length_nil, List.length_cons, List.length_append, List.length_set, List.length_replicate]; omega))) up_none ?_
    refine q_assign (.int .i64 (((1000002 : Nat) : Int) - x3_0)) rfl up_none ?_
    refine lw_nil ?_
    refine wp_ret ?_
    refine b_ret ?_
    refine t_ret ?_
    exact post_ret [2] rfl (.int .i64 (((1000002 : Nat) : Int) - x3_0)) rfl ⟨((1000002 : Nat) : Int) - x3_0, n3, rfl, hE3, hs3, ⟨by omega, by omega⟩, (by first | omega | exact md_num _)⟩
  ·
    refine q_eql false rfl rfl (decide_eq_false hc2) up_none ?_
    refine q_assign (.bool false) rfl up_none ?_
    refine lw_nil ?_
    refine c_cond_f rfl ?_
    refine wp_seq ?_
    refine wp_plain _ [0, 0] rfl ?_
    by_cases hc4 : x1_0 = ((1 : Nat) : Int)
    ·
      refine q_eql true rfl rfl (decide_eq_true hc4) up_none ?_
      refine q_assign (.bool true) rfl up_none ?_
      refine lw_nil ?_
      refine c_cond_t rfl ?_
      refine wp_seq ?_
      refine wp_plain _ [0, 4, 0, 0, 4, 0, 0, 0, 4, 0, 0, 0] rfl ?_
      refine q_move (.pointer (some ⟨g, 0, none⟩)) rfl up_none ?_
      refine lw_callE 78 [] [] [(.pointer (some ⟨g, 0, none⟩)), (.int .i64 ((256 : Nat) : Int))] rfl rfl cf78 up_none (c_spec_l00Src_pick _ g _ _ _ _ hs1 (by omega) (by omega) (by first | omega | assumption | (simp only [List.length_nil, List.length_cons, List.length_append, List.length_set, List.length_replicate]; omega) | (simp [List.length_nil, List.length_cons, List.length_append, List.length_set, List.length_replicate]; done) | (simp [List.length_nil, List.length_cons, List.length_append, List.length_set, List.length_replicate]; omega))) ?_
      rintro e5 w5 ⟨x5_0, n5, rfl, hC5, hs5, hb5, hp5_0⟩
      refine ⟨_, rfl, ?_⟩
      have hzs5 : w1.heap.size ≤ w5.heap.size := hC5.size
      have hE5 : Chg [g] w w5 := hE1.trans hC5
      refine q_mul (x5_0 * ((65536 : Nat) : Int)) rfl rfl (w64 (by first | omega | assumption | (simp only [List.length_nil, List.length_cons, List.length_append, List.length_set, List.length_replicate]; omega) | (simp [List.length_nil, List.length_cons, List.length_append, List.length_set, List.length_replicate]; done) | (simp [List.length_nil, List.length_cons, List.length_append, List.length_set, List.length_replicate]; omega)) (by first | omega | assumption | (simp only [List.length_nil, List.length_cons, List.length_append, List.length_set, List.length_replicate]; omega) | (simp [List.length_nil, List.length_cons, List.length_append, List.length_set, List.length_replicate]; done) | (simp [List.length_nil, List.length_cons, List.length_append, List.length_set, List.length_replicate]; omega))) up_none ?_
      refine q_move (.pointer (some ⟨g, 0, none⟩)) rfl up_none ?_
      refine lw_callE 78 [] [] [(.pointer (some ⟨g, 0, none⟩)), (.int .i64 ((256 : Nat) : Int))] rfl rfl cf78 up_none (c_spec_l00Src_pick _ g _ _ _ _ hs5 (by omega) (by omega) (by first | omega | assumption | (simp only [List.length_nil, List.length_cons, List.length_append, List.length_set, List.length_replicate]; omega) | (simp [List.length_nil, List.length_cons, List.length_append, List.length_set, List.length_replicate]; done) | (simp [List.length_nil, List.length_cons, List.length_append, List.length_set, List.length_replicate]; omega))) ?_
      rintro e6 w6 ⟨x6_0, n6, rfl, hC6, hs6, hb6, hp6_0⟩
      refine ⟨_, rfl, ?_⟩
      have hzs6 : w5.heap.size ≤ w6.heap.size := hC6.size
      have hE6 : Chg [g] w w6 := hE5.trans hC6
      refine q_mul (x6_0 * ((256 : Nat) : Int)) rfl rfl (w64 (by first | omega | assumption | (simp only [List.length_nil, List.length_cons, List.length_append, List.length_set, List.length_replicate]; omega) | (simp [List.length_nil, List.length_cons, List.length_append, List.length_set, List.length_replicate]; done) | (simp [List.length_nil, List.length_cons, List.length_append, List.length_set, List.length_replicate]; omega)) (by first | omega | assumption | (simp only [List.length_nil, List.length_cons, List.length_append, List.length_set, List.length_replicate]; omega) | (simp [List.length_nil, List.length_cons, List.length_append, List.length_set, List.length_replicate]; done) | (simp [List.length_nil, List.length_cons, List.length_append, List.length_set, List.length_replicate]; omega))) up_none ?_
      refine q_add ((x5_0 * ((65536 : Nat) : Int)) + (x6_0 * ((256 : Nat) : Int))) rfl rfl (w64 (by first | omega | assumption | (simp only [List.length_nil, List.length_cons, List.length_append, List.length_set, List.length_replicate]; omega) | (simp [List.length_nil, List.length_cons, List.length_append, List.length_set, List.length_replicate]; done) | (simp [List.length_nil, List.length_cons, List.length_append, List.length_set, List.length_replicate]; omega)) (by first | omega | assumption | (simp only [List.length_nil, List.length_cons, List.length_append, List.length_set, List.length_replicate]; omega) | (simp [List.length_nil, List.length_cons, List.length_append, List.length_set, List.length_replicate]; done) | (simp [List.length_nil, List.length_cons, List.length_append, List.length_set, List.length_replicate]; omega))) up_none ?_
      refine q_move (.pointer (some ⟨g, 0, none⟩)) rfl up_none ?_
      refine lw_callE 78 [] [] [(.pointer (some ⟨g, 0, none⟩)), (.int .i64 ((256 : Nat) : Int))] rfl rfl cf78 up_none (c_spec_l00Src_pick _ g _ _ _ _ hs6 (by omega) (by omega) (by first | omega | assumption | (simp only [List.length_nil, List.length_cons, List.length_append, List.length_set, List.length_replicate]; omega) | (simp [List.length_nil, List.length_cons, List.length_append, List.length_set, List.length_replicate]; done) | (simp [List.length_nil, List.length_cons, List.length_append, List.length_set, List.length_replicate]; omega))) ?_
      rintro e7 w7 ⟨x7_0, n7, rfl, hC7, hs7, hb7, hp7_0⟩
      refine ⟨_, rfl, ?_⟩
      have hzs7 : w6.heap.size ≤ w7.heap.size := hC7.size
      have hE7 : Chg [g] w w7 := hE6.trans hC7
      refine q_add (((x5_0 * ((65536 : Nat) : Int)) + (x6_0 * ((256 : Nat) : Int))) + x7_0) rfl rfl (w64 (by first | omega | assumption | (simp only [List.length_nil, List.length_cons, List.length_append, List.length_set, List.length_replicate]; omega) | (simp [List.length_nil, List.length_cons, List.length_append, List.length_set, List.length_replicate]; done) | (simp [List.length_nil, List.length_cons, List.length_append, List.length_set, List.length_replicate]; omega)) (by first | omega | assumption | (simp only [List.length_nil, List.length_cons, List.length_append, List.length_set, List.length_replicate]; omega) | (simp [List.length_nil, List.length_cons, List.length_append, List.length_set, List.length_replicate]; done) | (simp [List.length_nil, List.length_cons, List.length_append, List.length_set, List.length_replicate]; omega))) up_none ?_
      refine q_rem (md (((x5_0 * ((65536 : Nat) : Int)) + (x6_0 * ((256 : Nat) : Int))) + x7_0)) rfl rfl (by decide) (Int.tmod_eq_emod_of_nonneg (by omega)) up_none ?_
      refine q_assign (.int .i64 (md (((x5_0 * ((65536 : Nat) : Int)) + (x6_0 * ((256 : Nat) : Int))) + x7_0))) rfl up_none ?_
      refine lw_nil ?_
      refine wp_ret ?_
      refine b_ret ?_
      refine t_ret ?_
      exact post_ret [2] rfl (.int .i64 (md (((x5_0 * ((65536 : Nat) : Int)) + (x6_0 * ((256 : Nat) : Int))) + x7_0))) rfl ⟨md (((x5_0 * ((65536 : Nat) : Int)) + (x6_0 * ((256 : Nat) : Int))) + x7_0), n7, rfl, hE7, hs7, ⟨by omega, by omega⟩, (by first | omega | exact md_num _)⟩
    ·
      refine q_eql false rfl rfl (decide_eq_false hc4) up_none ?_
      refine q_assign (.bool false) rfl up_none ?_
      refine lw_nil ?_
      refine c_cond_f rfl ?_
      refine wp_skip ?_
      refine wp_seq ?_
      refine wp_plain _ [0, 4, 0] rfl ?_
      refine q_move (.pointer (some ⟨g, 0, none⟩)) rfl up_none ?_
      refine lw_callE 78 [] [] [(.pointer (some ⟨g, 0, none⟩)), (.int .i64 ((7 : Nat) : Int))] rfl rfl cf78 up_none (c_spec_l00Src_pick _ g _ _ _ _ hs1 (by omega) (by omega) (by first | omega | assumption | (simp only [List.length_nil, List.length_cons, List.length_append, List.length_set, List.length_replicate]; omega) | (simp [List.length_nil, List.length_cons, List.length_append, List.length_set, List.length_replicate]; done) | (simp [List.length_nil, List.length_cons, List.length_append, List.length_set, List.length_replicate]; omega))) ?_
      rintro e8 w8 ⟨x8_0, n8, rfl, hC8, hs8, hb8, hp8_0⟩
      refine ⟨_, rfl, ?_⟩
      have hzs8 : w1.heap.size ≤ w8.heap.size := hC8.size
      have hE8 : Chg [g] w w8 := hE1.trans hC8
      refine q_assign (.int .i64 x8_0) rfl up_none ?_
      refine lw_nil ?_
      refine wp_ret ?_
      exact post_ret [2] rfl (.int .i64 x8_0) rfl ⟨x8_0, n8, rfl, hE8, hs8, ⟨by omega, by omega⟩, (by first | omega | exact md_num _)⟩

/- spec.l01Draw -/
set_option maxHeartbeats 4000000 in
set_option maxRecDepth 100000 in
theorem c_spec_l01Draw (w : World) (g : Nat) (sv : Value) (cs : List UInt8) (n0 : Nat) (k : Int) (hs : Src w.heap g sv cs n0) (hn0 : n0 + (8 * k.toNat) ≤ 1000000000000) (_hk : -9223372036854775808 ≤ k ∧ k ≤ 9223372036854775807) (hk : k ≤ 1000) :
    Calls Try.prog 79 #[.pointer (some ⟨g, 0, none⟩), .int .i64 k] w (fun e w' => ∃ (v0 : Value) (x0 : List Int) (n1 : Nat), e = .returned (v0) ∧ Chg [g] w w' ∧ Src w'.heap g sv cs n1 ∧ (n0 ≤ n1 ∧ n1 ≤ n0 + (8 * k.toNat)) ∧ Fr (owL rI 2) w.heap.size w'.heap.size w'.heap v0 x0 ∧ (x0.length = k.toNat ∧ allN x0 = true)) := by
  refine calls_mk [.pointer (some ⟨g, 0, none⟩), .int .i64 k] 19 Try.func79 rfl rfl (by simp) ?_
  have hE0 : Chg [g] w w := Chg.refl [g] w
  have hgl := hs.lt
  refine wp_seq ?_
  refine wp_plain _ [0] rfl ?_
  refine q_assign (.slice none 0 0) rfl up_none ?_
  refine lw_nil ?_
  refine wp_seq ?_
  refine wp_plain _ [3, 0] rfl ?_
  refine r_nil (rI) good_rI u29 ti2 up_none ?_
  intro v1 w1 hX1 hz1 hO1
  have hzs1 : w.heap.size ≤ w1.heap.size := hX1.size
  have hE1 : Chg [g] w w1 := hE0.ext hX1
  have hsx1 := hs.ext hX1
  refine q_assign v1 rfl up_none ?_
  refine lw_nil ?_
  refine wp_seq ?_
  refine wp_seq ?_
  refine wp_plain _ [0] rfl ?_
  refine q_assign (.int .i64 ((0 : Nat) : Int)) rfl up_none ?_
  refine lw_nil ?_
  refine wp_block ?_
  refine c_loop (S := Nat × Value × List Int × Nat) (fun (⟨j, vo, xs, m⟩ : Nat × Value × List Int × Nat) => ([(5, vo), (6, (.int .i64 ((j : Nat) : Int))), (0, (.pointer (some ⟨g, 0, none⟩))), (1, (.int .i64 k))] : List (Nat × Value))) (fun (⟨j, vo, xs, m⟩ : Nat × Value × List Int × Nat) (W : World) => Chg [g] w W ∧ Fr (owL rI 2) w.heap.size W.heap.size W.heap vo xs ∧ Src W.heap g sv cs m ∧ j ≤ k.toNat ∧ (n0 ≤ m ∧ m ≤ n0 + 8 * j) ∧ (xs.length = j ∧ allN xs = true)) (fun (⟨j, vo, xs, m⟩ : Nat × Value × List Int × Nat) => k.toNat - j) (0, v1, [], n0) ⟨rfl, rfl, rfl, rfl, trivial⟩ ⟨hE1, hO1.up o1, hsx1, (by first | omega | assumption | (simp only [List.length_nil, List.length_cons, List.length_append, List.length_set, List.length_replicate]; omega) | (simp [List.length_nil, List.length_cons, List.length_append, List.length_set, List.length_replicate]; done) | (simp [List.length_nil, List.length_cons, List.length_append, List.length_set, List.length_replicate]; omega)), (by omega), (by exact ⟨rfl, rfl⟩)⟩ ?_
  clear hE0 hO1 hz1 hX1 hzs1 hE1
  rintro ⟨j, vo, xs, m⟩ ρ2 w2 ⟨hE2, hL2_0, hL2_1, hp2_0, hm, hxs⟩
  have hzs2 : w.heap.size ≤ w2.heap.size := hE2.size
  refine wp_seq ?_
  refine wp_seq ?_
  refine wp_plain _ [0, 0, 0] rfl ?_
  refine q_move (.int .i64 ((j : Nat) : Int)) rfl up_none ?_
  refine q_move (.int .i64 k) rfl up_none ?_
  by_cases hc3 : ((j : Nat) : Int) < k
  ·
    refine q_lss true rfl rfl (decide_eq_true hc3) up_none ?_
    refine lw_nil ?_
    refine c_cond_t rfl ?_
    refine wp_skip ?_
    refine wp_seq ?_
    refine wp_block ?_
    refine wp_plain _ [0, 0, 4, 3, 4, 0] rfl ?_
    refine q_move vo rfl up_none ?_
    refine q_move (.pointer (some ⟨g, 0, none⟩)) rfl up_none ?_
    refine lw_callE 112 [] [] [(.pointer (some ⟨g, 0, none⟩))] rfl rfl cf112 up_none (c_spec_l01Any _ g _ _ _ hL2_1 (by omega)) ?_
    rintro e4 w4 ⟨x4_0, n4, rfl, hC4, hs4, hb4, hp4_0⟩
    refine ⟨_, rfl, ?_⟩
    have hzs4 : w2.heap.size ≤ w4.heap.size := hC4.size
    have hE4 : Chg [g] w w4 := hE2.trans hC4
    have hF5 := hL2_0.chg (o1) hC4 (fun b hb => by have : b = g := (by simpa using hb); omega)
    refine r_one (u := (.int .i64 x4_0)) (B := w4.heap.size) good_rI u29 ti2 rfl rfl (frI w4.heap.size w4.heap.size _ _ (by omega)) (Nat.le_refl _) up_none ?_
    intro v6 w6 hX6 hz6 hO6
    have hzs6 : w4.heap.size ≤ w6.heap.size := hX6.size
    have hE6 : Chg [g] w w6 := hE4.ext hX6
    have hF5x6 := hF5.ext (o1) hX6
    have hs4x6 := hs4.ext hX6
    refine e_appI (v := vo) (a := v6) u29 ti2 rfl rfl rfl hF5x6 hE6.size hO6.rd1 (by first | omega | assumption | (simp only [List.length_nil, List.length_cons, List.length_append, List.length_set, List.length_replicate]; omega) | (simp [List.length_nil, List.length_cons, List.length_append, List.length_set, List.length_replicate]; done) | (simp [List.length_nil, List.length_cons, List.length_append, List.length_set, List.length_replicate]; omega)) (by unfold maxLen; first | omega | assumption | (simp only [List.length_nil, List.length_cons, List.length_append, List.length_set, List.length_replicate]; omega) | (simp [List.length_nil, List.length_cons, List.length_append, List.length_set, List.length_replicate]; done) | (simp [List.length_nil, List.length_cons, List.length_append, List.length_set, List.length_replicate]; omega)) up_none ?_
    intro v7 w7 F7 hC7 hF7 hO7
    have hE7 : Chg [g] w w7 := hE6.fresh hC7 (fun c hc => Nat.le_trans (Nat.le_refl _) (hF7 c hc).1)
    have hzs7 : w6.heap.size ≤ w7.heap.size := hC7.size
    have hF8 := hs4x6.chg hC7 (fun c hc => by have := hF7 c hc; omega)
    have hF9 := hO6.chg (o1) hC7 (fun c hc => by have := hF7 c hc; omega)
    refine q_assign v7 rfl up_none ?_
    refine lw_nil ?_
    refine wp_plain _ [0, 0, 0] rfl ?_
    refine q_move (.int .i64 ((j : Nat) : Int)) rfl up_none ?_
    refine q_add ((j + 1 : Nat) : Int) rfl rfl (w64n (by omega) (by omega)) up_none ?_
    refine q_assign (.int .i64 ((j + 1 : Nat) : Int)) rfl up_none ?_
    refine lw_nil ?_
    exact ⟨((j + 1), v7, (xs ++ [x4_0]), n4), _, rfl, ⟨rfl, rfl, rfl, rfl, trivial⟩, ⟨hE7, hO7.up o1, hF8, (by first | omega | assumption | (simp only [List.length_nil, List.length_cons, List.length_append, List.length_set, List.length_replicate]; omega) | (simp [List.length_nil, List.length_cons, List.length_append, List.length_set, List.length_replicate]; done) | (simp [List.length_nil, List.length_cons, List.length_append, List.length_set, List.length_replicate]; omega)), (by omega), (by exact ⟨by rw [List.length_append, hxs.1]; rfl, by unfold allN at *; rw [List.all_append, hxs.2]; simp only [List.all_cons, List.all_nil, Bool.and_true, Bool.true_and]; exact isN_iff.2 (by omega)⟩)⟩, by first | omega | (dsimp only; omega)⟩
  ·
    refine q_lss false rfl rfl (decide_eq_false hc3) up_none ?_
    refine lw_nil ?_
    refine c_cond_f rfl ?_
    refine wp_exit ?_
    refine t_exit ?_
    refine t_exit ?_
    refine c_exit_here ?_
    refine wp_seq ?_
    refine wp_plain _ [0, 0] rfl ?_
    refine q_move vo rfl up_none ?_
    refine q_assign vo rfl up_none ?_
    refine lw_nil ?_
    refine wp_ret ?_
    exact post_ret [4] rfl vo rfl ⟨vo, xs, m, rfl, hE2, hL2_1, ⟨by omega, by omega⟩, hL2_0.up o1, (by exact ⟨by omega, hxs.2⟩)⟩
end Go.Proofs.Ytjgnlnlngcjfcaa
