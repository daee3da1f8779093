/- Contracts of functions: each says what the function returns for all arguments that meet its premises. Printed by gen.py. -/
import Derived.Test.YtjgnlnlngcjfcaaFwM
import Derived.Test.YtjgnlnlngcjfcaaMc
import Derived.Test.YtjgnlnlngcjfcaaT
import Derived.Test.YtjgnlnlngcjfcaaSa
import Derived.Test.YtjgnlnlngcjfcaaSb
import Derived.Test.YtjgnlnlngcjfcaaSc
import Derived.Test.YtjgnlnlngcjfcaaSf
import Derived.Test.YtjgnlnlngcjfcaaSv
import Derived.Test.YtjgnlnlngcjfcaaProg
namespace Go.Proofs.Ytjgnlnlngcjfcaa
open Go Go.RowKit
set_option linter.unusedVariables false
set_option linter.unusedSimpArgs false
attribute [local irreducible] LW
/- spec.l00From -/
theorem bld98a (a : Option Addr) (n c : Nat) (w : World) : (Instr.build 98 #[(0, .slice a n c)]).run Try.prog w = .ok (.agg #[.slice a n c, .int .i64 0, .int .u64 0]) w := by
  kernel_rfl
theorem bld98 {v : Value} {n : Nat} (h : isSl v n) (w : World) : (Instr.build 98 #[(0, v)]).run Try.prog w = .ok (.agg #[v, .int .i64 0, .int .u64 0]) w := by
  obtain ⟨a, c, rfl, _⟩ := h
  exact bld98a a n c w

set_option maxHeartbeats 4000000 in
set_option maxRecDepth 100000 in
theorem c_spec_l00From (w : World) (vc : Value) (cs : List UInt8) (hcs : Rd (rdL rU) w.heap vc cs)  :
    Calls Try.prog 77 #[vc] w (fun e w' => ∃ g : Nat, e = .returned (.pointer (some ⟨g, 0, none⟩)) ∧ Ext w w' ∧ Src w'.heap g vc cs 0 ∧ w.heap.size ≤ g) := by
  refine calls_mk [vc] 6 Try.func77 rfl rfl (by simp) ?_
  have hE0 : Ext w w := Ext.refl w
  have hl_vc := hcs.lenle
  refine wp_seq ?_
  refine wp_plain _ [0] rfl ?_
  refine q_assign (.pointer none) rfl up_none ?_
  refine lw_nil ?_
  refine wp_seq ?_
  refine wp_plain _ [0, 0, 3, 0] rfl ?_
  refine q_move vc rfl up_none ?_
  refine q_build (ps := #[(0, vc)]) (.agg #[vc, .int .i64 0, .int .u64 0]) (by simp only [List.map_toArray, List.map_cons, List.map_nil]; rfl) (fun wq => bld98 hcs.isSl wq) up_none ?_
  refine r_boxA rfl up_none ?_
  intro w1 hX1 hz1 hB1
  have hzs1 : w.heap.size ≤ w1.heap.size := hX1.size
  have hE1 : Ext w w1 := hE0.trans hX1
  have hs1 := Src.new hcs hE1 hB1 hE0.size
  refine q_assign (.pointer (some ⟨w.heap.size, 0, none⟩)) rfl up_none ?_
  refine lw_nil ?_
  refine wp_ret ?_
  exact post_ret [2] rfl (.pointer (some ⟨w.heap.size, 0, none⟩)) rfl ⟨w.heap.size, rfl, hE1, hs1, hE0.size⟩

/- spec.A2List -/
set_option maxHeartbeats 4000000 in
set_option maxRecDepth 100000 in
theorem c_spec_A2List (w : World) (vc : Value) (cs : List UInt8) (k : Int) (hcs : Rd (rdL rU) w.heap vc cs) (_hk : -9223372036854775808 ≤ k ∧ k ≤ 9223372036854775807) (hk : k ≤ 1000) :
    Calls Try.prog 32 #[vc, .int .i64 k] w (fun e w' => ∃ v0 : Value, ∃ (x0 : List Int), e = .returned (v0) ∧ Ext w w' ∧ Fr (owL rI 2) w.heap.size w'.heap.size w'.heap v0 x0 ∧ (x0.length = k.toNat ∧ allN x0 = true)) := by
  refine calls_mk [vc, .int .i64 k] 9 Try.func32 rfl rfl (by simp) ?_
  have hE0 : Ext w w := Ext.refl w
  have hl_vc := hcs.lenle
  refine wp_seq ?_
  refine wp_plain _ [0] rfl ?_
  refine q_assign (.slice none 0 0) rfl up_none ?_
  refine lw_nil ?_
  refine wp_seq ?_
  refine wp_plain _ [0, 3, 0, 4, 0] rfl ?_
  refine q_move vc rfl up_none ?_
  refine lw_call 77 [] [] [vc] rfl rfl cf77 up_none (c_spec_l00From _ _ _ (hcs.ext good_u hE0)) ?_
  rintro e1 w1 ⟨gB1, rfl, hX1, hs1, hg1⟩
  refine ⟨_, rfl, hX1, ?_⟩
  have hzs1 : w.heap.size ≤ w1.heap.size := hX1.size
  have hE1 : Ext w w1 := hE0.trans hX1
  refine q_move (.int .i64 k) rfl up_none ?_
  refine lw_callE 79 [] [] [(.pointer (some ⟨gB1, 0, none⟩)), (.int .i64 k)] rfl rfl cf79 up_none (c_spec_l01Draw _ gB1 _ _ _ _ hs1 (by omega) _hk (by exact hk)) ?_
  rintro e2 w2 ⟨v2_0, x2_0, n2, rfl, hC2, hs2, hb2, hO2_0, hp2_0⟩
  refine ⟨_, rfl, ?_⟩
  have hzs2 : w1.heap.size ≤ w2.heap.size := hC2.size
  have hE2 : Ext w w2 := hC2.below hE1 (fun b hb => by have : b = gB1 := (by simpa using hb); omega) hE1.size
  refine q_assign v2_0 rfl up_none ?_
  refine lw_nil ?_
  refine wp_ret ?_
  exact post_ret [4] rfl v2_0 rfl ⟨v2_0, x2_0, rfl, hE2, (hO2_0.up o1).low hE1.size, (by assumption)⟩

/- spec.A2Matrix -/
theorem sq_snoc {xs : List (List Int)} {x : List Int} {j nn : Nat} (h : xs.length = j ∧ (∀ r, r < j → (xs.getD r []).length = nn) ∧ ∀ r, allN (xs.getD r []) = true) (hx : x.length = nn) (hn : allN x = true) :
    (xs ++ [x]).length = j + 1 ∧ (∀ r, r < j + 1 → ((xs ++ [x]).getD r []).length = nn) ∧ ∀ r, allN ((xs ++ [x]).getD r []) = true := by
  obtain ⟨h1, h2, h3⟩ := h
  refine ⟨by simp [h1], fun r hr => ?_, fun r => ?_⟩
  · rw [gsnoc]; split
    · exact hx
    · exact h2 r (by omega)
  · rw [gsnoc]; split
    · exact hn
    · exact h3 r
theorem sq_mk {xs : List (List Int)} {j nn : Nat} (h : xs.length = j ∧ (∀ r, r < j → (xs.getD r []).length = nn) ∧ ∀ r, allN (xs.getD r []) = true) (hj : j = nn) : Sq xs.length xs := by
  obtain ⟨h1, h2, h3⟩ := h
  subst hj
  exact ⟨rfl, fun r hr => by rw [h1]; exact h2 r (by omega), h3⟩

set_option maxHeartbeats 4000000 in
set_option maxRecDepth 100000 in
theorem c_spec_A2Matrix (w : World) (vc : Value) (cs : List UInt8) (hcs : Rd (rdL rU) w.heap vc cs)  :
    Calls Try.prog 29 #[vc] w (fun e w' => ∃ v0 v1 : Value, ∃ (x0 : List (List Int)) (x1 : List Int), e = .returned (.tuple #[v0, v1]) ∧ Ext w w' ∧ Fr (owL (owL rI 2) 29) w.heap.size w'.heap.size w'.heap v0 x0 ∧ Fr (owL rI 2) w.heap.size w'.heap.size w'.heap v1 x1 ∧ (1 ≤ x0.length ∧ x0.length ≤ 5 ∧ Sq x0.length x0) ∧ (x1.length = x0.length ∧ allN x1 = true)) := by
  refine calls_mk [vc] 43 Try.func29 rfl rfl (by simp) ?_
  have hE0 : Ext w w := Ext.refl w
  have hl_vc := hcs.lenle
  refine wp_seq ?_
  refine wp_plain _ [0, 0] rfl ?_
  refine q_assign (.slice none 0 0) rfl up_none ?_
  refine q_assign (.slice none 0 0) rfl up_none ?_
  refine lw_nil ?_
  refine wp_seq ?_
  refine wp_plain _ [0, 3, 0] rfl ?_
  refine q_move vc rfl up_none ?_
  refine lw_call 77 [] [] [vc] rfl rfl cf77 up_none (c_spec_l00From _ _ _ (hcs.ext good_u hE0)) ?_
  rintro e1 w1 ⟨gB1, rfl, hX1, hs1, hg1⟩
  refine ⟨_, rfl, hX1, ?_⟩
  have hzs1 : w.heap.size ≤ w1.heap.size := hX1.size
  have hE1 : Ext w w1 := hE0.trans hX1
  refine q_assign (.pointer (some ⟨gB1, 0, none⟩)) rfl up_none ?_
  refine lw_nil ?_
  refine wp_seq ?_
  refine wp_plain _ [0, 4, 0, 0] rfl ?_
  refine q_move (.pointer (some ⟨gB1, 0, none⟩)) rfl up_none ?_
  refine lw_callE 78 [] [] [(.pointer (some ⟨gB1, 0, none⟩)), (.int .i64 ((5 : Nat) : Int))] rfl rfl cf78 up_none (c_spec_l00Src_pick _ gB1 _ _ _ _ hs1 (by omega) (by omega) (by omega)) ?_
  rintro e2 w2 ⟨x2_0, n2, rfl, hC2, hs2, hb2, hp2_0⟩
  refine ⟨_, rfl, ?_⟩
  have hzs2 : w1.heap.size ≤ w2.heap.size := hC2.size
  have hE2 : Ext w w2 := hC2.below hE1 (fun b hb => by have : b = gB1 := (by simpa using hb); omega) hE1.size
  refine q_add (((1 : Nat) : Int) + x2_0) rfl rfl (w64 (by first | omega | assumption | (simp only [List.length_nil, List.length_cons, List.length_append, List.length_set, List.length_replicate]; omega) | (simp [List.length_nil, List.length_cons, List.length_append, List.length_set, List.length_replicate]; done) | (simp [List.length_nil, List.length_cons, List.length_append, List.length_set, List.length_replicate]; omega)) (by first | omega | assumption | (simp only [List.length_nil, List.length_cons, List.length_append, List.length_set, List.length_replicate]; omega) | (simp [List.length_nil, List.length_cons, List.length_append, List.length_set, List.length_replicate]; done) | (simp [List.length_nil, List.length_cons, List.length_append, List.length_set, List.length_replicate]; omega))) up_none ?_
  refine q_assign (.int .i64 (((1 : Nat) : Int) + x2_0)) rfl up_none ?_
  refine lw_nil ?_
  refine wp_seq ?_
  refine wp_plain _ [3, 0] rfl ?_
  have hgl := hs2.lt
  refine r_nil (owL rI 2) o1 u22 ti29 up_none ?_
  intro v3 w3 hX3 hz3 hO3
  have hzs3 : w2.heap.size ≤ w3.heap.size := hX3.size
  have hE3 : Ext w w3 := hE2.trans hX3
  have hs2x3 := hs2.ext hX3
  refine q_assign v3 rfl up_none ?_
  refine lw_nil ?_
  refine wp_seq ?_
  refine wp_seq ?_
  refine wp_plain _ [0] rfl ?_
  refine q_assign (.int .i64 ((0 : Nat) : Int)) rfl up_none ?_
  refine lw_nil ?_
  refine wp_block ?_
  obtain ⟨nn, hnn⟩ : ∃ nn : Nat, ((nn : Nat) : Int) = (((1 : Nat) : Int) + x2_0) := ⟨((((1 : Nat) : Int) + x2_0)).toNat, by omega⟩
  refine c_loop (S := Nat × Value × List (List Int) × Nat) (fun (⟨j, vo, xs, m⟩ : Nat × Value × List (List Int) × Nat) => ([(6, vo), (7, (.int .i64 ((j : Nat) : Int))), (4, (.pointer (some ⟨gB1, 0, none⟩))), (5, (.int .i64 (((1 : Nat) : Int) + x2_0)))] : List (Nat × Value))) (fun (⟨j, vo, xs, m⟩ : Nat × Value × List (List Int) × Nat) (W : World) => Ext w W ∧ Fr (owL (owL rI 2) 29) w2.heap.size W.heap.size W.heap vo xs ∧ Src W.heap gB1 vc cs m ∧ j ≤ nn ∧ m ≤ 2 + 40 * j ∧ (xs.length = j ∧ (∀ r, r < j → (xs.getD r []).length = nn) ∧ ∀ r, allN (xs.getD r []) = true) ∧ w2.heap.size ≤ W.heap.size) (fun (⟨j, vo, xs, m⟩ : Nat × Value × List (List Int) × Nat) => 5 - j) (0, v3, [], n2) ⟨rfl, rfl, rfl, rfl, trivial⟩ ⟨hE3, hO3.up o2, hs2x3, (by omega), (by omega), (by exact ⟨rfl, fun r h => by omega, fun r => rfl⟩), (by omega)⟩ ?_
  clear hE0 hX1 hzs1 hE1 hC2 hO3 hz3 hX3 hzs3 hE3
  rintro ⟨j, vo, xs, m⟩ ρ4 w4 ⟨hE4, hL4_0, hL4_1, hp4_0, hp4_1, hxs, hkB5⟩
  have hzs4 : w.heap.size ≤ w4.heap.size := hE4.size
  refine wp_seq ?_
  refine wp_seq ?_
  refine wp_plain _ [0, 0, 0] rfl ?_
  refine q_move (.int .i64 ((j : Nat) : Int)) rfl up_none ?_
  refine q_move (.int .i64 (((1 : Nat) : Int) + x2_0)) rfl up_none ?_
  by_cases hc6 : ((j : Nat) : Int) < ((1 : Nat) : Int) + x2_0
  ·
    refine q_lss true rfl rfl (decide_eq_true hc6) up_none ?_
    refine lw_nil ?_
    refine c_cond_t rfl ?_
    refine wp_skip ?_
    refine wp_seq ?_
    refine wp_block ?_
    refine wp_plain _ [0, 0, 0, 4, 3, 4, 0] rfl ?_
    refine q_move vo rfl up_none ?_
    refine q_move (.pointer (some ⟨gB1, 0, none⟩)) rfl up_none ?_
    refine q_move (.int .i64 (((1 : Nat) : Int) + x2_0)) rfl up_none ?_
    refine lw_callE 79 [] [] [(.pointer (some ⟨gB1, 0, none⟩)), (.int .i64 (((1 : Nat) : Int) + x2_0))] rfl rfl cf79 up_none (c_spec_l01Draw _ gB1 _ _ _ _ hL4_1 (by omega) (by omega) (by omega)) ?_
    rintro e7 w7 ⟨v7_0, x7_0, n7, rfl, hC7, hs7, hb7, hO7_0, hp7_0⟩
    refine ⟨_, rfl, ?_⟩
    have hzs7 : w4.heap.size ≤ w7.heap.size := hC7.size
    have hE7 : Ext w w7 := hC7.below hE4 (fun b hb => by have : b = gB1 := (by simpa using hb); omega) hE4.size
    have hF8 := hL4_0.chg (o2) hC7 (fun b hb => by have : b = gB1 := (by simpa using hb); omega)
    refine r_one (u := v7_0) (B := w4.heap.size) o1 u22 ti29 rfl rfl hO7_0 (by first | exact Nat.le_refl _ | omega) up_none ?_
    intro v9 w9 hX9 hz9 hO9
    have hzs9 : w7.heap.size ≤ w9.heap.size := hX9.size
    have hE9 : Ext w w9 := hE7.trans hX9
    have hF8x9 := hF8.ext (o2) hX9
    have hs7x9 := hs7.ext hX9
    refine e_appF o1 (v := vo) (a := v9) u22 ti29 rfl rfl rfl hF8x9 (by omega) hO9 (by omega) (by omega) (by first | omega | assumption | (simp only [List.length_nil, List.length_cons, List.length_append, List.length_set, List.length_replicate]; omega) | (simp [List.length_nil, List.length_cons, List.length_append, List.length_set, List.length_replicate]; done) | (simp [List.length_nil, List.length_cons, List.length_append, List.length_set, List.length_replicate]; omega)) (by unfold maxLen; first | omega | assumption | (simp only [List.length_nil, List.length_cons, List.length_append, List.length_set, List.length_replicate]; omega) | (simp [List.length_nil, List.length_cons, List.length_append, List.length_set, List.length_replicate]; done) | (simp [List.length_nil, List.length_cons, List.length_append, List.length_set, List.length_replicate]; omega)) up_none ?_
    intro v10 w10 F10 hC10 hF10 hO10
    have hE10 : Ext w w10 := hC10.below hE9 (fun c hc => Nat.le_trans hE2.size (hF10 c hc).1) hE9.size
    have hzs10 : w9.heap.size ≤ w10.heap.size := hC10.size
    have hF11 := hs7x9.chg hC10 (fun c hc => by have := hF10 c hc; omega)
    refine q_assign v10 rfl up_none ?_
    refine lw_nil ?_
    refine wp_plain _ [0, 0, 0] rfl ?_
    refine q_move (.int .i64 ((j : Nat) : Int)) rfl up_none ?_
    refine q_add ((j + 1 : Nat) : Int) rfl rfl (w64n (by omega) (by omega)) up_none ?_
    refine q_assign (.int .i64 ((j + 1 : Nat) : Int)) rfl up_none ?_
    refine lw_nil ?_
    exact ⟨((j + 1), v10, (xs ++ [x7_0]), n7), _, rfl, ⟨rfl, rfl, rfl, rfl, trivial⟩, ⟨hE10, hO10.up o2, hF11, (by omega), (by omega), (by exact sq_snoc hxs (by omega) (by simp_all)), (by omega)⟩, by first | omega | (dsimp only; omega)⟩
  ·
    refine q_lss false rfl rfl (decide_eq_false hc6) up_none ?_
    refine lw_nil ?_
    refine c_cond_f rfl ?_
    refine wp_exit ?_
    refine t_exit ?_
    refine t_exit ?_
    refine c_exit_here ?_
    refine wp_seq ?_
    refine wp_seq ?_
    refine wp_plain _ [0, 4] rfl ?_
    refine q_move (.pointer (some ⟨gB1, 0, none⟩)) rfl up_none ?_
    refine lw_callE 80 [] [] [(.pointer (some ⟨gB1, 0, none⟩)), (.int .i64 ((5 : Nat) : Int))] rfl rfl cf80 up_none (c_spec_l00Src_one _ gB1 _ _ _ _ hL4_1 (by omega) (by omega) (by omega)) ?_
    rintro e12 w12 ⟨x12_0, n12, rfl, hC12, hs12, hb12, hp12_0⟩
    refine ⟨_, rfl, ?_⟩
    have hzs12 : w4.heap.size ≤ w12.heap.size := hC12.size
    have hE12 : Ext w w12 := hC12.below hE4 (fun b hb => by have : b = gB1 := (by simpa using hb); omega) hE4.size
    have hF13 := hL4_0.chg (o2) hC12 (fun b hb => by have : b = gB1 := (by simpa using hb); omega)
    refine lw_nil ?_
    cases hb14 : x12_0
    ·
      refine c_cond_f (by first | rfl | (show Value.bool _ = _; rw [hb14])) ?_
      refine wp_skip ?_
      refine wp_seq ?_
      refine wp_plain _ [0, 0, 0, 4, 0, 0] rfl ?_
      refine q_move vo rfl up_none ?_
      refine q_move (.pointer (some ⟨gB1, 0, none⟩)) rfl up_none ?_
      refine q_move (.int .i64 (((1 : Nat) : Int) + x2_0)) rfl up_none ?_
      refine lw_callE 79 [] [] [(.pointer (some ⟨gB1, 0, none⟩)), (.int .i64 (((1 : Nat) : Int) + x2_0))] rfl rfl cf79 up_none (c_spec_l01Draw _ gB1 _ _ _ _ hs12 (by omega) (by omega) (by omega)) ?_
      rintro e15 w15 ⟨v15_0, x15_0, n15, rfl, hC15, hs15, hb15, hO15_0, hp15_0⟩
      refine ⟨_, rfl, ?_⟩
      have hzs15 : w12.heap.size ≤ w15.heap.size := hC15.size
      have hE15 : Ext w w15 := hC15.below hE12 (fun b hb => by have : b = gB1 := (by simpa using hb); omega) hE12.size
      have hF16 := hF13.chg (o2) hC15 (fun b hb => by have : b = gB1 := (by simpa using hb); omega)
      refine q_assign vo rfl up_none ?_
      refine q_assign v15_0 rfl up_none ?_
      refine lw_nil ?_
      refine wp_ret ?_
      exact post_ret [2, 3] rfl (.tuple #[vo, v15_0]) rfl ⟨vo, v15_0, xs, x15_0, rfl, hE15, (hF16.up o2).low hE2.size, (hO15_0.up o1).low hE12.size, (by exact ⟨by omega, by omega, sq_mk hxs (by omega)⟩), (by refine ⟨by omega, ?_⟩; simp_all)⟩
    ·
      refine c_cond_t (by first | rfl | (show Value.bool _ = _; rw [hb14])) ?_
      refine wp_plain _ [0, 0, 0, 4, 0, 0, 0, 4, 0, 2, 3, 0, 4] rfl ?_
      refine q_move vo rfl up_none ?_
      refine q_move (.pointer (some ⟨gB1, 0, none⟩)) rfl up_none ?_
      refine q_move (.int .i64 (((1 : Nat) : Int) + x2_0)) rfl up_none ?_
      refine lw_callE 78 [] [] [(.pointer (some ⟨gB1, 0, none⟩)), (.int .i64 (((1 : Nat) : Int) + x2_0))] rfl rfl cf78 up_none (c_spec_l00Src_pick _ gB1 _ _ _ _ hs12 (by omega) (by omega) (by omega)) ?_
      rintro e17 w17 ⟨x17_0, n17, rfl, hC17, hs17, hb17, hp17_0⟩
      refine ⟨_, rfl, ?_⟩
      have hzs17 : w12.heap.size ≤ w17.heap.size := hC17.size
      have hE17 : Ext w w17 := hC17.below hE12 (fun b hb => by have : b = gB1 := (by simpa using hb); omega) hE12.size
      have hF18 := hF13.chg (o2) hC17 (fun b hb => by have : b = gB1 := (by simpa using hb); omega)
      refine q_move vo rfl up_none ?_
      refine q_move (.pointer (some ⟨gB1, 0, none⟩)) rfl up_none ?_
      refine q_move (.int .i64 (((1 : Nat) : Int) + x2_0)) rfl up_none ?_
      refine lw_callE 78 [] [] [(.pointer (some ⟨gB1, 0, none⟩)), (.int .i64 (((1 : Nat) : Int) + x2_0))] rfl rfl cf78 up_none (c_spec_l00Src_pick _ gB1 _ _ _ _ hs17 (by omega) (by omega) (by omega)) ?_
      rintro e19 w19 ⟨x19_0, n19, rfl, hC19, hs19, hb19, hp19_0⟩
      refine ⟨_, rfl, ?_⟩
      have hzs19 : w17.heap.size ≤ w19.heap.size := hC19.size
      have hE19 : Ext w w19 := hC19.below hE17 (fun b hb => by have : b = gB1 := (by simpa using hb); omega) hE17.size
      have hF20 := hF18.chg (o2) hC19 (fun b hb => by have : b = gB1 := (by simpa using hb); omega)
      refine q_idx (v := vo) ((x19_0).toNat) u22 ti29 rfl rfl hF20.isSl (by omega) (by first | omega | assumption | (simp only [List.length_nil, List.length_cons, List.length_append, List.length_set, List.length_replicate]; omega) | (simp [List.length_nil, List.length_cons, List.length_append, List.length_set, List.length_replicate]; done) | (simp [List.length_nil, List.length_cons, List.length_append, List.length_set, List.length_replicate]; omega)) up_none ?_
      obtain ⟨ue21, hl21, hd21⟩ := hF20.rd2.get (k := (x19_0).toNat) [] (by first | omega | assumption | (simp only [List.length_nil, List.length_cons, List.length_append, List.length_set, List.length_replicate]; omega) | (simp [List.length_nil, List.length_cons, List.length_append, List.length_set, List.length_replicate]; done) | (simp [List.length_nil, List.length_cons, List.length_append, List.length_set, List.length_replicate]; omega))
      have hln21 := hd21.lenle
      refine q_load (p := eptr vo ((x19_0).toNat) 1) (.inr rfl) ue21 one29 rfl hl21 up_none ?_
      refine lw_call 59 [] [] [ue21, (.int .i64 ((3 : Nat) : Int))] rfl rfl cf59 up_none (c_spec_l01Scale _ _ _ _ hd21 (by omega) (by rw [hxs.2.1 _ (by omega)]; omega)) ?_
      rintro e22 w22 ⟨v22_0, rfl, hX22, hO22_0⟩
      refine ⟨_, rfl, hX22, ?_⟩
      have hzs22 : w19.heap.size ≤ w22.heap.size := hX22.size
      have hE22 : Ext w w22 := hE19.trans hX22
      have hF20x22 := hF20.ext (o2) hX22
      have hs19x22 := hs19.ext hX22
      have hd21x22 := hd21.ext g1 hX22
      have hlx23 := ldH_ext hX22 hl21
      refine q_idx (v := vo) ((x17_0).toNat) u22 ti29 rfl rfl hF20x22.isSl (by omega) (by first | omega | assumption | (simp only [List.length_nil, List.length_cons, List.length_append, List.length_set, List.length_replicate]; omega) | (simp [List.length_nil, List.length_cons, List.length_append, List.length_set, List.length_replicate]; done) | (simp [List.length_nil, List.length_cons, List.length_append, List.length_set, List.length_replicate]; omega)) up_none ?_
      refine e_setF o1 (v := vo) (u := v22_0) (w := w22) sz29 rfl rfl hF20x22 hO22_0 (by omega) (by omega) (by first | omega | assumption | (simp only [List.length_nil, List.length_cons, List.length_append, List.length_set, List.length_replicate]; omega) | (simp [List.length_nil, List.length_cons, List.length_append, List.length_set, List.length_replicate]; done) | (simp [List.length_nil, List.length_cons, List.length_append, List.length_set, List.length_replicate]; omega)) up_none ?_
      intro w24 F24 hC24 hz24 hF24 hO24
      have hE24 : Ext w w24 := hC24.below hE22 (fun c hc => Nat.le_trans hE2.size (hF24 c hc).1) hE22.size
      have hzs24 : w22.heap.size ≤ w24.heap.size := hC24.size
      have hF25 := hs19x22.chg hC24 (fun c hc => by have := hF24 c hc; omega)
      refine lw_nil ?_
      refine wp_seq ?_
      refine wp_plain _ [0, 0, 0, 4, 0, 0] rfl ?_
      refine q_move vo rfl up_none ?_
      refine q_move (.pointer (some ⟨gB1, 0, none⟩)) rfl up_none ?_
      refine q_move (.int .i64 (((1 : Nat) : Int) + x2_0)) rfl up_none ?_
      refine lw_callE 79 [] [] [(.pointer (some ⟨gB1, 0, none⟩)), (.int .i64 (((1 : Nat) : Int) + x2_0))] rfl rfl cf79 up_none (c_spec_l01Draw _ gB1 _ _ _ _ hF25 (by omega) (by omega) (by omega)) ?_
      rintro e26 w26 ⟨v26_0, x26_0, n26, rfl, hC26, hs26, hb26, hO26_0, hp26_0⟩
      refine ⟨_, rfl, ?_⟩
      have hzs26 : w24.heap.size ≤ w26.heap.size := hC26.size
      have hE26 : Ext w w26 := hC26.below hE24 (fun b hb => by have : b = gB1 := (by simpa using hb); omega) hE24.size
      have hF27 := hO24.chg (o2) hC26 (fun b hb => by have : b = gB1 := (by simpa using hb); omega)
      refine q_assign vo rfl up_none ?_
      refine q_assign v26_0 rfl up_none ?_
      refine lw_nil ?_
      refine wp_ret ?_
      exact post_ret [2, 3] rfl (.tuple #[vo, v26_0]) rfl ⟨vo, v26_0, xs.set ((x17_0).toNat) (scl (xs.getD ((x19_0).toNat) []) ((3 : Nat) : Int)), x26_0, rfl, hE26, (hF27.up o2).low hE2.size, (hO26_0.up o1).low hE24.size, (by have hsq := sq_mk hxs (by omega); rw [List.length_set]; exact ⟨by omega, by omega, Sq.set hsq (by omega) (by rw [scl_len]; rw [hxs.2.1 _ (by omega)]; omega) (scl_num _ _)⟩), (by refine ⟨by rw [List.length_set]; omega, ?_⟩; simp_all)⟩
end Go.Proofs.Ytjgnlnlngcjfcaa
