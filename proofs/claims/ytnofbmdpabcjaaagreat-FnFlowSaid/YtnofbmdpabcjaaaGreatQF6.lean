/- Xd, Xe: texts of this claim, joined; what the claim does not come to is left out. -/
import Derived.Test.YtnofbmdpabcjaaaGreatQF5
import Derived.Test.YtnofbmdpabcjaaaGreatProg
set_option linter.unusedVariables false
set_option linter.unusedSimpArgs false
namespace Go.Proofs.YtnofbmdpabcjaaaGreat
open Go Go.RowKit
set_option linter.unusedVariables false
set_option linter.unusedSimpArgs false
set_option maxHeartbeats 4000000
set_option maxRecDepth 100000
attribute [local irreducible] LW
theorem leq_doneR {a b : List (List Int)} {k : Nat} (h : ∀ j, j < k → a.getD j [] = b.getD j []) (h1 : a.length = k) (h2 : b.length = k) : a = b := extR (by omega) fun j hj => h j (by omega)
theorem leq_failR {a b : List (List Int)} {k : Nat} (h : ¬ a.getD k [] = b.getD k []) : ¬ a = b := fun e => h (by rw [e])
theorem dec_f {p : Prop} [Decidable p] (h : (!decide p) = true) : ¬ p := by simpa using h
theorem dec_n {p : Prop} [Decidable p] (h : (!decide p) = false) : p := by simpa using h
theorem c_laws_a2SameRows (w : World) (va : Value) (a : List (List Int)) (vb : Value) (b : List (List Int)) (ha : Rd (rdL (rdL rI)) w.heap va a) (hb : Rd (rdL (rdL rI)) w.heap vb b)  :
    Calls Tryz.prog 38 #[va, vb] w (fun e w' => e = .returned (.bool (decide (a = b))) ∧ Ext w w') := by
  refine calls_mk [va, vb] 27 Tryz.func38 rfl rfl sM ?_
  have hE0 : Ext w w := Ext.refl w
  have hl_va := ha.lenle
  have hl_vb := hb.lenle
  refine wp_seq (wp_plain _ [0] rfl (lw_tvn 1 rfl (wp_seq (wp_seq (wp_plain _ [0, 0, 0, 0, 0] rfl (lw_tv 1 rfl (q_len (v := va) u27 rfl ha.isSl zN (lw_tv 1 rfl (q_len (v := vb) u27 rfl hb.isSl zN ?_)))))))))
  by_cases hc1 : ((a.length : Nat) : Int) ≠ ((b.length : Nat) : Int)
  ·
    exact q_neq true rfl rfl (decide_eq_true hc1) zN (lw_nil (c_cond_t rfl (wp_seq (wp_plain _ [0] rfl (lw_tvn 1 rfl (wp_ret (t_ret (post_ret [4] rfl (.bool false) rfl ⟨(ret_bool (decide_eq_false (fun e => by have := congrArg List.length e; omega)).symm), hE0⟩))))))))
  ·
    refine q_neq false rfl rfl (decide_eq_false hc1) zN (lw_nil (c_cond_f rfl (wp_skip (wp_seq (wp_seq (wp_plain _ [0] rfl (lw_tvn 1 rfl (wp_block (c_loop (S := Nat) (fun (k : Nat) => ([(5, (.int .i64 ((k : Nat) : Int))), (0, va), (1, vb)] : List (Nat × Value))) (fun (k : Nat) (W : World) => Ext w W ∧ k ≤ a.length ∧ (∀ j, j < k → a.getD j [] = b.getD j [])) (fun (k : Nat) => a.length - k) 0 ⟨rfl, rfl, rfl, trivial⟩ ⟨hE0, sD, (by intro j hj; omega)⟩ ?_)))))))))
    clear hE0
    rintro k ρ2 w2 ⟨hE2, hp2_0, hq⟩
    have hzs2 : w.heap.size ≤ w2.heap.size := hE2.size
    refine wp_seq (wp_seq (wp_plain _ [0, 0, 0, 0] rfl (lw_tv 2 rfl (q_len (v := va) u27 rfl ha.isSl zN ?_))))
    by_cases hc3 : ((k : Nat) : Int) < ((a.length : Nat) : Int)
    ·
      refine q_lss true rfl rfl (decide_eq_true hc3) zN (lw_nil (c_cond_t rfl (wp_skip (wp_seq (wp_block (wp_seq (wp_draw _ [0, 0, 0, 1, 0, 0, 0, 1, 3, 0] mixed (by kernel_rfl) (lw_tv 2 rfl (q_idx (v := va) k u27 ti25 rfl rfl ha.isSl rfl sD zN ?_)))))))))
      obtain ⟨ue4, hl4, hd4⟩ := ha.get (k := k) [] sD
      have hln4 := hd4.lenle
      refine q_load (p := eptr va k 1) (.inl rfl) ue4 one25 rfl (ldH_ext hE2.drew hl4) zN (lw_tv 2 rfl (q_idx (v := vb) k u27 ti25 rfl rfl hb.isSl rfl sD zN ?_))
      obtain ⟨ue5, hl5, hd5⟩ := hb.get (k := k) [] sD
      have hln5 := hd5.lenle
      refine q_load (p := eptr vb k 1) (.inl rfl) ue5 one25 rfl (ldH_ext hE2.drew hl5) zN (lw_call 36 [] [] [ue4, ue5] rfl rfl cf36 zN (c_laws_a2Same _ _ _ _ _ (hd4.ext g1 hE2.drew) (hd5.ext g1 hE2.drew)) ?_)
      rintro e6 w6 ⟨rfl, hX6⟩
      refine ⟨_, rfl, hX6, ?_⟩
      replace hX6 := hX6.of_drew
      have hzs6 : w2.heap.size ≤ w6.heap.size := hX6.size
      have hE6 : Ext w w6 := hE2.trans hX6
      refine q_not (!(decide ((a.getD k []) = (b.getD k [])))) rfl rfl zN (lw_nil ?_)
      cases hb7 : (!(decide ((a.getD k []) = (b.getD k []))))
      ·
        refine c_cond_f (by first | rfl | (show Value.bool _ = _; rw [hb7])) (wp_skip (wp_plain _ [0, 0, 0] rfl (lw_tv 1 rfl (q_add ((k + 1 : Nat) : Int) rfl rfl (w64n oM sD) zN (lw_tvn 1 rfl ?_)))))
        exact ⟨(k + 1), _, rfl, ⟨rfl, rfl, rfl, trivial⟩, ⟨hE6, sD, (by intro j hj; by_cases e : j = k; (subst e; exact dec_n (by assumption)); exact hq j oM)⟩, by first | omega | (dsimp only; omega)⟩
      ·
        exact c_cond_t (by first | rfl | (show Value.bool _ = _; rw [hb7])) (wp_seq (wp_plain _ [0] rfl (lw_tvn 1 rfl (wp_ret (b_ret (t_ret (t_ret (b_ret (t_ret (post_ret [4] rfl (.bool false) rfl ⟨(ret_bool (decide_eq_false (leq_failR (k := k) (dec_f (by assumption)))).symm), hE6⟩))))))))))
    ·
      exact q_lss false rfl rfl (decide_eq_false hc3) zN (lw_nil (c_cond_f rfl (wp_exit (t_exit (t_exit (c_exit_here (wp_seq (wp_plain _ [0] rfl (lw_tvn 1 rfl (wp_ret (post_ret [4] rfl (.bool true) rfl ⟨(ret_bool (decide_eq_true (leq_doneR hq oM oM)).symm), hE2⟩)))))))))))
def frB (a b : List Int) (n : Int) : Bool := (decide (n ≤ ((a.length : Nat) : Int)) && decide (n ≤ ((b.length : Nat) : Int))) && decide (a.take n.toNat = b.take n.toNat)
theorem z40_0 {p : Prop} (h : p := by unfold frB; first | (rw [decide_eq_true (show n ≤ ((a.length : Nat) : Int) by omega), decide_eq_true (show n ≤ ((b.length : Nat) : Int) by omega)]; rfl) | (rw [decide_eq_false (show ¬ n ≤ ((a.length : Nat) : Int) by omega)]; rfl) | (rw [decide_eq_false (show ¬ n ≤ ((b.length : Nat) : Int) by omega), Bool.and_false]; rfl)) : p := h
theorem c_laws_a2Front (w : World) (va : Value) (a : List Int) (Ba Ua : Nat) (vb : Value) (b : List Int) (Bb Ub : Nat) (n : Int) (ha : Fr (owL rI 2) Ba Ua w.heap va a) (hUa : Ua ≤ w.heap.size) (hb : Fr (owL rI 2) Bb Ub w.heap vb b) (hUb : Ub ≤ w.heap.size) (_hn : -9223372036854775808 ≤ n ∧ n ≤ 9223372036854775807) (hn0 : 0 ≤ n) :
    Calls Tryz.prog 40 #[va, vb, .int .i64 n] w (fun e w' => e = .returned (.bool (frB a b n)) ∧ Ext w w') := by
  refine calls_mk [va, vb, .int .i64 n] 24 Tryz.func40 rfl rfl sM ?_
  have hE0 : Ext w w := Ext.refl w
  refine wp_seq (wp_plain _ [0] rfl (lw_tvn 1 rfl (wp_seq (wp_seq (wp_plain _ [0, 0, 0, 0, 0, 0, 0, 0, 0, 0] rfl (lw_tv 1 rfl (q_len (v := va) u25 rfl ha.isSl zN (lw_tv 1 rfl ?_))))))))
  by_cases hc1 : ((a.length : Nat) : Int) < n
  ·
    exact q_lss true rfl rfl (decide_eq_true hc1) zN (lw_tvn 6 rfl (c_cond_t rfl (wp_seq (wp_plain _ [0] rfl (lw_tvn 1 rfl (wp_ret (t_ret (post_ret [6] rfl (.bool false) rfl ⟨(ret_bool z40_0), hE0⟩))))))))
  ·
    refine q_lss false rfl rfl (decide_eq_false hc1) zN (lw_tv 2 rfl (q_len (v := vb) u25 rfl hb.isSl (zS (e := 11) rfl rfl rfl) (lw_tv 1 rfl ?_)))
    by_cases hc2 : ((b.length : Nat) : Int) < n
    ·
      exact q_lss true rfl rfl (decide_eq_true hc2) (zS (e := 11) rfl rfl rfl) (lw_tvn 1 rfl (c_cond_t rfl (wp_seq (wp_plain _ [0] rfl (lw_tvn 1 rfl (wp_ret (t_ret (post_ret [6] rfl (.bool false) rfl ⟨(ret_bool z40_0), hE0⟩))))))))
    ·
      refine q_lss false rfl rfl (decide_eq_false hc2) (zS (e := 11) rfl rfl rfl) (lw_tvn 1 rfl (c_cond_f rfl (wp_skip (wp_seq (wp_draw _ [0, 0, 0, 0, 0, 0, 3, 0] mixed (by kernel_rfl) (lw_tv 2 rfl ?_))))))
      have hlt3 : (n).toNat ≤ a.length := oM
      have hpf3 := Rd.pref (k := (n).toNat) ha.rd1 hlt3
      refine q_pref (v := va) (k := (n).toNat) u25 ti2 rfl ha.isSl ha.cap (i64_nn oM) hlt3 zN (lw_tv 2 rfl ?_)
      have hlt4 : (n).toNat ≤ b.length := oM
      have hpf4 := Rd.pref (k := (n).toNat) hb.rd1 hlt4
      refine q_pref (v := vb) (k := (n).toNat) u25 ti2 rfl hb.isSl hb.cap (i64_nn oM) hlt4 zN (lw_call 36 [] [] [(prefV va ((n).toNat)), (prefV vb ((n).toNat))] rfl rfl cf36 zN (c_laws_a2Same _ _ _ _ _ hpf3 hpf4) ?_)
      rintro e5 w5 ⟨rfl, hX5⟩
      refine ⟨_, rfl, hX5, ?_⟩
      replace hX5 := hX5.of_drew
      have hzs5 : w.heap.size ≤ w5.heap.size := hX5.size
      have hE5 : Ext w w5 := hE0.trans hX5
      have hax5 := ha.ext (o1) hX5
      have hbx5 := hb.ext (o1) hX5
      have hpf3x5 := hpf3.ext g1 hX5
      have hpf4x5 := hpf4.ext g1 hX5
      exact lw_tvn 1 rfl (wp_ret (post_ret [6] rfl (.bool (decide ((a.take ((n).toNat)) = (b.take ((n).toNat))))) rfl ⟨(ret_bool z40_0), hE5⟩))
theorem z39_0 {p : Prop} (h : p := by unfold maxLen; first | omega | assumption | (simp only [List.length_nil, List.length_cons, List.length_append, List.length_set, List.length_replicate]; omega) | (simp [List.length_nil, List.length_cons, List.length_append, List.length_set, List.length_replicate]; done) | (simp [List.length_nil, List.length_cons, List.length_append, List.length_set, List.length_replicate]; omega)) : p := h
theorem c_spec_A2Guess (w : World) (vc : Value) (cs : List UInt8) (vr : Value) (y : List (List Int)) (m : Int) (hcs : Rd (rdL rU) w.heap vc cs) (hy : Rd (rdL (rdL rI)) w.heap vr y) (_hm : -9223372036854775808 ≤ m ∧ m ≤ 9223372036854775807) (hyl : y.length ≤ 1000) (hyr : ∀ k, (y.getD k []).length ≤ 1000) (hyn : ∀ k, allN (y.getD k []) = true) :
    Calls Tryz.prog 39 #[vc, vr, .int .i64 m] w (fun e w' => ∃ v0 : Value, ∃ (x0 : List (List Int)), e = .returned (v0) ∧ Ext w w' ∧ Fr (owL (owL rI 2) 25) w.heap.size w'.heap.size w'.heap v0 x0 ∧ (GuB y m x0)) := by
  refine calls_mk [vc, vr, .int .i64 m] 54 Tryz.func39 rfl rfl sM ?_
  have hE0 : Ext w w := Ext.refl w
  have hl_vc := hcs.lenle
  have hl_vr := hy.lenle
  refine wp_seq (wp_plain _ [0] rfl (lw_tvn 1 rfl (wp_seq (wp_plain _ [0, 3, 0] rfl (lw_tv 1 rfl (lw_call 70 [] [] [vc] rfl rfl cf70 zN (c_spec_l00From _ _ _ (hcs.ext good_u hE0)) ?_))))))
  rintro e1 w1 ⟨gB1, rfl, hX1, hs1, hg1⟩
  refine ⟨_, rfl, hX1, ?_⟩
  have hzs1 : w.heap.size ≤ w1.heap.size := hX1.size
  have hE1 : Ext w w1 := hE0.trans hX1
  refine lw_tvn 1 rfl (wp_seq (wp_plain _ [3, 0] rfl ?_))
  have hgl := hs1.lt
  refine r_nil (owL rI 2) o1 u27 ti25 zN fun v2 w2 hX2 hz2 hO2 => ?_
  have hzs2 : w1.heap.size ≤ w2.heap.size := hX2.size
  have hE2 : Ext w w2 := hE1.trans hX2
  have hs1x2 := hs1.ext hX2
  refine lw_tvn 1 rfl (wp_seq (wp_seq (wp_plain _ [0] rfl (lw_tvn 1 rfl (wp_block (c_loop (S := Nat × Value × List (List Int) × Nat) (fun (⟨i, vo, ys, n⟩ : Nat × Value × List (List Int) × Nat) => ([(8, vo), (9, (.int .i64 ((i : Nat) : Int))), (1, vr), (2, (.int .i64 m)), (7, (.pointer (some ⟨gB1, 0, none⟩)))] : List (Nat × Value))) (fun (⟨i, vo, ys, n⟩ : Nat × Value × List (List Int) × Nat) (W : World) => Ext w W ∧ Fr (owL (owL rI 2) 25) w1.heap.size W.heap.size W.heap vo ys ∧ Src W.heap gB1 vc cs n ∧ i ≤ y.length ∧ n ≤ 8000 * i ∧ GuS y m ys i ∧ gB1 < w1.heap.size ∧ w1.heap.size ≤ W.heap.size) (fun (⟨i, vo, ys, n⟩ : Nat × Value × List (List Int) × Nat) => y.length - i) (0, v2, ([] : List (List Int)), 0) ⟨rfl, rfl, rfl, rfl, rfl, trivial⟩ ⟨hE2, hO2.up o2, hs1x2, oM, oM, (by exact GuS.nil _ _), oM, oM⟩ ?_))))))
  clear hE0 hX1 hO2 hz2 hX2 hzs2 hE2
  rintro ⟨i, vo, ys, n⟩ ρ3 w3 ⟨hE3, hL3_0, hL3_1, hp3_0, hni, hgs, hgw, hkB4⟩
  have hzs3 : w.heap.size ≤ w3.heap.size := hE3.size
  refine wp_seq (wp_seq (wp_plain _ [0, 0, 0, 0] rfl (lw_tv 2 rfl (q_len (v := vr) u27 rfl hy.isSl zN ?_))))
  by_cases hc5 : ((i : Nat) : Int) < ((y.length : Nat) : Int)
  ·
    refine q_lss true rfl rfl (decide_eq_true hc5) zN (lw_nil (c_cond_t rfl (wp_skip (wp_seq (wp_block (wp_seq (wp_plain _ [0, 0, 0, 0, 2, 0, 4, 0] rfl ?_)))))))
    have hyi := hyr i
    refine lw_tv 3 rfl (q_idx (v := vr) i u27 ti25 rfl rfl hy.isSl rfl sD zN ?_)
    obtain ⟨ue6, hl6, hd6⟩ := hy.get (k := i) [] sD
    have hln6 := hd6.lenle
    refine q_load (p := eptr vr i 1) (.inr rfl) ue6 one25 rfl (ldH_ext hE3 hl6) zN (q_len (v := ue6) u25 rfl hd6.isSl zN (lw_callE 75 [] [] [(.pointer (some ⟨gB1, 0, none⟩)), (.int .i64 (((y.getD i []).length : Nat) : Int))] rfl rfl cf75 zN (c_spec_l01Draw _ gB1 _ _ _ ((((y.getD i []).length : Nat) : Int)) hL3_1 oM oM oM) ?_))
    rintro e7 w7 ⟨v7_0, x7_0, n7, rfl, hC7, hs7, hb7, hO7_0, hp7_0⟩
    refine ⟨_, rfl, ?_⟩
    have hzs7 : w3.heap.size ≤ w7.heap.size := hC7.size
    have hE7 : Ext w w7 := hC7.below hE3 (fun c hc => by have := List.mem_singleton.1 hc; omega) hE3.size
    have hF8 := hL3_0.chg (o2) hC7 (fun c hc => by have := List.mem_singleton.1 hc; omega)
    have hdr := hp7_0
    refine lw_tvn 1 rfl (wp_seq (wp_seq (wp_plain _ [0] rfl (lw_tvn 1 rfl (wp_block ?_)))))
    refine c_loop (S := Nat × List Int) (fun (⟨k, xs⟩ : Nat × List Int) => ([(11, (.int .i64 ((k : Nat) : Int))), (1, vr), (2, (.int .i64 m)), (7, (.pointer (some ⟨gB1, 0, none⟩))), (8, vo), (9, (.int .i64 ((i : Nat) : Int))), (10, v7_0)] : List (Nat × Value))) (fun (⟨k, xs⟩ : Nat × List Int) (W : World) => Ext w W ∧ Fr (owL rI 2) w3.heap.size W.heap.size W.heap v7_0 xs ∧ Src W.heap gB1 vc cs n7 ∧ Fr (owL (owL rI 2) 25) w1.heap.size w3.heap.size W.heap vo ys ∧ k ≤ (y.getD i []).length ∧ GuK (y.getD i []) xs k ∧ (w3.heap.size ≤ w3.heap.size ∧ gB1 < w3.heap.size ∧ gB1 < w1.heap.size) ∧ w3.heap.size ≤ W.heap.size) (fun (⟨k, xs⟩ : Nat × List Int) => (y.getD i []).length - k) (0, x7_0) ⟨rfl, rfl, rfl, rfl, rfl, rfl, rfl, trivial⟩ ⟨hE7, hO7_0.up o1, hs7, hF8, oM, (by exact GuK.start oM hdr.2), oM, oM⟩ ?_
    clear hL3_1 hL3_0 hln6 hO7_0 hC7 hzs7 hE7 hF8
    rintro ⟨k, xs⟩ ρ9 w9 ⟨hE9, hL9_0, hL9_1, hL9_2, hp9_0, hgk, hub, hkB10⟩
    have hzs9 : w.heap.size ≤ w9.heap.size := hE9.size
    have hgl1 := hgk.1
    refine wp_seq (wp_seq (wp_plain _ [0, 0, 0, 0, 0, 0, 0, 0, 0] rfl (lw_tv 2 rfl (q_len (v := v7_0) u25 rfl hL9_0.isSl zN ?_))))
    by_cases hc11 : ((k : Nat) : Int) < ((xs.length : Nat) : Int)
    ·
      refine q_lss true rfl rfl (decide_eq_true hc11) zN (lw_tv 3 rfl ?_)
      by_cases hc12 : ((k : Nat) : Int) < m
      ·
        refine q_lss true rfl rfl (decide_eq_true hc12) (zS (e := 32) rfl rfl rfl) (lw_tvn 1 rfl (c_cond_t rfl (wp_skip (wp_seq (wp_block (wp_plain _ [0, 0, 0, 0, 0, 2, 0, 0, 2, 0, 4] rfl (lw_tv 4 rfl (q_idx (v := vr) i u27 ti25 rfl rfl hy.isSl rfl sD zN ?_))))))))
        obtain ⟨ue13, hl13, hd13⟩ := hy.get (k := i) [] sD
        have hln13 := hd13.lenle
        refine q_load (p := eptr vr i 1) (.inr rfl) ue13 one25 rfl (ldH_ext hE9 hl13) zN (lw_tv 1 rfl (q_idx (v := ue13) k u25 ti2 rfl rfl hd13.isSl rfl sD zN ?_))
        refine q_load (p := eptr ue13 k 1) (.inr rfl) (.int .i64 ((y.getD i []).getD k 0)) one2 rfl (ldH_ext hE9 (hd13.getI sD).1) zN ?_
        refine q_idx (v := v7_0) k u25 ti2 rfl rfl hL9_0.isSl rfl sD zN ?_
        refine e_setI (v := v7_0) (w := w9) sz2 rfl rfl (hd13.getI sD).2 hL9_0 sD zN fun w14 F14 hC14 hz14 hF14 hO14 => ?_
        have hE14 : Ext w w14 := hC14.below hE9 (fun c hc => Nat.le_trans hE3.size (hF14 c hc).1) hE9.size
        have hzs14 : w9.heap.size ≤ w14.heap.size := hC14.size
        have hF15 := hL9_1.chg hC14 (fun c hc => by have := hF14 c hc; omega)
        have hF16 := hL9_2.chg (o2) hC14 (fun c hc => by have := hF14 c hc; omega)
        exact lw_nil (wp_plain _ [0, 0, 0] rfl (lw_tv 1 rfl (q_add ((k + 1 : Nat) : Int) rfl rfl (w64n oM sD) zN (lw_tvn 1 rfl ⟨((k + 1), (xs.set k ((y.getD i []).getD k 0))), _, rfl, ⟨rfl, rfl, rfl, rfl, rfl, rfl, rfl, trivial⟩, ⟨hE14, hO14.up o1, hF15, hF16, oM, (by exact hgk.step (hyn i) oM), oM, oM⟩, by first | omega | (dsimp only; omega)⟩))))
      ·
        refine q_lss false rfl rfl (decide_eq_false hc12) (zS (e := 32) rfl rfl rfl) (lw_tvn 1 rfl (c_cond_f rfl (wp_exit (t_exit (t_exit (c_exit_here (wp_plain _ [0, 0, 3, 4, 0] rfl ?_)))))))
        have hgl2 := hgs.1
        refine lw_tv 2 rfl (r_one (u := v7_0) (B := w3.heap.size) o1 u27 ti25 rfl rfl hL9_0 (by first | exact Nat.le_refl _ | omega) zN fun v17 w17 hX17 hz17 hO17 => ?_)
        have hzs17 : w9.heap.size ≤ w17.heap.size := hX17.size
        have hE17 : Ext w w17 := hE9.trans hX17
        have hL9_1x17 := hL9_1.ext hX17
        have hL9_2x17 := hL9_2.ext (o2) hX17
        refine e_appF o1 (v := vo) (a := v17) u27 ti25 rfl rfl rfl hL9_2x17 oM hO17 oM oM sD z39_0 zN fun v18 w18 F18 hC18 hF18 hO18 => ?_
        have hE18 : Ext w w18 := hC18.below hE17 (fun c hc => Nat.le_trans hE1.size (hF18 c hc).1) hE17.size
        have hzs18 : w17.heap.size ≤ w18.heap.size := hC18.size
        have hF19 := hL9_1x17.chg hC18 (fun c hc => by have := hF18 c hc; omega)
        exact lw_tvn 1 rfl (wp_plain _ [0, 0, 0] rfl (lw_tv 1 rfl (q_add ((i + 1 : Nat) : Int) rfl rfl (w64n oM sD) zN (lw_tvn 1 rfl ⟨((i + 1), v18, (ys ++ [xs]), n7), _, rfl, ⟨rfl, rfl, rfl, rfl, rfl, trivial⟩, ⟨hE18, hO18.up o2, hF19, oM, oM, (by exact hgs.snoc (hgk.done oM)), oM, oM⟩, by first | omega | (dsimp only; omega)⟩))))
    ·
      refine q_lss false rfl rfl (decide_eq_false hc11) zN (lw_tvn 5 rfl (c_cond_f rfl (wp_exit (t_exit (t_exit (c_exit_here (wp_plain _ [0, 0, 3, 4, 0] rfl ?_)))))))
      have hgl2 := hgs.1
      refine lw_tv 2 rfl (r_one (u := v7_0) (B := w3.heap.size) o1 u27 ti25 rfl rfl hL9_0 (by first | exact Nat.le_refl _ | omega) zN fun v20 w20 hX20 hz20 hO20 => ?_)
      have hzs20 : w9.heap.size ≤ w20.heap.size := hX20.size
      have hE20 : Ext w w20 := hE9.trans hX20
      have hL9_1x20 := hL9_1.ext hX20
      have hL9_2x20 := hL9_2.ext (o2) hX20
      refine e_appF o1 (v := vo) (a := v20) u27 ti25 rfl rfl rfl hL9_2x20 oM hO20 oM oM sD z39_0 zN fun v21 w21 F21 hC21 hF21 hO21 => ?_
      have hE21 : Ext w w21 := hC21.below hE20 (fun c hc => Nat.le_trans hE1.size (hF21 c hc).1) hE20.size
      have hzs21 : w20.heap.size ≤ w21.heap.size := hC21.size
      have hF22 := hL9_1x20.chg hC21 (fun c hc => by have := hF21 c hc; omega)
      exact lw_tvn 1 rfl (wp_plain _ [0, 0, 0] rfl (lw_tv 1 rfl (q_add ((i + 1 : Nat) : Int) rfl rfl (w64n oM sD) zN (lw_tvn 1 rfl ⟨((i + 1), v21, (ys ++ [xs]), n7), _, rfl, ⟨rfl, rfl, rfl, rfl, rfl, trivial⟩, ⟨hE21, hO21.up o2, hF22, oM, oM, (by exact hgs.snoc (hgk.done oM)), oM, oM⟩, by first | omega | (dsimp only; omega)⟩))))
  ·
    exact q_lss false rfl rfl (decide_eq_false hc5) zN (lw_nil (c_cond_f rfl (wp_exit (t_exit (t_exit (c_exit_here (wp_seq (wp_plain _ [0, 0] rfl (lw_tvn 2 rfl (wp_ret (post_ret [6] rfl vo rfl ⟨vo, ys, rfl, hE3, (hL3_0.up o2).low hE1.size, (by exact hgs.done oM)⟩)))))))))))
end Go.Proofs.YtnofbmdpabcjaaaGreat
namespace Go.Proofs.YtnofbmdpabcjaaaGreat
open Go Go.RowKit
set_option linter.unusedVariables false
set_option linter.unusedSimpArgs false
set_option maxHeartbeats 4000000
set_option maxRecDepth 100000
attribute [local irreducible] LW
theorem wide_t {y : List (List Int)} {n m : Int} (h1 : ((y.length : Nat) : Int) = n) (h2 : ∀ k, k < y.length → (((y.getD k []).length : Nat) : Int) = m) : (decide (((y.length : Nat) : Int) = n) && y.all (fun r => decide (((r.length : Nat) : Int) = m))) = true := by
  rw [decide_eq_true h1, Bool.true_and, List.all_eq_true]
  intro r hr
  obtain ⟨k, hk, rfl⟩ := List.mem_iff_getElem.1 hr
  have := h2 k hk
  rw [gd_at hk] at this
  exact decide_eq_true this
theorem col_ext {y : List (List Int)} {a : List Int} {n : Nat} (hl : y.length = a.length) (h : ag 1 y (extS a (n + 1))) : y.map (fun r => r.getD 0 0) = a := by
  refine ext0 (by rw [List.length_map, hl]) fun i hi => ?_
  rw [List.length_map] at hi
  rw [map_getD (d := []) hi, h.2 i 0 (by omega), extS_at (by omega)]
  unfold cst
  rw [List.replicate_succ]; rfl
theorem ck_of {p : List Fn} {f : Int} {y : List (List Int)} {b : Bool} (hg : gvC p f y = 0) (hc : psC p f y = 0) (h : ckB (evR p (oOf y + 1) f.toNat y) y = b) : ckR p f y = b := by
  unfold ckR; rw [if_pos hc]; unfold alR; rw [if_pos hg]; exact h
theorem front_t {n : Nat} {m : Int} {y z : List (List Int)} {i : Nat} (hy : SrE n y) (hz : SrE n z) (h : ag (m.toNat + 1) y z) (hm : 0 ≤ m ∧ m + 1 ≤ ((n : Nat) : Int)) (hi : i < y.length) : frB (y.getD i []) (z.getD i []) (m + ((1 : Nat) : Int)) = true := by
  have h1 := (hy i hi).1; have h2 := (hz i (by rw [← h.1]; exact hi)).1
  have e : (m + ((1 : Nat) : Int)).toNat = m.toNat + 1 := by omega
  unfold frB
  rw [decide_eq_true (by omega), decide_eq_true (by omega), e]
  simp only [Bool.true_and]
  refine decide_eq_true (ext0 (by rw [List.length_take, List.length_take, h1, h2]) fun j hj => ?_)
  rw [List.length_take] at hj
  have tk : ∀ (l : List Int), (l.take (m.toNat + 1)).getD j 0 = l.getD j 0 := fun l => by rw [List.getD_eq_getElem?_getD, List.getElem?_take, if_pos (by omega), ← List.getD_eq_getElem?_getD]
  rw [tk, tk]
  exact h.2 i j (by omega)
theorem ne_same {b : Bool} {y z : List (List Int)} (h : b = decide (y = z)) : (!(b == decide (z = y))) = false := by
  rw [h]
  by_cases e : y = z
  · rw [decide_eq_true e, decide_eq_true e.symm]; rfl
  · rw [decide_eq_false e, decide_eq_false fun h => e h.symm]; rfl
theorem z8_0 {p : Prop} (h : p := by exact hFD.dr.szp) : p := h
theorem c_laws_FnFlow (w : World) (vc : Value) (cs : List UInt8) (vd : Value) (ds : List UInt8) (hcs : Rd (rdL rU) w.heap vc cs) (hds : Rd (rdL rU) w.heap vd ds)  :
    Calls Tryz.prog 8 #[vc, vd] w (fun e w' => e = .returned (.bool true) ∧ Ext w w') := by
  refine calls_mk [vc, vd] 165 Tryz.func8 rfl rfl sM ?_
  have hE0 : Ext w w := Ext.refl w
  have hl_vc := hcs.lenle
  have hl_vd := hds.lenle
  refine wp_seq (wp_plain _ [0] rfl (lw_tvn 1 rfl (wp_seq (wp_seq (wp_plain _ [0, 0, 3] rfl (lw_tv 2 rfl (lw_call 32 [] [] [vc, vd] rfl rfl cf32 zN (c_laws_a2Long _ _ _ _ _ (hcs.ext good_u hE0) (hds.ext good_u hE0)) ?_)))))))
  rintro e1 w1 ⟨rfl, hX1⟩
  refine ⟨_, rfl, hX1, ?_⟩
  have hzs1 : w.heap.size ≤ w1.heap.size := hX1.size
  have hE1 : Ext w w1 := hE0.trans hX1
  refine lw_nil ?_
  cases hb2 : (decide (((3000 : Nat) : Int) < ((cs.length : Nat) : Int)) || decide (((3000 : Nat) : Int) < ((ds.length : Nat) : Int)))
  ·
    refine c_cond_f (by first | rfl | (show Value.bool _ = _; rw [hb2])) (wp_skip (wp_seq (wp_plain _ [0, 3, 0, 0, 0, 0, 0, 0, 3, 4, 0, 0, 0, 0] rfl (lw_tv 1 rfl (lw_call 33 [] [] [vc] rfl rfl cf33 zN (c_spec_A2Field _ vc _ (hcs.ext good_u hE1)) ?_)))))
    rintro e3 w3 ⟨vD, vaD, vbD, vdD, pD, fD, aD, bD, dD, rfl, hX3, hOD, hAD, hBD, hDD, hFD⟩
    refine ⟨_, rfl, hX3, ?_⟩
    have hzs3 : w1.heap.size ≤ w3.heap.size := hX3.size
    have hE3 : Ext w w3 := hE1.trans hX3
    refine lw_tv 1 rfl (q_extract (vs := [(.agg #[vD]), (.int .i64 fD), vaD, vbD, vdD]) (.agg #[vD]) rfl rfl zN (q_extract (vs := [(.agg #[vD]), (.int .i64 fD), vaD, vbD, vdD]) (.int .i64 fD) rfl rfl zN (q_extract (vs := [(.agg #[vD]), (.int .i64 fD), vaD, vbD, vdD]) vaD rfl rfl zN (q_extract (vs := [(.agg #[vD]), (.int .i64 fD), vaD, vbD, vdD]) vbD rfl rfl zN (q_extract (vs := [(.agg #[vD]), (.int .i64 fD), vaD, vbD, vdD]) vdD rfl rfl zN (r_allocA (z := .agg #[.slice none 0 0]) zr32 zN fun w4 hX4 hz4 hB4 => ?_))))))
    have hzs4 : w3.heap.size ≤ w4.heap.size := hX4.size
    have hE4 : Ext w w4 := hE3.trans hX4
    have hODx4 := hOD.ext ((good_owS (good_oFn 94 6))) hX4
    have hADx4 := hAD.ext (o1) hX4
    have hBDx4 := hBD.ext (o1) hX4
    have hDDx4 := hDD.ext (o1) hX4
    replace hB4 : BX w4.heap w3.heap.size [(.slice none 0 0)] := hB4
    refine e_setA (vs := [vD]) agg32 rfl rfl (by intro u hu; simp only [List.mem_cons, List.not_mem_nil, or_false] at hu; rcases hu with rfl <;> first | exact ⟨rfl, rfl⟩ | exact isSl_one hODx4.isSlS) hB4 rfl rfl zN fun w5 hC5 hz5 hB5 => ?_
    replace hB5 : BX w5.heap w3.heap.size [vD] := hB5
    have hE5 : Ext w w5 := hC5.below hE4 (fun c hc => by have := List.mem_singleton.1 hc; omega) hE4.size
    have hzs5 : w4.heap.size ≤ w5.heap.size := hC5.size
    have hF6 := hODx4.chg ((good_owS (good_oFn 94 6))) hC5 (fun c hc => by have := List.mem_singleton.1 hc; omega)
    have hF7 := hADx4.chg (o1) hC5 (fun c hc => by have := List.mem_singleton.1 hc; omega)
    have hF8 := hBDx4.chg (o1) hC5 (fun c hc => by have := List.mem_singleton.1 hc; omega)
    have hF9 := hDDx4.chg (o1) hC5 (fun c hc => by have := List.mem_singleton.1 hc; omega)
    refine lw_tvn 4 rfl (wp_seq (wp_plain _ [0, 3, 0, 0] rfl (lw_tv 1 rfl (lw_call 34 [] [] [vd, (.int .i64 ((0 : Nat) : Int)), (.int .i64 ((8 : Nat) : Int))] rfl rfl cf34 zN (c_laws_a2At _ _ _ _ _ (hds.ext good_u hE5) oM oM oM) ?_))))
    rintro e10 w10 ⟨rfl, hX10⟩
    refine ⟨_, rfl, hX10, ?_⟩
    have hzs10 : w5.heap.size ≤ w10.heap.size := hX10.size
    have hE10 : Ext w w10 := hE5.trans hX10
    have hF6x10 := hF6.ext ((good_owS (good_oFn 94 6))) hX10
    have hF7x10 := hF7.ext (o1) hX10
    have hF8x10 := hF8.ext (o1) hX10
    have hF9x10 := hF9.ext (o1) hX10
    have hB5x10 := hB5.ext hX10
    have hfe := hFD.fe
    have hfl0 := hFD.len
    have ha8 := a2at_num ds ((0 : Nat) : Int) ((8 : Nat) : Int)
    refine q_add (((1 : Nat) : Int) + (a2at ds ((0 : Nat) : Int) ((8 : Nat) : Int))) rfl rfl (w64 sD sD) zN (lw_tvn 1 rfl (wp_seq ?_))
    refine wp_plain _ [2, 0, 0, 0, 3, 0, 0, 0, 0, 0] rfl ?_
    generalize hg_o : (((1 : Nat) : Int) + (a2at ds ((0 : Nat) : Int) ((8 : Nat) : Int))) = o
    have hob : 1 ≤ o ∧ o ≤ 8 := by have := a2at_num ds ((0 : Nat) : Int) ((8 : Nat) : Int); omega
    refine q_loadA (p := (.pointer (some ⟨w3.heap.size, 0, none⟩))) (.inr rfl) [vD] agg32 rfl (fun w9 hw9 => LD.of_box (BX.ext (w := w10) hB5x10 hw9)) rfl zN (lw_tv 3 rfl (lw_call 30 [] [] [(.agg #[vD]), (.int .i64 fD), vaD, (.int .i64 o)] rfl rfl cf30 zN (c_spec_FlowOf _ 6 vD (pD) _ _ _ _ (RN.of_frF hF6x10 (fun b hb => by cases hb)) oM hF7x10.rd1 oM z8_0) ?_))
    rintro e11 w11 ⟨v11_0, rfl, hX11, hO11_0⟩
    refine ⟨_, rfl, hX11, ?_⟩
    have hzs11 : w10.heap.size ≤ w11.heap.size := hX11.size
    have hE11 : Ext w w11 := hE10.trans hX11
    have hF6x11 := hF6x10.ext ((good_owS (good_oFn 94 6))) hX11
    have hF7x11 := hF7x10.ext (o1) hX11
    have hF8x11 := hF8x10.ext (o1) hX11
    have hF9x11 := hF9x10.ext (o1) hX11
    have hB5x11 := hB5x10.ext hX11
    refine lw_tv 1 rfl (q_extract (vs := [v11_0, (.int .i64 (foC pD fD aD o))]) v11_0 rfl rfl zN (q_extract (vs := [v11_0, (.int .i64 (foC pD fD aD o))]) (.int .i64 (foC pD fD aD o)) rfl rfl zN (lw_tvn 2 rfl (wp_seq (wp_plain _ [2, 0, 0, 0, 3, 0, 0, 0, 0, 0] rfl (q_loadA (p := (.pointer (some ⟨w3.heap.size, 0, none⟩))) (.inr rfl) [vD] agg32 rfl (fun w9 hw9 => LD.of_box (BX.ext (w := w11) hB5x11 hw9)) rfl zN (lw_tv 3 rfl (lw_call 31 [] [] [(.agg #[vD]), (.int .i64 fD), vaD, (.int .i64 o)] rfl rfl cf31 zN (c_impl_FlowOf _ 6 vD (pD) _ _ _ _ (RN.of_frF hF6x11 (fun b hb => by cases hb)) oM hF7x11.rd1 oM z8_0) ?_))))))))
    rintro e12 w12 ⟨v12_0, rfl, hX12, hO12_0, hP12_0⟩
    refine ⟨_, rfl, hX12, ?_⟩
    have hzs12 : w11.heap.size ≤ w12.heap.size := hX12.size
    have hE12 : Ext w w12 := hE11.trans hX12
    have hF6x12 := hF6x11.ext ((good_owS (good_oFn 94 6))) hX12
    have hF7x12 := hF7x11.ext (o1) hX12
    have hF8x12 := hF8x11.ext (o1) hX12
    have hF9x12 := hF9x11.ext (o1) hX12
    have hB5x12 := hB5x11.ext hX12
    have hO11_0x12 := hO11_0.ext (o2) hX12
    refine lw_tv 1 rfl (q_extract (vs := [v12_0, (.int .i64 (foC pD fD aD o))]) v12_0 rfl rfl zN (q_extract (vs := [v12_0, (.int .i64 (foC pD fD aD o))]) (.int .i64 (foC pD fD aD o)) rfl rfl zN (lw_tvn 2 rfl (wp_seq (wp_seq (wp_plain _ [0, 0, 0] rfl (lw_tv 2 rfl (q_neq false rfl rfl sM zN (lw_nil (c_cond_f rfl (wp_skip (wp_seq (wp_seq (wp_plain _ [0, 0] rfl (lw_tv 1 rfl ?_)))))))))))))))
    by_cases hc13 : foC pD fD aD o ≠ ((0 : Nat) : Int)
    ·
      exact q_neq true rfl rfl (decide_eq_true hc13) zN (lw_nil (c_cond_t rfl (wp_seq (wp_plain _ [0] rfl (lw_tvn 1 rfl (wp_ret (t_ret (post_ret [4] rfl (.bool true) rfl ⟨rfl, hE12⟩))))))))
    ·
      refine q_neq false rfl rfl (decide_eq_false hc13) zN (lw_nil (c_cond_f rfl (wp_skip (wp_seq (wp_seq (wp_plain _ [0, 0, 0, 0, 0, 3, 0, 0, 0, 3, 0, 3, 0, 0] rfl ?_))))))
      have hcz : foC pD fD aD o = 0 := by omega
      have ho12 : 0 ≤ o ∧ o ≤ 12 := by omega
      have hfl := hFD.fl ho12 hcz
      have hps := hFD.ps ho12 hcz hfl.2.1 hfl.1 hfl.2.2
      have hck : ckR pD fD (foR pD fD aD o) = true := ck_of hps.1 hps.2.1 (by rw [hps.2.2.2]; simp)
      have hy1 := hfl.1
      have hla3 := hFD.la
      have hla4 := hFD.par
      refine lw_tv 2 rfl (q_len (v := vaD) u25 rfl hF7x12.isSl zN (lw_tv 1 rfl ?_))
      refine q_add (o + ((1 : Nat) : Int)) rfl rfl (w64 sD sD) zN ?_
      refine lw_call 35 [] [] [v12_0, (.int .i64 ((aD.length : Nat) : Int)), (.int .i64 (o + ((1 : Nat) : Int)))] rfl rfl cf35 zN (c_laws_a2Wide _ _ _ _ _ hO12_0.rd2 oM oM) ?_
      rintro e14 w14 ⟨rfl, hX14⟩
      refine ⟨_, rfl, hX14, ?_⟩
      have hzs14 : w12.heap.size ≤ w14.heap.size := hX14.size
      have hE14 : Ext w w14 := hE12.trans hX14
      have hF6x14 := hF6x12.ext ((good_owS (good_oFn 94 6))) hX14
      have hF7x14 := hF7x12.ext (o1) hX14
      have hF8x14 := hF8x12.ext (o1) hX14
      have hF9x14 := hF9x12.ext (o1) hX14
      have hB5x14 := hB5x12.ext hX14
      have hO11_0x14 := hO11_0x12.ext (o2) hX14
      have hO12_0x14 := hO12_0.ext (o2) hX14
      rw [show (decide ((((foR pD fD aD o).length : Nat) : Int) = ((aD.length : Nat) : Int)) && (foR pD fD aD o).all (fun r => decide (((r.length : Nat) : Int) = (o + ((1 : Nat) : Int))))) = true from wide_t oM (fun k hk => by have := (hfl.2.1 k hk).1; omega)]
      refine q_not false rfl rfl zN (lw_tv 2 rfl (lw_call 37 [] [] [v12_0, (.int .i64 ((0 : Nat) : Int))] rfl rfl cf37 (zS (e := 68) rfl rfl rfl) (c_laws_a2Column _ _ _ (0) hO12_0x14.rd2 sD oM (by intro r hr; have := (hfl.2.1 r hr).1; omega)) ?_))
      rintro e15 w15 ⟨v15_0, rfl, hX15, hO15_0⟩
      refine ⟨_, rfl, hX15, ?_⟩
      have hzs15 : w14.heap.size ≤ w15.heap.size := hX15.size
      have hE15 : Ext w w15 := hE14.trans hX15
      have hF6x15 := hF6x14.ext ((good_owS (good_oFn 94 6))) hX15
      have hF7x15 := hF7x14.ext (o1) hX15
      have hF8x15 := hF8x14.ext (o1) hX15
      have hF9x15 := hF9x14.ext (o1) hX15
      have hB5x15 := hB5x14.ext hX15
      have hO11_0x15 := hO11_0x14.ext (o2) hX15
      have hO12_0x15 := hO12_0x14.ext (o2) hX15
      refine lw_tv 1 rfl (lw_call 36 [] [] [v15_0, vaD] rfl rfl cf36 (zS (e := 68) rfl rfl rfl) (c_laws_a2Same _ _ _ _ _ hO15_0.rd1 hF7x15.rd1) ?_)
      rintro e16 w16 ⟨rfl, hX16⟩
      refine ⟨_, rfl, hX16, ?_⟩
      have hzs16 : w15.heap.size ≤ w16.heap.size := hX16.size
      have hE16 : Ext w w16 := hE15.trans hX16
      have hF6x16 := hF6x15.ext ((good_owS (good_oFn 94 6))) hX16
      have hF7x16 := hF7x15.ext (o1) hX16
      have hF8x16 := hF8x15.ext (o1) hX16
      have hF9x16 := hF9x15.ext (o1) hX16
      have hB5x16 := hB5x15.ext hX16
      have hO11_0x16 := hO11_0x15.ext (o2) hX16
      have hO12_0x16 := hO12_0x15.ext (o2) hX16
      have hO15_0x16 := hO15_0.ext (o1) hX16
      rw [show (decide (((foR pD fD aD o).map (fun r => r.getD 0 0)) = aD)) = true from decide_eq_true (col_ext hfl.1 hfl.2.2)]
      refine q_not false rfl rfl (zS (e := 68) rfl rfl rfl) (lw_tvn 1 rfl (c_cond_f rfl (wp_skip (wp_seq (wp_plain _ [2, 0, 0, 3, 0, 0, 0, 0, 0] rfl (q_loadA (p := (.pointer (some ⟨w3.heap.size, 0, none⟩))) (.inr rfl) [vD] agg32 rfl (fun w9 hw9 => LD.of_box (BX.ext (w := w16) hB5x16 hw9)) rfl zN (lw_tv 2 rfl (lw_call 24 [] [] [(.agg #[vD]), (.int .i64 fD), v12_0] rfl rfl cf24 zN (c_impl_CheckFlow _ 6 vD (pD) _ v12_0 (foR pD fD aD o) (RN.of_frF hF6x16 (fun b hb => by cases hb)) oM (RN.of_fr2 hO12_0x16 (fun b hb => by cases hb)) hO12_0x16.cap z8_0) ?_))))))))
      rintro e17 w17 ⟨rfl, hX17⟩
      refine ⟨_, rfl, hX17, ?_⟩
      have hzs17 : w16.heap.size ≤ w17.heap.size := hX17.size
      have hE17 : Ext w w17 := hE16.trans hX17
      have hF6x17 := hF6x16.ext ((good_owS (good_oFn 94 6))) hX17
      have hF7x17 := hF7x16.ext (o1) hX17
      have hF8x17 := hF8x16.ext (o1) hX17
      have hF9x17 := hF9x16.ext (o1) hX17
      have hB5x17 := hB5x16.ext hX17
      have hO11_0x17 := hO11_0x16.ext (o2) hX17
      have hO12_0x17 := hO12_0x16.ext (o2) hX17
      have hO15_0x17 := hO15_0x16.ext (o1) hX17
      refine lw_tv 1 rfl (q_extract (vs := [(.bool (ckR pD fD (foR pD fD aD o))), (.int .i64 (psC pD fD (foR pD fD aD o)))]) (.bool (ckR pD fD (foR pD fD aD o))) rfl rfl zN (q_extract (vs := [(.bool (ckR pD fD (foR pD fD aD o))), (.int .i64 (psC pD fD (foR pD fD aD o)))]) (.int .i64 (psC pD fD (foR pD fD aD o))) rfl rfl zN (lw_tvn 2 rfl (wp_seq (wp_plain _ [2, 0, 0, 3, 0, 0, 0, 0, 0] rfl (q_loadA (p := (.pointer (some ⟨w3.heap.size, 0, none⟩))) (.inr rfl) [vD] agg32 rfl (fun w9 hw9 => LD.of_box (BX.ext (w := w17) hB5x17 hw9)) rfl zN (lw_tv 2 rfl ?_)))))))
      refine lw_call 26 [] [] [(.agg #[vD]), (.int .i64 fD), v12_0] rfl rfl cf26 zN (c_impl_PicardStep _ 6 vD (pD) _ v12_0 (foR pD fD aD o) (RN.of_frF hF6x17 (fun b hb => by cases hb)) oM (RN.of_fr2 hO12_0x17 (fun b hb => by cases hb)) hO12_0x17.cap z8_0) ?_
      rintro e18 w18 ⟨v18_0, rfl, hX18, hO18_0, hP18_0, hP18_1⟩
      refine ⟨_, rfl, hX18, ?_⟩
      have hzs18 : w17.heap.size ≤ w18.heap.size := hX18.size
      have hE18 : Ext w w18 := hE17.trans hX18
      have hF6x18 := hF6x17.ext ((good_owS (good_oFn 94 6))) hX18
      have hF7x18 := hF7x17.ext (o1) hX18
      have hF8x18 := hF8x17.ext (o1) hX18
      have hF9x18 := hF9x17.ext (o1) hX18
      have hB5x18 := hB5x17.ext hX18
      have hO11_0x18 := hO11_0x17.ext (o2) hX18
      have hO12_0x18 := hO12_0x17.ext (o2) hX18
      have hO15_0x18 := hO15_0x17.ext (o1) hX18
      refine lw_tv 1 rfl (q_extract (vs := [v18_0, (.int .i64 (psC pD fD (foR pD fD aD o)))]) v18_0 rfl rfl zN (q_extract (vs := [v18_0, (.int .i64 (psC pD fD (foR pD fD aD o)))]) (.int .i64 (psC pD fD (foR pD fD aD o))) rfl rfl zN (lw_tvn 2 rfl (wp_seq (wp_seq (wp_plain _ [0, 0, 0, 0, 0, 0, 0, 0, 0, 0, 0, 0, 0, 3, 0, 0] rfl (lw_tv 1 rfl ?_)))))))
      have hc19 : ¬ (psC pD fD (foR pD fD aD o) ≠ ((0 : Nat) : Int)) := (fun h9 => h9 hps.2.1)
      refine q_neq false rfl rfl (decide_eq_false hc19) zN (lw_tv 2 rfl ?_)
      have hc20 : ¬ (psC pD fD (foR pD fD aD o) ≠ ((0 : Nat) : Int)) := (fun h9 => h9 hps.2.1)
      refine q_neq false rfl rfl (decide_eq_false hc20) (zS (e := 91) rfl rfl rfl) (lw_tv 3 rfl ?_)
      rw [show (ckR pD fD (foR pD fD aD o)) = true from hck]
      refine q_not false rfl rfl (zS (e := 95) rfl rfl rfl) (lw_tv 4 rfl (lw_call 38 [] [] [v18_0, v12_0] rfl rfl cf38 (zS (e := 99) rfl rfl rfl) (c_laws_a2SameRows _ _ _ _ _ hO18_0.rd2 hO12_0x18.rd2) ?_))
      rintro e21 w21 ⟨rfl, hX21⟩
      refine ⟨_, rfl, hX21, ?_⟩
      have hzs21 : w18.heap.size ≤ w21.heap.size := hX21.size
      have hE21 : Ext w w21 := hE18.trans hX21
      have hF6x21 := hF6x18.ext ((good_owS (good_oFn 94 6))) hX21
      have hF7x21 := hF7x18.ext (o1) hX21
      have hF8x21 := hF8x18.ext (o1) hX21
      have hF9x21 := hF9x18.ext (o1) hX21
      have hB5x21 := hB5x18.ext hX21
      have hO11_0x21 := hO11_0x18.ext (o2) hX21
      have hO12_0x21 := hO12_0x18.ext (o2) hX21
      have hO15_0x21 := hO15_0x18.ext (o1) hX21
      have hO18_0x21 := hO18_0.ext (o2) hX21
      rw [show (decide ((psR pD fD (foR pD fD aD o)) = (foR pD fD aD o))) = true from decide_eq_true (hFD.fix oM hcz)]
      refine q_not false rfl rfl (zS (e := 99) rfl rfl rfl) (lw_tvn 1 rfl (c_cond_f rfl (wp_skip (wp_seq (wp_plain _ [0, 0, 3, 0, 0] rfl (lw_tv 2 rfl (lw_call 34 [] [] [vd, (.int .i64 ((1 : Nat) : Int)), (.int .i64 o)] rfl rfl cf34 zN (c_laws_a2At _ _ _ _ _ (hds.ext good_u hE21) oM oM oM) ?_)))))))
      rintro e22 w22 ⟨rfl, hX22⟩
      refine ⟨_, rfl, hX22, ?_⟩
      have hzs22 : w21.heap.size ≤ w22.heap.size := hX22.size
      have hE22 : Ext w w22 := hE21.trans hX22
      have hF6x22 := hF6x21.ext ((good_owS (good_oFn 94 6))) hX22
      have hF7x22 := hF7x21.ext (o1) hX22
      have hF8x22 := hF8x21.ext (o1) hX22
      have hF9x22 := hF9x21.ext (o1) hX22
      have hB5x22 := hB5x21.ext hX22
      have hO11_0x22 := hO11_0x21.ext (o2) hX22
      have hO12_0x22 := hO12_0x21.ext (o2) hX22
      have hO15_0x22 := hO15_0x21.ext (o1) hX22
      have hO18_0x22 := hO18_0x21.ext (o2) hX22
      have ha9 := a2at_num ds ((1 : Nat) : Int) o
      refine q_add (((1 : Nat) : Int) + (a2at ds ((1 : Nat) : Int) o)) rfl rfl (w64 sD sD) zN (lw_tvn 1 rfl (wp_seq ?_))
      refine wp_plain _ [0, 0, 0, 3, 0] rfl ?_
      generalize hg_m : (((1 : Nat) : Int) + (a2at ds ((1 : Nat) : Int) o)) = m
      have hmb : 1 ≤ m ∧ m ≤ o := by have := a2at_num ds ((1 : Nat) : Int) o; omega
      refine lw_tv 3 rfl (lw_call 39 [] [] [vd, v11_0, (.int .i64 m)] rfl rfl cf39 zN (c_spec_A2Guess _ _ _ _ _ _ (hds.ext good_u hE22) hO11_0x22.rd2 oM oM (by intro k; by_cases hk : k < (foR pD fD aD o).length; (have := (hfl.2.1 k hk).1; omega); (rw [List.getD_eq_getElem?_getD, List.getElem?_eq_none oM]; simp)) (by intro k; by_cases hk : k < (foR pD fD aD o).length; exact (hfl.2.1 k hk).2; (rw [List.getD_eq_getElem?_getD, List.getElem?_eq_none oM]; rfl))) ?_)
      rintro e23 w23 ⟨v23_0, x23_0, rfl, hX23, hO23_0, hp23_0⟩
      refine ⟨_, rfl, hX23, ?_⟩
      have hzs23 : w22.heap.size ≤ w23.heap.size := hX23.size
      have hE23 : Ext w w23 := hE22.trans hX23
      have hF6x23 := hF6x22.ext ((good_owS (good_oFn 94 6))) hX23
      have hF7x23 := hF7x22.ext (o1) hX23
      have hF8x23 := hF8x22.ext (o1) hX23
      have hF9x23 := hF9x22.ext (o1) hX23
      have hB5x23 := hB5x22.ext hX23
      have hO11_0x23 := hO11_0x22.ext (o2) hX23
      have hO12_0x23 := hO12_0x22.ext (o2) hX23
      have hO15_0x23 := hO15_0x22.ext (o1) hX23
      have hO18_0x23 := hO18_0x22.ext (o2) hX23
      refine lw_tvn 1 rfl (wp_seq (wp_plain _ [2, 0, 0, 3, 0, 0, 0, 0, 0] rfl ?_))
      have hgu := hFD.gu (o := o) oM hcz (m := m) oM hp23_0
      have hgp := hFD.ps ho12 hcz hgu.1 hgu.2.1 hgu.2.2.1
      have hgc : ckR pD fD x23_0 = decide (foR pD fD aD o = x23_0) := ck_of hgp.1 hgp.2.1 hgp.2.2.2
      refine q_loadA (p := (.pointer (some ⟨w3.heap.size, 0, none⟩))) (.inr rfl) [vD] agg32 rfl (fun w9 hw9 => LD.of_box (BX.ext (w := w23) hB5x23 hw9)) rfl zN (lw_tv 2 rfl (lw_call 26 [] [] [(.agg #[vD]), (.int .i64 fD), v23_0] rfl rfl cf26 zN (c_impl_PicardStep _ 6 vD (pD) _ v23_0 (x23_0) (RN.of_frF hF6x23 (fun b hb => by cases hb)) oM (RN.of_fr2 hO23_0 (fun b hb => by cases hb)) hO23_0.cap z8_0) ?_))
      rintro e24 w24 ⟨v24_0, rfl, hX24, hO24_0, hP24_0, hP24_1⟩
      refine ⟨_, rfl, hX24, ?_⟩
      have hzs24 : w23.heap.size ≤ w24.heap.size := hX24.size
      have hE24 : Ext w w24 := hE23.trans hX24
      have hF6x24 := hF6x23.ext ((good_owS (good_oFn 94 6))) hX24
      have hF7x24 := hF7x23.ext (o1) hX24
      have hF8x24 := hF8x23.ext (o1) hX24
      have hF9x24 := hF9x23.ext (o1) hX24
      have hB5x24 := hB5x23.ext hX24
      have hO11_0x24 := hO11_0x23.ext (o2) hX24
      have hO12_0x24 := hO12_0x23.ext (o2) hX24
      have hO15_0x24 := hO15_0x23.ext (o1) hX24
      have hO18_0x24 := hO18_0x23.ext (o2) hX24
      have hO23_0x24 := hO23_0.ext (o2) hX24
      refine lw_tv 1 rfl (q_extract (vs := [v24_0, (.int .i64 (psC pD fD x23_0))]) v24_0 rfl rfl zN (q_extract (vs := [v24_0, (.int .i64 (psC pD fD x23_0))]) (.int .i64 (psC pD fD x23_0)) rfl rfl zN (lw_tvn 2 rfl (wp_seq (wp_plain _ [2, 0, 0, 3, 0, 0, 0, 0, 0] rfl (q_loadA (p := (.pointer (some ⟨w3.heap.size, 0, none⟩))) (.inr rfl) [vD] agg32 rfl (fun w9 hw9 => LD.of_box (BX.ext (w := w24) hB5x24 hw9)) rfl zN (lw_tv 2 rfl (lw_call 24 [] [] [(.agg #[vD]), (.int .i64 fD), v23_0] rfl rfl cf24 zN (c_impl_CheckFlow _ 6 vD (pD) _ v23_0 (x23_0) (RN.of_frF hF6x24 (fun b hb => by cases hb)) oM (RN.of_fr2 hO23_0x24 (fun b hb => by cases hb)) hO23_0x24.cap z8_0) ?_))))))))
      rintro e25 w25 ⟨rfl, hX25⟩
      refine ⟨_, rfl, hX25, ?_⟩
      have hzs25 : w24.heap.size ≤ w25.heap.size := hX25.size
      have hE25 : Ext w w25 := hE24.trans hX25
      have hF6x25 := hF6x24.ext ((good_owS (good_oFn 94 6))) hX25
      have hF7x25 := hF7x24.ext (o1) hX25
      have hF8x25 := hF8x24.ext (o1) hX25
      have hF9x25 := hF9x24.ext (o1) hX25
      have hB5x25 := hB5x24.ext hX25
      have hO11_0x25 := hO11_0x24.ext (o2) hX25
      have hO12_0x25 := hO12_0x24.ext (o2) hX25
      have hO15_0x25 := hO15_0x24.ext (o1) hX25
      have hO18_0x25 := hO18_0x24.ext (o2) hX25
      have hO23_0x25 := hO23_0x24.ext (o2) hX25
      have hO24_0x25 := hO24_0.ext (o2) hX25
      refine lw_tv 1 rfl (q_extract (vs := [(.bool (ckR pD fD x23_0)), (.int .i64 (psC pD fD x23_0))]) (.bool (ckR pD fD x23_0)) rfl rfl zN (q_extract (vs := [(.bool (ckR pD fD x23_0)), (.int .i64 (psC pD fD x23_0))]) (.int .i64 (psC pD fD x23_0)) rfl rfl zN (lw_tvn 2 rfl (wp_seq (wp_seq (wp_plain _ [0, 0, 0, 0, 0, 0, 0, 0, 0, 0, 3, 0, 0, 0, 0, 0, 0, 0, 0, 0] rfl (lw_tv 1 rfl ?_)))))))
      have hc26 : ¬ (psC pD fD x23_0 ≠ ((0 : Nat) : Int)) := (fun h9 => h9 hgp.2.1)
      refine q_neq false rfl rfl (decide_eq_false hc26) zN (lw_tv 2 rfl ?_)
      have hc27 : ¬ (psC pD fD x23_0 ≠ ((0 : Nat) : Int)) := (fun h9 => h9 hgp.2.1)
      refine q_neq false rfl rfl (decide_eq_false hc27) (zS (e := 129) rfl rfl rfl) (lw_tv 5 rfl (lw_call 38 [] [] [v23_0, v11_0] rfl rfl cf38 (zS (e := 133) rfl rfl rfl) (c_laws_a2SameRows _ _ _ _ _ hO23_0x25.rd2 hO11_0x25.rd2) ?_))
      rintro e28 w28 ⟨rfl, hX28⟩
      refine ⟨_, rfl, hX28, ?_⟩
      have hzs28 : w25.heap.size ≤ w28.heap.size := hX28.size
      have hE28 : Ext w w28 := hE25.trans hX28
      have hF6x28 := hF6x25.ext ((good_owS (good_oFn 94 6))) hX28
      have hF7x28 := hF7x25.ext (o1) hX28
      have hF8x28 := hF8x25.ext (o1) hX28
      have hF9x28 := hF9x25.ext (o1) hX28
      have hB5x28 := hB5x25.ext hX28
      have hO11_0x28 := hO11_0x25.ext (o2) hX28
      have hO12_0x28 := hO12_0x25.ext (o2) hX28
      have hO15_0x28 := hO15_0x25.ext (o1) hX28
      have hO18_0x28 := hO18_0x25.ext (o2) hX28
      have hO23_0x28 := hO23_0x25.ext (o2) hX28
      have hO24_0x28 := hO24_0x25.ext (o2) hX28
      have hc29 : (!((ckR pD fD x23_0) == (decide (x23_0 = (foR pD fD aD o))))) = false := ne_same hgc
      refine q_neqb false u4 rfl rfl hc29 (zS (e := 133) rfl rfl rfl) (lw_tv 3 rfl (q_len (v := v24_0) u27 rfl hO24_0x28.isSl (zS (e := 140) rfl rfl rfl) (lw_tv 1 rfl (q_len (v := v11_0) u27 rfl hO11_0x28.isSl (zS (e := 140) rfl rfl rfl) ?_))))
      have hc30 : ¬ ((((psR pD fD x23_0).length : Nat) : Int) ≠ (((foR pD fD aD o).length : Nat) : Int)) := (by have := hgu.2.2.2.2.2; omega)
      refine q_neq false rfl rfl (decide_eq_false hc30) (zS (e := 140) rfl rfl rfl) (lw_tvn 1 rfl (c_cond_f rfl (wp_skip (wp_seq (wp_seq (wp_plain _ [0] rfl (lw_tvn 1 rfl (wp_block (c_loop (S := Nat) (fun (i : Nat) => ([(25, (.int .i64 ((i : Nat) : Int))), (11, v11_0), (19, (.int .i64 m)), (21, v24_0)] : List (Nat × Value))) (fun (i : Nat) (W : World) => Ext w W ∧ Fr (owL (owL rI 2) 25) w10.heap.size w11.heap.size W.heap v11_0 (foR pD fD aD o) ∧ Fr (owL (owL rI 2) 25) w23.heap.size w24.heap.size W.heap v24_0 (psR pD fD x23_0) ∧ i ≤ (psR pD fD x23_0).length ∧ (w24.heap.size ≤ W.heap.size ∧ w11.heap.size ≤ W.heap.size)) (fun (i : Nat) => (psR pD fD x23_0).length - i) 0 ⟨rfl, rfl, rfl, rfl, trivial⟩ ⟨hE28, hO11_0x28, hO24_0x28, oM, oM⟩ ?_)))))))))
      clear hE0 hX1 hzs1 hE1 hX3 hzs3 hE3 hz4 hX4 hzs4 hE4 hz5 hC5 hE5 hzs5 hF6 hF7 hF8 hF9 hX10 hF6x10 hF7x10 hF8x10 hF9x10 hO11_0 hX11 hF6x11 hF7x11 hF8x11 hF9x11 hO12_0 hX12 hzs12 hE12 hF6x12 hF7x12 hF8x12 hF9x12 hO11_0x12 hX14 hzs14 hE14 hF6x14 hF7x14 hF8x14 hF9x14 hO11_0x14 hO12_0x14 hO15_0 hX15 hzs15 hE15 hF6x15 hF7x15 hF8x15 hF9x15 hO11_0x15 hO12_0x15 hX16 hzs16 hE16 hF6x16 hF7x16 hF8x16 hF9x16 hO11_0x16 hO12_0x16 hO15_0x16 hX17 hzs17 hE17 hF6x17 hF7x17 hF8x17 hF9x17 hO11_0x17 hO12_0x17 hO15_0x17 hO18_0 hX18 hzs18 hE18 hF6x18 hF7x18 hF8x18 hF9x18 hO11_0x18 hO12_0x18 hO15_0x18 hX21 hzs21 hE21 hF6x21 hF7x21 hF8x21 hF9x21 hO11_0x21 hO12_0x21 hO15_0x21 hO18_0x21 hX22 hzs22 hE22 hF6x22 hF7x22 hF8x22 hF9x22 hO11_0x22 hO12_0x22 hO15_0x22 hO18_0x22 hO23_0 hX23 hF6x23 hF7x23 hF8x23 hF9x23 hO11_0x23 hO12_0x23 hO15_0x23 hO18_0x23 hO24_0 hX24 hF6x24 hF7x24 hF8x24 hF9x24 hO11_0x24 hO12_0x24 hO15_0x24 hO18_0x24 hO23_0x24 hX25 hzs25 hE25 hF6x25 hF7x25 hF8x25 hF9x25 hO11_0x25 hO12_0x25 hO15_0x25 hO18_0x25 hO23_0x25 hO24_0x25 hX28 hzs28 hE28 hF6x28 hF7x28 hF8x28 hF9x28 hO11_0x28 hO12_0x28 hO15_0x28 hO18_0x28 hO23_0x28 hO24_0x28
      rintro i ρ31 w31 ⟨hE31, hL31_0, hL31_1, hp31_0, hbU⟩
      have hzs31 : w.heap.size ≤ w31.heap.size := hE31.size
      refine wp_seq (wp_seq (wp_plain _ [0, 0, 0, 0] rfl (lw_tv 2 rfl (q_len (v := v24_0) u27 rfl hL31_1.isSl zN ?_))))
      by_cases hc32 : ((i : Nat) : Int) < (((psR pD fD x23_0).length : Nat) : Int)
      ·
        refine q_lss true rfl rfl (decide_eq_true hc32) zN (lw_nil (c_cond_t rfl (wp_skip (wp_seq (wp_block (wp_seq (wp_draw _ [0, 0, 0, 1, 0, 0, 0, 1, 0, 0, 3, 0] mixed (by kernel_rfl) (lw_tv 2 rfl (q_idx (v := v24_0) i u27 ti25 rfl rfl hL31_1.isSl rfl sD zN ?_)))))))))
        obtain ⟨ue33, hl33, hd33⟩ := hL31_1.rd2.get (k := i) [] sD
        have hln33 := hd33.lenle
        refine q_load (p := eptr v24_0 i 1) (.inl rfl) ue33 one25 rfl hl33 zN (lw_tv 2 rfl (q_idx (v := v11_0) i u27 ti25 rfl rfl hL31_0.isSl rfl sD zN ?_))
        obtain ⟨ue34, hl34, hd34⟩ := hL31_0.rd2.get (k := i) [] sD
        have hln34 := hd34.lenle
        refine q_load (p := eptr v11_0 i 1) (.inl rfl) ue34 one25 rfl hl34 zN (lw_tv 1 rfl ?_)
        refine q_add (m + ((1 : Nat) : Int)) rfl rfl (w64 sD sD) zN ?_
        refine lw_call 40 [] [] [ue33, ue34, (.int .i64 (m + ((1 : Nat) : Int)))] rfl rfl cf40 zN (c_laws_a2Front _ ue33 ((psR pD fD x23_0).getD i []) (w23.heap.size) (w24.heap.size) ue34 ((foR pD fD aD o).getD i []) (w10.heap.size) (w11.heap.size) _ (Fr.rowFr o1 hL31_1 sD hl33) (by show _ ≤ w31.heap.size; omega) (Fr.rowFr o1 hL31_0 sD hl34) (by show _ ≤ w31.heap.size; omega) oM oM) ?_
        rintro e35 w35 ⟨rfl, hX35⟩
        refine ⟨_, rfl, hX35, ?_⟩
        replace hX35 := hX35.of_drew
        have hzs35 : w31.heap.size ≤ w35.heap.size := hX35.size
        have hE35 : Ext w w35 := hE31.trans hX35
        have hL31_0x35 := hL31_0.ext (o2) hX35
        have hL31_1x35 := hL31_1.ext (o2) hX35
        have hd33x35 := hd33.ext g1 hX35
        have hlx36 := ldH_ext hX35 hl33
        have hd34x35 := hd34.ext g1 hX35
        have hlx37 := ldH_ext hX35 hl34
        rw [show (frB ((psR pD fD x23_0).getD i []) ((foR pD fD aD o).getD i []) (m + ((1 : Nat) : Int))) = true from front_t hgu.2.2.2.2.1 hfl.2.1 hgu.2.2.2.1 oM oM]
        exact q_not false rfl rfl zN (lw_nil (c_cond_f rfl (wp_skip (wp_plain _ [0, 0, 0] rfl (lw_tv 1 rfl (q_add ((i + 1 : Nat) : Int) rfl rfl (w64n oM oM) zN (lw_tvn 1 rfl ⟨(i + 1), _, rfl, ⟨rfl, rfl, rfl, rfl, trivial⟩, ⟨hE35, hL31_0x35, hL31_1x35, oM, oM⟩, by first | omega | (dsimp only; omega)⟩)))))))
      ·
        exact q_lss false rfl rfl (decide_eq_false hc32) zN (lw_nil (c_cond_f rfl (wp_exit (t_exit (t_exit (c_exit_here (wp_seq (wp_plain _ [0] rfl (lw_tvn 1 rfl (wp_ret (post_ret [4] rfl (.bool true) rfl ⟨rfl, hE31⟩)))))))))))
  ·
    exact c_cond_t (by first | rfl | (show Value.bool _ = _; rw [hb2])) (wp_seq (wp_plain _ [0] rfl (lw_tvn 1 rfl (wp_ret (t_ret (post_ret [4] rfl (.bool true) rfl ⟨rfl, hE1⟩))))))
end Go.Proofs.YtnofbmdpabcjaaaGreat
