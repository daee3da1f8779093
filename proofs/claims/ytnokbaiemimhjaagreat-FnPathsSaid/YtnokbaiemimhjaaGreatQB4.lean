/- Vb, Vg, Vh, Vm, Sx, Sv, Sw, Vi, Vj, Vk: texts of this claim, joined; what the claim does not come to is left out. -/
import Derived.Test.YtnokbaiemimhjaaGreatQB3
import Derived.Test.YtnokbaiemimhjaaGreatProg
set_option linter.unusedVariables false
set_option linter.unusedSimpArgs false
namespace Go.Proofs.YtnokbaiemimhjaaGreat
open Go Go.RowKit
set_option linter.unusedVariables false
set_option linter.unusedSimpArgs false
set_option maxHeartbeats 4000000
set_option maxRecDepth 100000
attribute [local irreducible] LW
theorem not_f {b : Bool} (h : (!b) = false) : b = true := by cases b <;> simp_all
theorem not_t {b : Bool} (h : (!b) = true) : b = false := by cases b <;> simp_all
theorem wf_ret {p : List Fn} {funcs vars : Int} {e : Ex} {b : Bool} (h : e.kids.length = 0 ∨ b = false) (hb : wfN p funcs vars e = b) : Ending.returned (.bool b) = .returned (.bool (wf p funcs e vars)) := by
  rcases h with h | h
  · rw [wf_leaf h, hb]
  · subst h; rw [← wf_bad hb]
theorem z231_0 {p : Prop} (h : p := by first | exact ret_bool (wf_good hwn fun j hj => hall j oM) | exact ret_bool (wf_kid (k := k) oM (by first | (rw [if_pos oM]) | (rw [if_neg oM])) (not_t ‹_›)) | exact wf_ret (by first | exact .inr rfl | (left; omega) | (left; simp_all <;> omega)) (by (have hp9 := hpl.symm; clear hpl; unfold wfN inB; first | (simp [*]; done) | (simp [*]; omega) | (simp [*] <;> intros <;> omega) | (simp_all <;> omega)))) : p := h
theorem z231_1 {p : Prop} (h : p := by (have hp9 := hpl.symm; clear hpl; unfold wfN inB; first | (simp [*]; done) | (simp [*]; omega) | (simp [*] <;> intros <;> omega) | (simp_all <;> omega))) : p := h
theorem z231_2 {p : Prop} (h : p := by intro j hj; by_cases e9 : j = k; (rw [e9]; first | (rw [if_pos oM]; exact not_f ‹_›) | (rw [if_neg oM]; exact not_f ‹_›)); exact hall j oM) : p := h
theorem z231_3 {p : Prop} (h : p := by unfold plainB; first | (simp [*]; done) | (simp [*]; intros; omega) | (simp [*]; omega)) : p := h
theorem z231_4 {p : Prop} (h : p := by first | exact (decide_eq_true oM).symm | exact decide_eq_decide.2 oM) : p := h
theorem c_impl_checker_isFormed (w : World) (dp : Nat) (vp : Value) (p : List Fn) (funcs : Int) (dex : Nat) (ve : Value) (ex : Ex) (vars : Int) (hp : RP [] dp w.heap vp p) (_hfuncs : -9223372036854775808 ≤ funcs ∧ funcs ≤ 9223372036854775807) (hex : RX [] dex w.heap ve ex) (_hvars : -9223372036854775808 ≤ vars ∧ vars ≤ 9223372036854775807) (hs : 0 ≤ vars ∧ vars + (ex.deep : Int) ≤ 2000000000) (hf : 0 ≤ funcs ∧ funcs ≤ (p.length : Int)) :
  Calls Tryz.prog 231 #[(.agg #[vp,(.int .i64 funcs)]),(.agg #[(.int .i64 ex.kind),(.int .i64 ex.num),(.int .i64 ex.pick),(.int .i64 ex.count),ve]),.int .i64 vars] w (fun e w' => e = .returned (.bool (wf p funcs ex vars)) ∧ Ext w w') := by
 induction dex using Nat.strongRecOn generalizing w dp vp p funcs ve ex vars
 rename_i dex ih
 refine calls_mk [(.agg #[vp,(.int .i64 funcs)]),(.agg #[(.int .i64 ex.kind),(.int .i64 ex.num),(.int .i64 ex.pick),(.int .i64 ex.count),ve]),.int .i64 vars] 177 Tryz.func231 rfl rfl sM ?_
 have hE0 : Ext w w := Ext.refl w
 have hl_vp := hp.lenle
 unfold maxLen at hl_vp
 have hl_ve := hex.rn.lenle
 unfold maxLen at hl_ve
 have hdk := deep_kids ex
 refine wp_seq (wp_plain _ [3,3,0] rfl (r_boxA (cs := #[vp,(.int .i64 funcs)]) rfl zN fun w1 hX1 hz1 hB1 => ?_))
 have hzs1:=hX1.size
 have hE1:=hE0.trans hX1
 replace hB1 : BX w1.heap w.heap.size [vp,(.int .i64 funcs)] := hB1
 have hq3 := hB1.lt
 refine r_boxA (cs := #[(.int .i64 ex.kind),(.int .i64 ex.num),(.int .i64 ex.pick),(.int .i64 ex.count),ve]) rfl zN fun w2 hX2 hz2 hB2 => ?_
 have hzs2:=hX2.size
 have hE2:=hE1.trans hX2
 have hB1x2 := hB1.ext hX2
 replace hB2 : BX w2.heap w1.heap.size [(.int .i64 ex.kind),(.int .i64 ex.num),(.int .i64 ex.pick),(.int .i64 ex.count),ve] := hB2
 refine lw_tvn 1 rfl (wp_seq (wp_plain _ [0,2,0,0] rfl (q_fldP (p := (.pointer (some ⟨w1.heap.size,0,none⟩))) (b := w1.heap.size) (o := 0) 4 fd174_4 rfl rfl zN (q_load (p := (padd (.pointer (some ⟨w1.heap.size,0,none⟩)) 4)) (.inr rfl) ve one53 rfl (hB2.ldp (i := 4) sM) zN (q_len (v := ve) u53 rfl hex.rn.isSl zN (lw_tvn 1 rfl (wp_seq (c_cut (S := Bool) (fun (pl : Bool) => ([(8,(.bool pl)),(2,(.int .i64 vars)),(3,(.pointer (some ⟨w.heap.size,0,none⟩))),(4,(.pointer (some ⟨w1.heap.size,0,none⟩))),(7,(.int .i64 ((ex.kids.length :Nat):Int)))] : List (Nat × Value))) (fun (pl : Bool) (W : World) => Ext w W ∧ BX W.heap w.heap.size [vp,(.int .i64 funcs)] ∧ BX W.heap w1.heap.size [(.int .i64 ex.kind),(.int .i64 ex.num),(.int .i64 ex.pick),(.int .i64 ex.count),ve] ∧ pl = plainB ex) ?_ ?_))))))))
 ·
  refine wp_plain _ [0,2,0,0,0,2,0,0,0] rfl (q_fldP (p := (.pointer (some ⟨w1.heap.size,0,none⟩))) (b := w1.heap.size) (o := 0) 2 fd174_2 rfl rfl zN (q_load (p := (padd (.pointer (some ⟨w1.heap.size,0,none⟩)) 2)) (.inr rfl) (.int .i64 ex.pick) one2 rfl (hB2.ldp (i := 2) sM) zN ?_))
  by_cases hc5 : ex.pick = ((0 :Nat):Int)
  ·
   exact q_eql true rfl rfl (decide_eq_true hc5) zN (lw_tv 1 rfl (q_fldP (p := (.pointer (some ⟨w1.heap.size,0,none⟩))) (b := w1.heap.size) (o := 0) 3 fd174_3 rfl rfl (zS (e := 19) rfl rfl rfl) (q_load (p := (padd (.pointer (some ⟨w1.heap.size,0,none⟩)) 3)) (.inr rfl) (.int .i64 ex.count) one2 rfl (hB2.ldp (i := 3) sM) (zS (e := 19) rfl rfl rfl) (q_eql (decide (ex.count = ((0 :Nat):Int))) rfl rfl rfl (zS (e := 19) rfl rfl rfl) (lw_tvn 2 rfl ⟨(decide (ex.count = ((0 :Nat):Int))),_,rfl,⟨rfl,rfl,rfl,rfl,rfl,trivial⟩,⟨hE2,hB1x2,hB2,z231_3⟩⟩)))))
  ·
   exact q_eql false rfl rfl (decide_eq_false hc5) zN (lw_tvn 6 rfl ⟨false,_,rfl,⟨rfl,rfl,rfl,rfl,rfl,trivial⟩,⟨hE2,hB1x2,hB2,z231_3⟩⟩)
 ·
  clear hE0 hz1 hX1 hzs1 hE1 hz2 hX2 hzs2 hE2
  rintro pl ρ4 w4 ⟨hE4,hL4_0,hL4_1,hpl⟩
  have hzs4 : w.heap.size ≤ w4.heap.size := hE4.size
  have hq6 := hL4_0.lt
  have hq7 := hL4_1.lt
  refine wp_seq (c_cut (S := Unit) (fun (u : Unit) => ([(2,(.int .i64 vars)),(3,(.pointer (some ⟨w.heap.size,0,none⟩))),(4,(.pointer (some ⟨w1.heap.size,0,none⟩)))] : List (Nat × Value))) (fun (u : Unit) (W : World) => Ext w W ∧ BX W.heap w.heap.size [vp,(.int .i64 funcs)] ∧ BX W.heap w1.heap.size [(.int .i64 ex.kind),(.int .i64 ex.num),(.int .i64 ex.pick),(.int .i64 ex.count),ve] ∧ wfN p funcs vars ex = true) ?_ ?_)
  ·
   refine wp_seq (wp_plain _ [0,2] rfl (q_fldP (p := (.pointer (some ⟨w1.heap.size,0,none⟩))) (b := w1.heap.size) (o := 0) 0 fd174_0 rfl rfl zN (q_load (p := (padd (.pointer (some ⟨w1.heap.size,0,none⟩)) 0)) (.inr rfl) (.int .i64 ex.kind) one2 rfl (hL4_1.ldp (i := 0) sM) zN (lw_nil (wp_block (wp_seq (wp_plain _ [0,0] rfl ?_)))))))
   by_cases hc9 : ex.kind = ((1 :Nat):Int)
   ·
    refine q_eql true rfl rfl (decide_eq_true hc9) zN (lw_tvn 1 rfl (c_cond_t rfl (wp_seq (wp_plain _ [0,0,0,0,0,0,0,2,0,0,0] rfl (lw_tv 2 rfl ?_)))))
    cases hb10 : pl
    ·
     exact lw_tvn 9 rfl (wp_ret (b_ret (t_ret (post_ret [6] rfl (.bool false) rfl ⟨z231_0,hE4⟩))))
    ·
     refine lw_tv 1 rfl ?_
     by_cases hc11 : ((ex.kids.length :Nat):Int) = ((0 :Nat):Int)
     ·
      refine q_eql true rfl rfl (decide_eq_true hc11) (zS (e := 29) rfl rfl rfl) (lw_tv 2 rfl (q_fldP (p := (.pointer (some ⟨w1.heap.size,0,none⟩))) (b := w1.heap.size) (o := 0) 1 fd174_1 rfl rfl (zS (e := 33) rfl rfl rfl) (q_load (p := (padd (.pointer (some ⟨w1.heap.size,0,none⟩)) 1)) (.inr rfl) (.int .i64 ex.num) one2 rfl (hL4_1.ldp (i := 1) sM) (zS (e := 33) rfl rfl rfl) (lw_callq 161 [] [] [(.int .i64 ex.num)] rfl rfl cf161 (zS (e := 33) rfl rfl rfl) (.bool (isN ex.num)) (fun wq => c_impl_isNumber wq _ hex.rng.num) (lw_tvn 2 rfl (wp_ret (b_ret (t_ret ?_))))))))
      exact post_ret [6] rfl (.bool (isN ex.num)) rfl ⟨z231_0,hE4⟩
     ·
      exact q_eql false rfl rfl (decide_eq_false hc11) (zS (e := 29) rfl rfl rfl) (lw_tvn 7 rfl (wp_ret (b_ret (t_ret (post_ret [6] rfl (.bool false) rfl ⟨z231_0,hE4⟩)))))
   ·
    refine q_eql false rfl rfl (decide_eq_false hc9) zN (lw_tvn 1 rfl (c_cond_f rfl (wp_seq (wp_plain _ [0,0] rfl ?_))))
    by_cases hc13 : ex.kind = ((2 :Nat):Int)
    ·
     refine q_eql true rfl rfl (decide_eq_true hc13) zN (lw_tvn 1 rfl (c_cond_t rfl (wp_seq (wp_plain _ [0,0,0,0,0,0,0,2,0,0,0,0,0] rfl (lw_tv 2 rfl ?_)))))
     cases hb14 : pl
     ·
      exact lw_tvn 11 rfl (wp_ret (b_ret (t_ret (post_ret [6] rfl (.bool false) rfl ⟨z231_0,hE4⟩))))
     ·
      refine lw_tv 1 rfl ?_
      by_cases hc15 : ((ex.kids.length :Nat):Int) = ((0 :Nat):Int)
      ·
       refine q_eql true rfl rfl (decide_eq_true hc15) (zS (e := 41) rfl rfl rfl) (lw_tv 2 rfl (q_fldP (p := (.pointer (some ⟨w1.heap.size,0,none⟩))) (b := w1.heap.size) (o := 0) 1 fd174_1 rfl rfl (zS (e := 45) rfl rfl rfl) (q_load (p := (padd (.pointer (some ⟨w1.heap.size,0,none⟩)) 1)) (.inr rfl) (.int .i64 ex.num) one2 rfl (hL4_1.ldp (i := 1) sM) (zS (e := 45) rfl rfl rfl) (lw_tv 1 rfl (q_sub (vars - 1) rfl rfl (w64 oM oM) (zS (e := 45) rfl rfl rfl) (lw_callq 72 [] [] [(.int .i64 ex.num),(.int .i64 ((0 :Nat):Int)),(.int .i64 (vars - 1))] rfl rfl cf72 (zS (e := 45) rfl rfl rfl) (.bool (decide (((0 :Nat):Int) ≤ ex.num) && decide (ex.num ≤ (vars - 1)))) (fun wq => c_impl_within wq _ _ _ hex.rng.num oM oM) (lw_tvn 2 rfl (wp_ret (b_ret ?_)))))))))
       exact t_ret (post_ret [6] rfl (.bool (decide (((0 :Nat):Int) ≤ ex.num) && decide (ex.num ≤ (vars - 1)))) rfl ⟨z231_0,hE4⟩)
      ·
       exact q_eql false rfl rfl (decide_eq_false hc15) (zS (e := 41) rfl rfl rfl) (lw_tvn 9 rfl (wp_ret (b_ret (t_ret (post_ret [6] rfl (.bool false) rfl ⟨z231_0,hE4⟩)))))
    ·
     refine q_eql false rfl rfl (decide_eq_false hc13) zN (lw_tvn 1 rfl (c_cond_f rfl (wp_seq (c_cut (S := Bool) (fun (b5 : Bool) => ([(52,(.bool b5)),(2,(.int .i64 vars)),(3,(.pointer (some ⟨w.heap.size,0,none⟩))),(4,(.pointer (some ⟨w1.heap.size,0,none⟩))),(7,(.int .i64 ((ex.kids.length :Nat):Int))),(8,(.bool pl)),(25,(.int .i64 ex.kind))] : List (Nat × Value))) (fun (b5 : Bool) (W : World) => Ext w W ∧ BX W.heap w.heap.size [vp,(.int .i64 funcs)] ∧ BX W.heap w1.heap.size [(.int .i64 ex.kind),(.int .i64 ex.num),(.int .i64 ex.pick),(.int .i64 ex.count),ve] ∧ b5 = decide (ex.kind = 3 ∨ ex.kind = 4 ∨ ex.kind = 5 ∨ ex.kind = 6 ∨ ex.kind = 9)) ?_ ?_))))
     ·
      refine wp_seq (wp_plain _ [0,0] rfl ?_)
      by_cases hc18 : ex.kind = ((3 :Nat):Int)
      ·
       exact q_eql true rfl rfl (decide_eq_true hc18) zN (lw_tvn 1 rfl (c_cond_t rfl (wp_skip ⟨true,_,rfl,⟨rfl,rfl,rfl,rfl,rfl,rfl,rfl,trivial⟩,⟨hE4,hL4_0,hL4_1,z231_4⟩⟩)))
      ·
       refine q_eql false rfl rfl (decide_eq_false hc18) zN (lw_tvn 1 rfl (c_cond_f rfl (wp_seq (wp_plain _ [0,0] rfl ?_))))
       by_cases hc19 : ex.kind = ((4 :Nat):Int)
       ·
        exact q_eql true rfl rfl (decide_eq_true hc19) zN (lw_tvn 1 rfl (c_cond_t rfl (wp_skip ⟨true,_,rfl,⟨rfl,rfl,rfl,rfl,rfl,rfl,rfl,trivial⟩,⟨hE4,hL4_0,hL4_1,z231_4⟩⟩)))
       ·
        refine q_eql false rfl rfl (decide_eq_false hc19) zN (lw_tvn 1 rfl (c_cond_f rfl (wp_seq (wp_plain _ [0,0] rfl ?_))))
        by_cases hc20 : ex.kind = ((5 :Nat):Int)
        ·
         exact q_eql true rfl rfl (decide_eq_true hc20) zN (lw_tvn 1 rfl (c_cond_t rfl (wp_skip ⟨true,_,rfl,⟨rfl,rfl,rfl,rfl,rfl,rfl,rfl,trivial⟩,⟨hE4,hL4_0,hL4_1,z231_4⟩⟩)))
        ·
         refine q_eql false rfl rfl (decide_eq_false hc20) zN (lw_tvn 1 rfl (c_cond_f rfl (wp_seq (wp_plain _ [0,0] rfl ?_))))
         by_cases hc21 : ex.kind = ((6 :Nat):Int)
         ·
          exact q_eql true rfl rfl (decide_eq_true hc21) zN (lw_tvn 1 rfl (c_cond_t rfl (wp_skip ⟨true,_,rfl,⟨rfl,rfl,rfl,rfl,rfl,rfl,rfl,trivial⟩,⟨hE4,hL4_0,hL4_1,z231_4⟩⟩)))
         ·
          exact q_eql false rfl rfl (decide_eq_false hc21) zN (lw_tvn 1 rfl (c_cond_f rfl (wp_plain _ [0,0] rfl (q_eql (decide (ex.kind = ((9 :Nat):Int))) rfl rfl rfl zN (lw_tvn 1 rfl ⟨(decide (ex.kind = ((9 :Nat):Int))),_,rfl,⟨rfl,rfl,rfl,rfl,rfl,rfl,rfl,trivial⟩,⟨hE4,hL4_0,hL4_1,z231_4⟩⟩)))))
     ·
      clear hL4_1 hL4_0 hE4 hzs4
      rintro b5 ρ17 w17 ⟨hE17,hL17_0,hL17_1,h5b⟩
      have hzs17 : w.heap.size ≤ w17.heap.size := hE17.size
      have hq22 := hL17_0.lt
      have hq23 := hL17_1.lt
      cases hb24 : b5
      ·
       refine c_cond_f (by first | rfl | (show Value.bool _ = _; rw [hb24])) (wp_seq (wp_plain _ [0,0] rfl ?_))
       have h5n := of_decide_eq_false (h5b.symm.trans ‹_›)
       clear h5b
       by_cases hc25 : ex.kind = ((7 :Nat):Int)
       ·
        refine q_eql true rfl rfl (decide_eq_true hc25) zN (lw_tvn 1 rfl (c_cond_t rfl (wp_seq (wp_plain _ [0,0,0,0,2,0,0,0,0,0,0] rfl (lw_tv 1 rfl (q_not (!pl) rfl rfl zN (lw_tv 1 rfl ?_)))))))
        cases hb26 : (!pl)
        ·
         refine q_fldP (p := (.pointer (some ⟨w1.heap.size,0,none⟩))) (b := w1.heap.size) (o := 0) 1 fd174_1 rfl rfl (zS (e := 73) rfl rfl rfl) (q_load (p := (padd (.pointer (some ⟨w1.heap.size,0,none⟩)) 1)) (.inr rfl) (.int .i64 ex.num) one2 rfl (hL17_1.ldp (i := 1) sM) (zS (e := 73) rfl rfl rfl) ?_)
         by_cases hc27 : ex.num ≠ ((0 :Nat):Int)
         ·
          exact q_neq true rfl rfl (decide_eq_true hc27) (zS (e := 73) rfl rfl rfl) (lw_tvn 5 rfl (c_cond_t rfl (wp_seq (wp_plain _ [0] rfl (lw_tvn 1 rfl (wp_ret (b_ret (t_ret (post_ret [6] rfl (.bool false) rfl ⟨z231_0,hE17⟩)))))))))
         ·
          refine q_neq false rfl rfl (decide_eq_false hc27) (zS (e := 73) rfl rfl rfl) (lw_tv 3 rfl ?_)
          by_cases hc28 : ((ex.kids.length :Nat):Int) ≠ ((1 :Nat):Int)
          ·
           exact q_neq true rfl rfl (decide_eq_true hc28) (zS (e := 78) rfl rfl rfl) (lw_tvn 1 rfl (c_cond_t rfl (wp_seq (wp_plain _ [0] rfl (lw_tvn 1 rfl (wp_ret (b_ret (t_ret (post_ret [6] rfl (.bool false) rfl ⟨z231_0,hE17⟩)))))))))
          ·
           exact q_neq false rfl rfl (decide_eq_false hc28) (zS (e := 78) rfl rfl rfl) (lw_tvn 1 rfl (c_cond_f rfl (wp_skip ⟨(),_,rfl,⟨rfl,rfl,rfl,trivial⟩,⟨hE17,hL17_0,hL17_1,z231_1⟩⟩)))
        ·
         exact lw_tvn 8 rfl (c_cond_t rfl (wp_seq (wp_plain _ [0] rfl (lw_tvn 1 rfl (wp_ret (b_ret (t_ret (post_ret [6] rfl (.bool false) rfl ⟨z231_0,hE17⟩))))))))
       ·
        refine q_eql false rfl rfl (decide_eq_false hc25) zN (lw_tvn 1 rfl (c_cond_f rfl (wp_seq (wp_plain _ [0,0] rfl ?_))))
        by_cases hc29 : ex.kind = ((8 :Nat):Int)
        ·
         refine q_eql true rfl rfl (decide_eq_true hc29) zN (lw_tvn 1 rfl (c_cond_t rfl (wp_seq (wp_plain _ [0,0,0,0,2,0,0,0,0,0,0] rfl (lw_tv 1 rfl (q_not (!pl) rfl rfl zN (lw_tv 1 rfl ?_)))))))
         cases hb30 : (!pl)
         ·
          refine q_fldP (p := (.pointer (some ⟨w1.heap.size,0,none⟩))) (b := w1.heap.size) (o := 0) 1 fd174_1 rfl rfl (zS (e := 86) rfl rfl rfl) (q_load (p := (padd (.pointer (some ⟨w1.heap.size,0,none⟩)) 1)) (.inr rfl) (.int .i64 ex.num) one2 rfl (hL17_1.ldp (i := 1) sM) (zS (e := 86) rfl rfl rfl) ?_)
          by_cases hc31 : ex.num ≠ ((0 :Nat):Int)
          ·
           exact q_neq true rfl rfl (decide_eq_true hc31) (zS (e := 86) rfl rfl rfl) (lw_tvn 5 rfl (c_cond_t rfl (wp_seq (wp_plain _ [0] rfl (lw_tvn 1 rfl (wp_ret (b_ret (t_ret (post_ret [6] rfl (.bool false) rfl ⟨z231_0,hE17⟩)))))))))
          ·
           refine q_neq false rfl rfl (decide_eq_false hc31) (zS (e := 86) rfl rfl rfl) (lw_tv 3 rfl ?_)
           by_cases hc32 : ((ex.kids.length :Nat):Int) ≠ ((3 :Nat):Int)
           ·
            exact q_neq true rfl rfl (decide_eq_true hc32) (zS (e := 91) rfl rfl rfl) (lw_tvn 1 rfl (c_cond_t rfl (wp_seq (wp_plain _ [0] rfl (lw_tvn 1 rfl (wp_ret (b_ret (t_ret (post_ret [6] rfl (.bool false) rfl ⟨z231_0,hE17⟩)))))))))
           ·
            exact q_neq false rfl rfl (decide_eq_false hc32) (zS (e := 91) rfl rfl rfl) (lw_tvn 1 rfl (c_cond_f rfl (wp_skip ⟨(),_,rfl,⟨rfl,rfl,rfl,trivial⟩,⟨hE17,hL17_0,hL17_1,z231_1⟩⟩)))
         ·
          exact lw_tvn 8 rfl (c_cond_t rfl (wp_seq (wp_plain _ [0] rfl (lw_tvn 1 rfl (wp_ret (b_ret (t_ret (post_ret [6] rfl (.bool false) rfl ⟨z231_0,hE17⟩))))))))
        ·
         refine q_eql false rfl rfl (decide_eq_false hc29) zN (lw_tvn 1 rfl (c_cond_f rfl (wp_seq (c_cut (S := Bool) (fun (b10 : Bool) => ([(95,(.bool b10)),(2,(.int .i64 vars)),(3,(.pointer (some ⟨w.heap.size,0,none⟩))),(4,(.pointer (some ⟨w1.heap.size,0,none⟩))),(7,(.int .i64 ((ex.kids.length :Nat):Int)))] : List (Nat × Value))) (fun (b10 : Bool) (W : World) => Ext w W ∧ BX W.heap w.heap.size [vp,(.int .i64 funcs)] ∧ BX W.heap w1.heap.size [(.int .i64 ex.kind),(.int .i64 ex.num),(.int .i64 ex.pick),(.int .i64 ex.count),ve] ∧ b10 = decide (ex.kind = 10 ∨ ex.kind = 11)) ?_ ?_))))
         ·
          refine wp_seq (wp_plain _ [0,0] rfl ?_)
          by_cases hc34 : ex.kind = ((10 :Nat):Int)
          ·
           exact q_eql true rfl rfl (decide_eq_true hc34) zN (lw_tvn 1 rfl (c_cond_t rfl (wp_skip ⟨true,_,rfl,⟨rfl,rfl,rfl,rfl,rfl,trivial⟩,⟨hE17,hL17_0,hL17_1,z231_4⟩⟩)))
          ·
           exact q_eql false rfl rfl (decide_eq_false hc34) zN (lw_tvn 1 rfl (c_cond_f rfl (wp_plain _ [0,0] rfl (q_eql (decide (ex.kind = ((11 :Nat):Int))) rfl rfl rfl zN (lw_tvn 1 rfl ⟨(decide (ex.kind = ((11 :Nat):Int))),_,rfl,⟨rfl,rfl,rfl,rfl,rfl,trivial⟩,⟨hE17,hL17_0,hL17_1,z231_4⟩⟩)))))
         ·
          clear hL17_1 hL17_0 hE17 hzs17
          rintro b10 ρ33 w33 ⟨hE33,hL33_0,hL33_1,h10b⟩
          have hzs33 : w.heap.size ≤ w33.heap.size := hE33.size
          have hq35 := hL33_0.lt
          have hq36 := hL33_1.lt
          cases hb37 : b10
          ·
           refine c_cond_f (by first | rfl | (show Value.bool _ = _; rw [hb37])) (wp_seq (wp_plain _ [0] rfl ?_))
           have h10n := of_decide_eq_false (h10b.symm.trans ‹_›)
           clear h10b
           exact lw_tvn 1 rfl (wp_ret (b_ret (t_ret (post_ret [6] rfl (.bool false) rfl ⟨z231_0,hE33⟩))))
          ·
           refine c_cond_t (by first | rfl | (show Value.bool _ = _; rw [hb37])) (wp_seq (wp_seq (wp_plain _ [0,2,0,2,0,0,0] rfl ?_)))
           have h5k := of_decide_eq_true (h10b.symm.trans ‹_›)
           clear h10b
           refine q_fldP (p := (.pointer (some ⟨w1.heap.size,0,none⟩))) (b := w1.heap.size) (o := 0) 1 fd174_1 rfl rfl zN (q_load (p := (padd (.pointer (some ⟨w1.heap.size,0,none⟩)) 1)) (.inr rfl) (.int .i64 ex.num) one2 rfl (hL33_1.ldp (i := 1) sM) zN (q_fldP (p := (.pointer (some ⟨w.heap.size,0,none⟩))) (b := w.heap.size) (o := 0) 1 fd237_1 rfl rfl zN (q_load (p := (padd (.pointer (some ⟨w.heap.size,0,none⟩)) 1)) (.inr rfl) (.int .i64 funcs) one2 rfl (hL33_0.ldp (i := 1) sM) zN (q_sub (funcs - 1) rfl rfl (w64 oM oM) zN (lw_callq 72 [] [] [(.int .i64 ex.num),(.int .i64 ((0 :Nat):Int)),(.int .i64 (funcs - 1))] rfl rfl cf72 zN (.bool (decide (((0 :Nat):Int) ≤ ex.num) && decide (ex.num ≤ (funcs - 1)))) (fun wq => c_impl_within wq _ _ _ hex.rng.num oM oM) ?_)))))
           refine q_not (!(decide (((0 :Nat):Int) ≤ ex.num) && decide (ex.num ≤ (funcs - 1)))) rfl rfl zN (lw_nil ?_)
           cases hb39 : (!(decide (((0 :Nat):Int) ≤ ex.num) && decide (ex.num ≤ (funcs - 1))))
           ·
            refine c_cond_f (by first | rfl | (show Value.bool _ = _; rw [hb39])) (wp_skip (wp_seq (wp_plain _ [0,0,2,0,2,0,2,3,4] rfl ?_)))
            have hnr : 0 ≤ ex.num ∧ ex.num ≤ funcs - 1 := by have h9 := ‹(!(decide (((0 :Nat):Int) ≤ ex.num) && decide (ex.num ≤ funcs - 1))) = false›; simpa using h9
            refine q_fldP (p := (.pointer (some ⟨w.heap.size,0,none⟩))) (b := w.heap.size) (o := 0) 0 fd237_0 rfl rfl zN (q_fldP (p := (padd (.pointer (some ⟨w.heap.size,0,none⟩)) 0)) (b := w.heap.size) (o := 0) 0 fd26_0 rfl rfl zN (q_load (p := (padd (padd (.pointer (some ⟨w.heap.size,0,none⟩)) 0) 0)) (.inr rfl) vp one24 rfl (hL33_0.ldp (i := 0) sM) zN (q_fldP (p := (.pointer (some ⟨w1.heap.size,0,none⟩))) (b := w1.heap.size) (o := 0) 1 fd174_1 rfl rfl zN (q_load (p := (padd (.pointer (some ⟨w1.heap.size,0,none⟩)) 1)) (.inr rfl) (.int .i64 ex.num) one2 rfl (hL33_1.ldp (i := 1) sM) zN ?_))))
            refine q_idx (v := vp) ((ex.num).toNat) u24 tiS55 rfl rfl hp.isSl oM sD zN ?_
            obtain ⟨cs40,hr40,hl40⟩ := hp.get (good_rFn dp) Fn.zero (k := ((ex.num).toNat)) sD
            obtain ⟨ve40,rfl,hx40⟩ := RF.of hr40
            have hln40 := hx40.rn.lenle
            unfold maxLen at hln40
            refine q_loadA (p := eptr vp ((ex.num).toNat) 3) (.inr rfl) [(.string ((p.getD ((ex.num).toNat) Fn.zero).name)),(.int .i64 ((p.getD ((ex.num).toNat) Fn.zero).params)),ve40] agg55 rfl (fun wq9 hw9 => hl40 wq9 (Chg.of_ext [] (hE33.trans hw9))) rfl zN ?_
            have hq42 := hL33_0.lt
            have hq43 := hL33_1.lt
            refine r_allocA (z := .agg #[.string ByteArray.empty,.int .i64 0,.slice none 0 0]) zr55 zN fun w41 hX41 hz41 hB41 => ?_
            have hzs41:=hX41.size
            have hE41:=hE33.trans hX41
            have hL33_0x41 := hL33_0.ext hX41
            have hL33_1x41 := hL33_1.ext hX41
            replace hB41 : BX w41.heap w33.heap.size [(.string ByteArray.empty),(.int .i64 0),(.slice none 0 0)] := hB41
            refine e_setA (vs := [(.string ((p.getD ((ex.num).toNat) Fn.zero).name)),(.int .i64 ((p.getD ((ex.num).toNat) Fn.zero).params)),ve40]) agg55 rfl rfl hx40.ones hB41 rfl rfl zN fun w44 hC44 hz44 hB44 => ?_
            replace hB44 : BX w44.heap w33.heap.size [(.string ((p.getD ((ex.num).toNat) Fn.zero).name)),(.int .i64 ((p.getD ((ex.num).toNat) Fn.zero).params)),ve40] := hB44
            have hE44 : Ext w w44 := hC44.below hE41 (fun c hc => by have := List.mem_singleton.1 hc; omega) hE41.size
            have hzs44:=hC44.size
            have hF45 := hL33_0x41.chg hC44 (fun hm => by have := List.mem_singleton.1 hm; omega)
            have hF46 := hL33_1x41.chg hC44 (fun hm => by have := List.mem_singleton.1 hm; omega)
            refine lw_nil (wp_seq (wp_seq (wp_plain _ [0,0,2,0,0,0,2,0,2,0,0,0,0,0] rfl (lw_tv 1 rfl (q_fldP (p := (.pointer (some ⟨w33.heap.size,0,none⟩))) (b := w33.heap.size) (o := 0) 1 fd55_1 rfl rfl zN (q_load (p := (padd (.pointer (some ⟨w33.heap.size,0,none⟩)) 1)) (.inr rfl) (.int .i64 ((p.getD ((ex.num).toNat) Fn.zero).params)) one2 rfl (hB44.ldp (i := 1) sM) zN ?_))))))
            by_cases hc47 : ((ex.kids.length :Nat):Int) ≠ (p.getD ((ex.num).toNat) Fn.zero).params
            ·
             exact q_neq true rfl rfl (decide_eq_true hc47) zN (lw_tvn 10 rfl (c_cond_t rfl (wp_seq (wp_plain _ [0] rfl (lw_tvn 1 rfl (wp_ret (t_ret (b_ret (t_ret (post_ret [6] rfl (.bool false) rfl ⟨z231_0,hE44⟩))))))))))
            ·
             refine q_neq false rfl rfl (decide_eq_false hc47) zN (lw_tv 1 rfl (q_fldP (p := (.pointer (some ⟨w1.heap.size,0,none⟩))) (b := w1.heap.size) (o := 0) 2 fd174_2 rfl rfl (zS (e := 116) rfl rfl rfl) (q_load (p := (padd (.pointer (some ⟨w1.heap.size,0,none⟩)) 2)) (.inr rfl) (.int .i64 ex.pick) one2 rfl (hF46.ldp (i := 2) sM) (zS (e := 116) rfl rfl rfl) (q_fldP (p := (.pointer (some ⟨w33.heap.size,0,none⟩))) (b := w33.heap.size) (o := 0) 2 fd55_2 rfl rfl (zS (e := 116) rfl rfl rfl) (q_load (p := (padd (.pointer (some ⟨w33.heap.size,0,none⟩)) 2)) (.inr rfl) ve40 one53 rfl (hB44.ldp (i := 2) sM) (zS (e := 116) rfl rfl rfl) (q_len (v := ve40) u53 rfl hx40.rn.isSl (zS (e := 116) rfl rfl rfl) ?_))))))
             refine q_sub (((p.getD (ex.num).toNat Fn.zero).outs.length : Int) - 1) rfl rfl (w64 oM oM) (zS (e := 116) rfl rfl rfl) (lw_callq 72 [] [] [(.int .i64 ex.pick),(.int .i64 ((0 :Nat):Int)),(.int .i64 (((p.getD (ex.num).toNat Fn.zero).outs.length : Int) - 1))] rfl rfl cf72 (zS (e := 116) rfl rfl rfl) (.bool (decide (((0 :Nat):Int) ≤ ex.pick) && decide (ex.pick ≤ (((p.getD (ex.num).toNat Fn.zero).outs.length : Int) - 1)))) (fun wq => c_impl_within wq _ _ _ hex.rng.pick oM oM) (q_not (!(decide (((0 :Nat):Int) ≤ ex.pick) && decide (ex.pick ≤ (((p.getD (ex.num).toNat Fn.zero).outs.length : Int) - 1)))) rfl rfl (zS (e := 116) rfl rfl rfl) (lw_tvn 1 rfl ?_)))
             cases hb49 : (!(decide (((0 :Nat):Int) ≤ ex.pick) && decide (ex.pick ≤ (((p.getD (ex.num).toNat Fn.zero).outs.length : Int) - 1))))
             ·
              refine c_cond_f (by first | rfl | (show Value.bool _ = _; rw [hb49])) (wp_skip (wp_seq (wp_plain _ [0,2,0,0,0,2,0,0,0,0,2,0,0,0,2,0,0,2,0,0,0,2,0,0,0,0,0] rfl (q_fldP (p := (.pointer (some ⟨w1.heap.size,0,none⟩))) (b := w1.heap.size) (o := 0) 0 fd174_0 rfl rfl zN (q_load (p := (padd (.pointer (some ⟨w1.heap.size,0,none⟩)) 0)) (.inr rfl) (.int .i64 ex.kind) one2 rfl (hF46.ldp (i := 0) sM) zN ?_)))))
              by_cases hc50 : ex.kind = ((10 :Nat):Int)
              ·
               refine q_eql true rfl rfl (decide_eq_true hc50) zN (lw_tv 1 rfl (q_fldP (p := (.pointer (some ⟨w1.heap.size,0,none⟩))) (b := w1.heap.size) (o := 0) 3 fd174_3 rfl rfl (zS (e := 129) rfl rfl rfl) (q_load (p := (padd (.pointer (some ⟨w1.heap.size,0,none⟩)) 3)) (.inr rfl) (.int .i64 ex.count) one2 rfl (hF46.ldp (i := 3) sM) (zS (e := 129) rfl rfl rfl) ?_)))
               by_cases hc51 : ex.count ≠ ((0 :Nat):Int)
               ·
                exact q_neq true rfl rfl (decide_eq_true hc51) (zS (e := 129) rfl rfl rfl) (lw_tvn 20 rfl (c_cond_t rfl (wp_seq (wp_plain _ [0] rfl (lw_tvn 1 rfl (wp_ret (b_ret (t_ret (post_ret [6] rfl (.bool false) rfl ⟨z231_0,hE44⟩)))))))))
               ·
                refine q_neq false rfl rfl (decide_eq_false hc51) (zS (e := 129) rfl rfl rfl) (lw_tv 2 rfl (q_fldP (p := (.pointer (some ⟨w1.heap.size,0,none⟩))) (b := w1.heap.size) (o := 0) 0 fd174_0 rfl rfl (zS (e := 134) rfl rfl rfl) (q_load (p := (padd (.pointer (some ⟨w1.heap.size,0,none⟩)) 0)) (.inr rfl) (.int .i64 ex.kind) one2 rfl (hF46.ldp (i := 0) sM) (zS (e := 134) rfl rfl rfl) ?_)))
                by_cases hc52 : ex.kind = ((11 :Nat):Int)
                ·
                 refine q_eql true rfl rfl (decide_eq_true hc52) (zS (e := 134) rfl rfl rfl) (lw_tv 1 rfl (q_fldP (p := (.pointer (some ⟨w33.heap.size,0,none⟩))) (b := w33.heap.size) (o := 0) 2 fd55_2 rfl rfl (zS (e := 138) rfl rfl rfl) (q_load (p := (padd (.pointer (some ⟨w33.heap.size,0,none⟩)) 2)) (.inr rfl) ve40 one53 rfl (hB44.ldp (i := 2) sM) (zS (e := 138) rfl rfl rfl) (q_len (v := ve40) u53 rfl hx40.rn.isSl (zS (e := 138) rfl rfl rfl) (q_fldP (p := (.pointer (some ⟨w33.heap.size,0,none⟩))) (b := w33.heap.size) (o := 0) 1 fd55_1 rfl rfl (zS (e := 138) rfl rfl rfl) (q_load (p := (padd (.pointer (some ⟨w33.heap.size,0,none⟩)) 1)) (.inr rfl) (.int .i64 ((p.getD ((ex.num).toNat) Fn.zero).params)) one2 rfl (hB44.ldp (i := 1) sM) (zS (e := 138) rfl rfl rfl) ?_))))))
                 by_cases hc53 : ((((p.getD ((ex.num).toNat) Fn.zero).outs).length :Nat):Int) ≠ (p.getD ((ex.num).toNat) Fn.zero).params
                 ·
                  exact q_neq true rfl rfl (decide_eq_true hc53) (zS (e := 138) rfl rfl rfl) (lw_tvn 8 rfl (c_cond_t rfl (wp_seq (wp_plain _ [0] rfl (lw_tvn 1 rfl (wp_ret (b_ret (t_ret (post_ret [6] rfl (.bool false) rfl ⟨z231_0,hE44⟩)))))))))
                 ·
                  refine q_neq false rfl rfl (decide_eq_false hc53) (zS (e := 138) rfl rfl rfl) (lw_tv 1 rfl (q_fldP (p := (.pointer (some ⟨w1.heap.size,0,none⟩))) (b := w1.heap.size) (o := 0) 3 fd174_3 rfl rfl (zS (e := 145) rfl rfl rfl) (q_load (p := (padd (.pointer (some ⟨w1.heap.size,0,none⟩)) 3)) (.inr rfl) (.int .i64 ex.count) one2 rfl (hF46.ldp (i := 3) sM) (zS (e := 145) rfl rfl rfl) (lw_callq 72 [] [] [(.int .i64 ex.count),(.int .i64 ((0 :Nat):Int)),(.int .i64 ((8 :Nat):Int))] rfl rfl cf72 (zS (e := 145) rfl rfl rfl) (.bool (decide (((0 :Nat):Int) ≤ ex.count) && decide (ex.count ≤ ((8 :Nat):Int)))) (fun wq => c_impl_within wq _ _ _ hex.rng.count oM oM) (q_not (!(decide (((0 :Nat):Int) ≤ ex.count) && decide (ex.count ≤ ((8 :Nat):Int)))) rfl rfl (zS (e := 145) rfl rfl rfl) ?_)))))
                  refine lw_tvn 3 rfl ?_
                  cases hb55 : (!(decide (((0 :Nat):Int) ≤ ex.count) && decide (ex.count ≤ ((8 :Nat):Int))))
                  ·
                   exact c_cond_f (by first | rfl | (show Value.bool _ = _; rw [hb55])) (wp_skip ⟨(),_,rfl,⟨rfl,rfl,rfl,trivial⟩,⟨hE44,hF45,hF46,z231_1⟩⟩)
                  ·
                   exact c_cond_t (by first | rfl | (show Value.bool _ = _; rw [hb55])) (wp_seq (wp_plain _ [0] rfl (lw_tvn 1 rfl (wp_ret (b_ret (t_ret (post_ret [6] rfl (.bool false) rfl ⟨z231_0,hE44⟩)))))))
                ·
                 exact q_eql false rfl rfl (decide_eq_false hc52) (zS (e := 134) rfl rfl rfl) (lw_tvn 15 rfl (c_cond_f rfl (wp_skip ⟨(),_,rfl,⟨rfl,rfl,rfl,trivial⟩,⟨hE44,hF45,hF46,z231_1⟩⟩)))
              ·
               refine q_eql false rfl rfl (decide_eq_false hc50) zN (lw_tv 6 rfl (q_fldP (p := (.pointer (some ⟨w1.heap.size,0,none⟩))) (b := w1.heap.size) (o := 0) 0 fd174_0 rfl rfl (zS (e := 134) rfl rfl rfl) (q_load (p := (padd (.pointer (some ⟨w1.heap.size,0,none⟩)) 0)) (.inr rfl) (.int .i64 ex.kind) one2 rfl (hF46.ldp (i := 0) sM) (zS (e := 134) rfl rfl rfl) ?_)))
               by_cases hc56 : ex.kind = ((11 :Nat):Int)
               ·
                refine q_eql true rfl rfl (decide_eq_true hc56) (zS (e := 134) rfl rfl rfl) (lw_tv 1 rfl (q_fldP (p := (.pointer (some ⟨w33.heap.size,0,none⟩))) (b := w33.heap.size) (o := 0) 2 fd55_2 rfl rfl (zS (e := 138) rfl rfl rfl) (q_load (p := (padd (.pointer (some ⟨w33.heap.size,0,none⟩)) 2)) (.inr rfl) ve40 one53 rfl (hB44.ldp (i := 2) sM) (zS (e := 138) rfl rfl rfl) (q_len (v := ve40) u53 rfl hx40.rn.isSl (zS (e := 138) rfl rfl rfl) (q_fldP (p := (.pointer (some ⟨w33.heap.size,0,none⟩))) (b := w33.heap.size) (o := 0) 1 fd55_1 rfl rfl (zS (e := 138) rfl rfl rfl) (q_load (p := (padd (.pointer (some ⟨w33.heap.size,0,none⟩)) 1)) (.inr rfl) (.int .i64 ((p.getD ((ex.num).toNat) Fn.zero).params)) one2 rfl (hB44.ldp (i := 1) sM) (zS (e := 138) rfl rfl rfl) ?_))))))
                by_cases hc57 : ((((p.getD ((ex.num).toNat) Fn.zero).outs).length :Nat):Int) ≠ (p.getD ((ex.num).toNat) Fn.zero).params
                ·
                 exact q_neq true rfl rfl (decide_eq_true hc57) (zS (e := 138) rfl rfl rfl) (lw_tvn 8 rfl (c_cond_t rfl (wp_seq (wp_plain _ [0] rfl (lw_tvn 1 rfl (wp_ret (b_ret (t_ret (post_ret [6] rfl (.bool false) rfl ⟨z231_0,hE44⟩)))))))))
                ·
                 refine q_neq false rfl rfl (decide_eq_false hc57) (zS (e := 138) rfl rfl rfl) (lw_tv 1 rfl (q_fldP (p := (.pointer (some ⟨w1.heap.size,0,none⟩))) (b := w1.heap.size) (o := 0) 3 fd174_3 rfl rfl (zS (e := 145) rfl rfl rfl) (q_load (p := (padd (.pointer (some ⟨w1.heap.size,0,none⟩)) 3)) (.inr rfl) (.int .i64 ex.count) one2 rfl (hF46.ldp (i := 3) sM) (zS (e := 145) rfl rfl rfl) (lw_callq 72 [] [] [(.int .i64 ex.count),(.int .i64 ((0 :Nat):Int)),(.int .i64 ((8 :Nat):Int))] rfl rfl cf72 (zS (e := 145) rfl rfl rfl) (.bool (decide (((0 :Nat):Int) ≤ ex.count) && decide (ex.count ≤ ((8 :Nat):Int)))) (fun wq => c_impl_within wq _ _ _ hex.rng.count oM oM) (q_not (!(decide (((0 :Nat):Int) ≤ ex.count) && decide (ex.count ≤ ((8 :Nat):Int)))) rfl rfl (zS (e := 145) rfl rfl rfl) ?_)))))
                 refine lw_tvn 3 rfl ?_
                 cases hb59 : (!(decide (((0 :Nat):Int) ≤ ex.count) && decide (ex.count ≤ ((8 :Nat):Int))))
                 ·
                  exact c_cond_f (by first | rfl | (show Value.bool _ = _; rw [hb59])) (wp_skip ⟨(),_,rfl,⟨rfl,rfl,rfl,trivial⟩,⟨hE44,hF45,hF46,z231_1⟩⟩)
                 ·
                  exact c_cond_t (by first | rfl | (show Value.bool _ = _; rw [hb59])) (wp_seq (wp_plain _ [0] rfl (lw_tvn 1 rfl (wp_ret (b_ret (t_ret (post_ret [6] rfl (.bool false) rfl ⟨z231_0,hE44⟩)))))))
               ·
                exact q_eql false rfl rfl (decide_eq_false hc56) (zS (e := 134) rfl rfl rfl) (lw_tvn 15 rfl (c_cond_f rfl (wp_skip ⟨(),_,rfl,⟨rfl,rfl,rfl,trivial⟩,⟨hE44,hF45,hF46,z231_1⟩⟩)))
             ·
              exact c_cond_t (by first | rfl | (show Value.bool _ = _; rw [hb49])) (wp_seq (wp_plain _ [0] rfl (lw_tvn 1 rfl (wp_ret (t_ret (b_ret (t_ret (post_ret [6] rfl (.bool false) rfl ⟨z231_0,hE44⟩))))))))
           ·
            exact c_cond_t (by first | rfl | (show Value.bool _ = _; rw [hb39])) (wp_seq (wp_plain _ [0] rfl (lw_tvn 1 rfl (wp_ret (t_ret (b_ret (t_ret (post_ret [6] rfl (.bool false) rfl ⟨z231_0,hE33⟩))))))))
      ·
       refine c_cond_t (by first | rfl | (show Value.bool _ = _; rw [hb24])) (wp_seq (wp_plain _ [0,0,0,0,2,0,0,0,0,0,0] rfl ?_))
       have h5k := of_decide_eq_true (h5b.symm.trans ‹_›)
       clear h5b
       refine lw_tv 1 rfl (q_not (!pl) rfl rfl zN (lw_tv 1 rfl ?_))
       cases hb60 : (!pl)
       ·
        refine q_fldP (p := (.pointer (some ⟨w1.heap.size,0,none⟩))) (b := w1.heap.size) (o := 0) 1 fd174_1 rfl rfl (zS (e := 60) rfl rfl rfl) (q_load (p := (padd (.pointer (some ⟨w1.heap.size,0,none⟩)) 1)) (.inr rfl) (.int .i64 ex.num) one2 rfl (hL17_1.ldp (i := 1) sM) (zS (e := 60) rfl rfl rfl) ?_)
        by_cases hc61 : ex.num ≠ ((0 :Nat):Int)
        ·
         exact q_neq true rfl rfl (decide_eq_true hc61) (zS (e := 60) rfl rfl rfl) (lw_tvn 5 rfl (c_cond_t rfl (wp_seq (wp_plain _ [0] rfl (lw_tvn 1 rfl (wp_ret (b_ret (t_ret (post_ret [6] rfl (.bool false) rfl ⟨z231_0,hE17⟩)))))))))
        ·
         refine q_neq false rfl rfl (decide_eq_false hc61) (zS (e := 60) rfl rfl rfl) (lw_tv 3 rfl ?_)
         by_cases hc62 : ((ex.kids.length :Nat):Int) ≠ ((2 :Nat):Int)
         ·
          exact q_neq true rfl rfl (decide_eq_true hc62) (zS (e := 65) rfl rfl rfl) (lw_tvn 1 rfl (c_cond_t rfl (wp_seq (wp_plain _ [0] rfl (lw_tvn 1 rfl (wp_ret (b_ret (t_ret (post_ret [6] rfl (.bool false) rfl ⟨z231_0,hE17⟩)))))))))
         ·
          exact q_neq false rfl rfl (decide_eq_false hc62) (zS (e := 65) rfl rfl rfl) (lw_tvn 1 rfl (c_cond_f rfl (wp_skip ⟨(),_,rfl,⟨rfl,rfl,rfl,trivial⟩,⟨hE17,hL17_0,hL17_1,z231_1⟩⟩)))
       ·
        exact lw_tvn 8 rfl (c_cond_t rfl (wp_seq (wp_plain _ [0] rfl (lw_tvn 1 rfl (wp_ret (b_ret (t_ret (post_ret [6] rfl (.bool false) rfl ⟨z231_0,hE17⟩))))))))
  ·
   clear hL4_1 hL4_0 hE4 hzs4
   rintro u ρ8 w8 ⟨hE8,hL8_0,hL8_1,hwn⟩
   have hzs8 : w.heap.size ≤ w8.heap.size := hE8.size
   have hq63 := hL8_0.lt
   have hq64 := hL8_1.lt
   refine wp_seq (wp_seq (wp_plain _ [0,2,0,0] rfl (q_fldP (p := (.pointer (some ⟨w1.heap.size,0,none⟩))) (b := w1.heap.size) (o := 0) 4 fd174_4 rfl rfl zN (q_load (p := (padd (.pointer (some ⟨w1.heap.size,0,none⟩)) 4)) (.inr rfl) ve one53 rfl (hL8_1.ldp (i := 4) sM) zN (q_len (v := ve) u53 rfl hex.rn.isSl zN (lw_tvn 1 rfl (wp_block ?_)))))))
   refine c_loop (S := Nat) (fun (k : Nat) => ([(156,(.int .i64 ((k :Nat):Int))),(2,(.int .i64 vars)),(3,(.pointer (some ⟨w.heap.size,0,none⟩))),(4,(.pointer (some ⟨w1.heap.size,0,none⟩))),(154,ve),(155,(.int .i64 ((ex.kids.length :Nat):Int)))] : List (Nat × Value))) (fun (k : Nat) (W : World) => Ext w W ∧ BX W.heap w.heap.size [vp,(.int .i64 funcs)] ∧ BX W.heap w1.heap.size [(.int .i64 ex.kind),(.int .i64 ex.num),(.int .i64 ex.pick),(.int .i64 ex.count),ve] ∧ k ≤ ex.kids.length ∧ (∀ j,j < k → wf p funcs (ex.kids.getD j Ex.zero) (if ex.kind = 9 ∧ j = 1 then vars + 1 else vars) = true)) (fun (k : Nat) => ex.kids.length - k) 0 ⟨rfl,rfl,rfl,rfl,rfl,rfl,trivial⟩ ⟨hE8,hL8_0,hL8_1,sD,(by intro j hj; omega)⟩ ?_
   clear hL8_1 hL8_0 hE8 hzs8
   rintro k ρ65 w65 ⟨hE65,hL65_0,hL65_1,hp65_0,hall⟩
   have hzs65 : w.heap.size ≤ w65.heap.size := hE65.size
   have hq66 := hL65_0.lt
   have hq67 := hL65_1.lt
   refine wp_seq (wp_plain _ [0] rfl ?_)
   by_cases hc68 : ((k :Nat):Int) < ((ex.kids.length :Nat):Int)
   ·
    refine q_lss true rfl rfl (decide_eq_true hc68) zN (lw_nil (wp_seq (c_cond_t rfl (wp_skip (wp_seq (wp_block (wp_seq (wp_plain _ [0,0,2,3,0,4] rfl ?_))))))))
    have hkd := kd_at (l := ex.kids) (k := k) oM
    refine lw_tv 1 rfl (q_idx (v := ve) k u53 tiS174 rfl rfl hex.rn.isSl rfl sD zN ?_)
    obtain ⟨cs69,hr69,hl69⟩ := hex.rn.get (good_rEx dex) Ex.zero (k := k) sD
    obtain ⟨dd69,ve69,hd69,rfl,hx69⟩ := RX.of hr69
    have hln69 := hx69.rn.lenle
    unfold maxLen at hln69
    refine q_loadA (p := eptr ve k 5) (.inr rfl) [(.int .i64 ((ex.kids.getD k Ex.zero).kind)),(.int .i64 ((ex.kids.getD k Ex.zero).num)),(.int .i64 ((ex.kids.getD k Ex.zero).pick)),(.int .i64 ((ex.kids.getD k Ex.zero).count)),ve69] agg174 rfl (fun wq9 hw9 => hl69 wq9 (Chg.of_ext [] (hE65.trans hw9))) rfl zN ?_
    have hq71 := hL65_0.lt
    have hq72 := hL65_1.lt
    refine r_allocA (z := .agg #[.int .i64 0,.int .i64 0,.int .i64 0,.int .i64 0,.slice none 0 0]) zr174 zN fun w70 hX70 hz70 hB70 => ?_
    have hzs70:=hX70.size
    have hE70:=hE65.trans hX70
    have hL65_0x70 := hL65_0.ext hX70
    have hL65_1x70 := hL65_1.ext hX70
    replace hB70 : BX w70.heap w65.heap.size [(.int .i64 0),(.int .i64 0),(.int .i64 0),(.int .i64 0),(.slice none 0 0)] := hB70
    refine lw_tv 1 rfl (e_setA (vs := [(.int .i64 ((ex.kids.getD k Ex.zero).kind)),(.int .i64 ((ex.kids.getD k Ex.zero).num)),(.int .i64 ((ex.kids.getD k Ex.zero).pick)),(.int .i64 ((ex.kids.getD k Ex.zero).count)),ve69]) agg174 rfl rfl hx69.ones hB70 rfl rfl zN fun w73 hC73 hz73 hB73 => ?_)
    replace hB73 : BX w73.heap w65.heap.size [(.int .i64 ((ex.kids.getD k Ex.zero).kind)),(.int .i64 ((ex.kids.getD k Ex.zero).num)),(.int .i64 ((ex.kids.getD k Ex.zero).pick)),(.int .i64 ((ex.kids.getD k Ex.zero).count)),ve69] := hB73
    have hE73 : Ext w w73 := hC73.below hE70 (fun c hc => by have := List.mem_singleton.1 hc; omega) hE70.size
    have hzs73:=hC73.size
    have hF74 := hL65_0x70.chg hC73 (fun hm => by have := List.mem_singleton.1 hm; omega)
    have hF75 := hL65_1x70.chg hC73 (fun hm => by have := List.mem_singleton.1 hm; omega)
    refine lw_nil (wp_seq (wp_plain _ [0,0] rfl (lw_tvn 2 rfl (wp_seq (wp_seq (wp_plain _ [0,2,0,0,0,0,0] rfl (q_fldP (p := (.pointer (some ⟨w1.heap.size,0,none⟩))) (b := w1.heap.size) (o := 0) 0 fd174_0 rfl rfl zN (q_load (p := (padd (.pointer (some ⟨w1.heap.size,0,none⟩)) 0)) (.inr rfl) (.int .i64 ex.kind) one2 rfl (hF75.ldp (i := 0) sM) zN ?_))))))))
    by_cases hc76 : ex.kind = ((9 :Nat):Int)
    ·
     refine q_eql true rfl rfl (decide_eq_true hc76) zN (lw_tv 2 rfl ?_)
     by_cases hc77 : ((k :Nat):Int) = ((1 :Nat):Int)
     ·
      refine q_eql true rfl rfl (decide_eq_true hc77) (zS (e := 165) rfl rfl rfl) (lw_tvn 1 rfl (c_cond_t rfl (wp_plain _ [0,0,0] rfl (lw_tv 1 rfl (q_add (vars + 1) rfl rfl (w64 oM oM) zN (lw_tvn 1 rfl (wp_seq (wp_plain _ [2,2,0,3,0] rfl (q_loadA (p := (.pointer (some ⟨w.heap.size,0,none⟩))) (.inr rfl) [vp,(.int .i64 funcs)] agg237 rfl (fun wq9 hw9 => LD.of_box (BX.ext (w := w73) hF74 hw9)) rfl zN (q_loadA (p := (.pointer (some ⟨w65.heap.size,0,none⟩))) (.inr rfl) [(.int .i64 ((ex.kids.getD k Ex.zero).kind)),(.int .i64 ((ex.kids.getD k Ex.zero).num)),(.int .i64 ((ex.kids.getD k Ex.zero).pick)),(.int .i64 ((ex.kids.getD k Ex.zero).count)),ve69] agg174 rfl (fun wq9 hw9 => LD.of_box (BX.ext (w := w73) hB73 hw9)) rfl zN (lw_tv 1 rfl ?_)))))))))))
      refine lw_call 231 [] [] [(.agg #[vp,(.int .i64 funcs)]),(.agg #[(.int .i64 ((ex.kids.getD k Ex.zero).kind)),(.int .i64 ((ex.kids.getD k Ex.zero).num)),(.int .i64 ((ex.kids.getD k Ex.zero).pick)),(.int .i64 ((ex.kids.getD k Ex.zero).count)),ve69]),(.int .i64 (vars + 1))] rfl rfl cf231 zN (ih dd69 oM _ dp vp (p) (funcs) ve69 (ex.kids.getD k Ex.zero) _ (hp.ext (good_rdS (good_rFn dp)) hE73) _hfuncs (hx69.ext hE73) oM oM oM) ?_
      rintro e78 w78 ⟨rfl,hX78⟩
      refine ⟨_,rfl,hX78,?_⟩
      have hzs78:=hX78.size
      have hE78:=hE73.trans hX78
      have hF74x78 := hF74.ext hX78
      have hF75x78 := hF75.ext hX78
      have hB73x78 := hB73.ext hX78
      refine q_not (!(wf p funcs (ex.kids.getD k Ex.zero) (vars + 1))) rfl rfl zN (lw_nil ?_)
      cases hb79 : (!(wf p funcs (ex.kids.getD k Ex.zero) (vars + 1)))
      ·
       refine c_cond_f (by first | rfl | (show Value.bool _ = _; rw [hb79])) (wp_skip (wp_plain _ [0,0] rfl (q_add ((k + 1 :Nat):Int) rfl rfl (w64n oM sD) zN (lw_tvn 1 rfl ?_))))
       exact ⟨(k + 1),_,rfl,⟨rfl,rfl,rfl,rfl,rfl,rfl,trivial⟩,⟨hE78,hF74x78,hF75x78,sD,z231_2⟩,by first | omega | (dsimp only; omega)⟩
      ·
       exact c_cond_t (by first | rfl | (show Value.bool _ = _; rw [hb79])) (wp_seq (wp_plain _ [0] rfl (lw_tvn 1 rfl (wp_ret (b_ret (t_ret (t_ret (b_ret (t_ret (post_ret [6] rfl (.bool false) rfl ⟨z231_0,hE78⟩))))))))))
     ·
      refine q_eql false rfl rfl (decide_eq_false hc77) (zS (e := 165) rfl rfl rfl) (lw_tvn 1 rfl (c_cond_f rfl (wp_skip (wp_seq (wp_plain _ [2,2,0,3,0] rfl (q_loadA (p := (.pointer (some ⟨w.heap.size,0,none⟩))) (.inr rfl) [vp,(.int .i64 funcs)] agg237 rfl (fun wq9 hw9 => LD.of_box (BX.ext (w := w73) hF74 hw9)) rfl zN (q_loadA (p := (.pointer (some ⟨w65.heap.size,0,none⟩))) (.inr rfl) [(.int .i64 ((ex.kids.getD k Ex.zero).kind)),(.int .i64 ((ex.kids.getD k Ex.zero).num)),(.int .i64 ((ex.kids.getD k Ex.zero).pick)),(.int .i64 ((ex.kids.getD k Ex.zero).count)),ve69] agg174 rfl (fun wq9 hw9 => LD.of_box (BX.ext (w := w73) hB73 hw9)) rfl zN (lw_tv 1 rfl ?_))))))))
      refine lw_call 231 [] [] [(.agg #[vp,(.int .i64 funcs)]),(.agg #[(.int .i64 ((ex.kids.getD k Ex.zero).kind)),(.int .i64 ((ex.kids.getD k Ex.zero).num)),(.int .i64 ((ex.kids.getD k Ex.zero).pick)),(.int .i64 ((ex.kids.getD k Ex.zero).count)),ve69]),(.int .i64 vars)] rfl rfl cf231 zN (ih dd69 oM _ dp vp (p) (funcs) ve69 (ex.kids.getD k Ex.zero) _ (hp.ext (good_rdS (good_rFn dp)) hE73) _hfuncs (hx69.ext hE73) _hvars oM oM) ?_
      rintro e80 w80 ⟨rfl,hX80⟩
      refine ⟨_,rfl,hX80,?_⟩
      have hzs80:=hX80.size
      have hE80:=hE73.trans hX80
      have hF74x80 := hF74.ext hX80
      have hF75x80 := hF75.ext hX80
      have hB73x80 := hB73.ext hX80
      refine q_not (!(wf p funcs (ex.kids.getD k Ex.zero) vars)) rfl rfl zN (lw_nil ?_)
      cases hb81 : (!(wf p funcs (ex.kids.getD k Ex.zero) vars))
      ·
       refine c_cond_f (by first | rfl | (show Value.bool _ = _; rw [hb81])) (wp_skip (wp_plain _ [0,0] rfl (q_add ((k + 1 :Nat):Int) rfl rfl (w64n oM sD) zN (lw_tvn 1 rfl ?_))))
       exact ⟨(k + 1),_,rfl,⟨rfl,rfl,rfl,rfl,rfl,rfl,trivial⟩,⟨hE80,hF74x80,hF75x80,sD,z231_2⟩,by first | omega | (dsimp only; omega)⟩
      ·
       exact c_cond_t (by first | rfl | (show Value.bool _ = _; rw [hb81])) (wp_seq (wp_plain _ [0] rfl (lw_tvn 1 rfl (wp_ret (b_ret (t_ret (t_ret (b_ret (t_ret (post_ret [6] rfl (.bool false) rfl ⟨z231_0,hE80⟩))))))))))
    ·
     refine q_eql false rfl rfl (decide_eq_false hc76) zN (lw_tvn 4 rfl (c_cond_f rfl (wp_skip (wp_seq (wp_plain _ [2,2,0,3,0] rfl (q_loadA (p := (.pointer (some ⟨w.heap.size,0,none⟩))) (.inr rfl) [vp,(.int .i64 funcs)] agg237 rfl (fun wq9 hw9 => LD.of_box (BX.ext (w := w73) hF74 hw9)) rfl zN (q_loadA (p := (.pointer (some ⟨w65.heap.size,0,none⟩))) (.inr rfl) [(.int .i64 ((ex.kids.getD k Ex.zero).kind)),(.int .i64 ((ex.kids.getD k Ex.zero).num)),(.int .i64 ((ex.kids.getD k Ex.zero).pick)),(.int .i64 ((ex.kids.getD k Ex.zero).count)),ve69] agg174 rfl (fun wq9 hw9 => LD.of_box (BX.ext (w := w73) hB73 hw9)) rfl zN (lw_tv 1 rfl ?_))))))))
     refine lw_call 231 [] [] [(.agg #[vp,(.int .i64 funcs)]),(.agg #[(.int .i64 ((ex.kids.getD k Ex.zero).kind)),(.int .i64 ((ex.kids.getD k Ex.zero).num)),(.int .i64 ((ex.kids.getD k Ex.zero).pick)),(.int .i64 ((ex.kids.getD k Ex.zero).count)),ve69]),(.int .i64 vars)] rfl rfl cf231 zN (ih dd69 oM _ dp vp (p) (funcs) ve69 (ex.kids.getD k Ex.zero) _ (hp.ext (good_rdS (good_rFn dp)) hE73) _hfuncs (hx69.ext hE73) _hvars oM oM) ?_
     rintro e82 w82 ⟨rfl,hX82⟩
     refine ⟨_,rfl,hX82,?_⟩
     have hzs82:=hX82.size
     have hE82:=hE73.trans hX82
     have hF74x82 := hF74.ext hX82
     have hF75x82 := hF75.ext hX82
     have hB73x82 := hB73.ext hX82
     refine q_not (!(wf p funcs (ex.kids.getD k Ex.zero) vars)) rfl rfl zN (lw_nil ?_)
     cases hb83 : (!(wf p funcs (ex.kids.getD k Ex.zero) vars))
     ·
      refine c_cond_f (by first | rfl | (show Value.bool _ = _; rw [hb83])) (wp_skip (wp_plain _ [0,0] rfl (q_add ((k + 1 :Nat):Int) rfl rfl (w64n oM sD) zN (lw_tvn 1 rfl ?_))))
      exact ⟨(k + 1),_,rfl,⟨rfl,rfl,rfl,rfl,rfl,rfl,trivial⟩,⟨hE82,hF74x82,hF75x82,sD,z231_2⟩,by first | omega | (dsimp only; omega)⟩
     ·
      exact c_cond_t (by first | rfl | (show Value.bool _ = _; rw [hb83])) (wp_seq (wp_plain _ [0] rfl (lw_tvn 1 rfl (wp_ret (b_ret (t_ret (t_ret (b_ret (t_ret (post_ret [6] rfl (.bool false) rfl ⟨z231_0,hE82⟩))))))))))
   ·
    exact q_lss false rfl rfl (decide_eq_false hc68) zN (lw_nil (wp_seq (c_cond_f rfl (wp_exit (t_exit (t_exit (c_exit_here (wp_seq (wp_plain _ [0] rfl (lw_tvn 1 rfl (wp_ret (post_ret [6] rfl (.bool true) rfl ⟨z231_0,hE65⟩))))))))))))
end Go.Proofs.YtnokbaiemimhjaaGreat
namespace Go.Proofs.YtnokbaiemimhjaaGreat
open Go Go.RowKit
set_option linter.unusedVariables false
set_option linter.unusedSimpArgs false
set_option maxHeartbeats 4000000
set_option maxRecDepth 100000
attribute [local irreducible] LW
theorem nm_bad {s : ByteArray} {k : Nat} (hk : k < s.size) (h : (sAt s k < 97 ∨ 122 < sAt s k) ∧ (k = 0 ∨ sAt s k < 48 ∨ 57 < sAt s k)) : false = nmB s := by
  have hc : chB s k = false := by
    unfold chB
    rcases h with ⟨h1 | h1, h2 | h2 | h2⟩ <;> simp <;> omega
  unfold nmB
  rw [allR_fail hk hc, Bool.and_false]
theorem ch_ok {s : ByteArray} {k : Nat} (h : (97 ≤ sAt s k ∧ sAt s k ≤ 122) ∨ (k ≠ 0 ∧ 48 ≤ sAt s k ∧ sAt s k ≤ 57)) : chB s k = true := by
  unfold chB
  rcases h with h | h <;> simp <;> omega
theorem nm_end {s : ByteArray} {k : Nat} {b : Bool} (h : (List.range k).all (chB s) = true) (hk : k = s.size) (hb : b = (decide (1 ≤ s.size) && decide (s.size ≤ 12))) : b = nmB s := by
  subst hk
  unfold nmB
  rw [h, Bool.and_true, hb]
theorem z194_0 {p : Prop} (h : p := by first | exact ret_bool (nm_bad (k := k) oM oM) | exact ret_bool (nm_end hq oM (by first | (rw [decide_eq_true (show 1 ≤ s.size by omega), Bool.true_and]; exact decide_eq_decide.2 oM) | (rw [decide_eq_false (show ¬ 1 ≤ s.size by omega)]; rfl)))) : p := h
theorem c_impl_IsName (w : World) (s : ByteArray)  (hl : s.size ≤ 1000000000) :
  Calls Tryz.prog 194 #[.string s] w (fun e w' => e = .returned (.bool (nmB s)) ∧ w' = w) := by
 refine calls_mk [.string s] 44 Tryz.func194 rfl rfl sM ?_
 have hE0 : w = w := rfl
 refine wp_seq (wp_plain _ [0] rfl (lw_tvn 1 rfl (wp_seq (wp_seq (wp_plain _ [0,0,0] rfl (lw_tv 1 rfl (q_lens (s := s) u9 rfl zN (lw_tvn 1 rfl (wp_block ?_)))))))))
 refine c_loop (S := Nat) (fun (k : Nat) => ([(6,(.int .i64 ((k :Nat):Int))),(0,(.string s)),(5,(.int .i64 ((s.size :Nat):Int)))] : List (Nat × Value))) (fun (k : Nat) (W : World) => W = w ∧ k ≤ s.size ∧ (List.range k).all (chB s) = true) (fun (k : Nat) => s.size - k) 0 ⟨rfl,rfl,rfl,trivial⟩ ⟨hE0,sD,(by rfl)⟩ ?_
 clear hE0
 rintro k ρ1 w1 ⟨hE1,hp1_0,hq⟩
 refine wp_seq (wp_plain _ [0] rfl ?_)
 by_cases hc2 : ((k :Nat):Int) < ((s.size :Nat):Int)
 ·
  refine q_lss true rfl rfl (decide_eq_true hc2) zN (lw_nil (wp_seq (c_cond_t rfl (wp_skip (wp_seq (wp_block (wp_seq (wp_plain _ [0,0] rfl (lw_tvn 2 rfl (wp_seq (wp_plain _ [0,0,0,0,0,0,0,0,0,0,0,0,0,0,0,0,0,0,0,0,0,0,0,0,0,0] rfl (lw_tv 2 rfl (q_index (s := s) k u9 rfl rfl rfl sD zN ?_)))))))))))))
  by_cases hc3 : ((sAt s k :Nat):Int) < 97
  ·
   refine q_lss true rfl rfl (decide_eq_true hc3) zN (lw_tv 8 rfl ?_)
   by_cases hc4 : ((k :Nat):Int) = ((0 :Nat):Int)
   ·
    exact q_eql true rfl rfl (decide_eq_true hc4) (zS (e := 19) rfl rfl rfl) (lw_tvn 13 rfl (c_cond_t rfl (wp_seq (wp_plain _ [0] rfl (lw_tvn 1 rfl (wp_ret (b_ret (t_ret (t_ret (b_ret (t_ret (post_ret [2] rfl (.bool false) rfl ⟨z194_0,hE1⟩))))))))))))
   ·
    refine q_eql false rfl rfl (decide_eq_false hc4) (zS (e := 19) rfl rfl rfl) (lw_tv 3 rfl (q_index (s := s) k u9 rfl rfl rfl sD (zS (e := 22) rfl rfl rfl) ?_))
    by_cases hc5 : ((sAt s k :Nat):Int) < 48
    ·
     exact q_lss true rfl rfl (decide_eq_true hc5) (zS (e := 22) rfl rfl rfl) (lw_tvn 8 rfl (c_cond_t rfl (wp_seq (wp_plain _ [0] rfl (lw_tvn 1 rfl (wp_ret (b_ret (t_ret (t_ret (b_ret (t_ret (post_ret [2] rfl (.bool false) rfl ⟨z194_0,hE1⟩))))))))))))
    ·
     refine q_lss false rfl rfl (decide_eq_false hc5) (zS (e := 22) rfl rfl rfl) (lw_tv 4 rfl (q_index (s := s) k u9 rfl rfl rfl sD (zS (e := 28) rfl rfl rfl) ?_))
     by_cases hc6 : 57 < ((sAt s k :Nat):Int)
     ·
      exact q_gtr true rfl rfl (decide_eq_true hc6) (zS (e := 28) rfl rfl rfl) (lw_tvn 2 rfl (c_cond_t rfl (wp_seq (wp_plain _ [0] rfl (lw_tvn 1 rfl (wp_ret (b_ret (t_ret (t_ret (b_ret (t_ret (post_ret [2] rfl (.bool false) rfl ⟨z194_0,hE1⟩))))))))))))
     ·
      refine q_gtr false rfl rfl (decide_eq_false hc6) (zS (e := 28) rfl rfl rfl) (lw_tvn 2 rfl (c_cond_f rfl (wp_skip (wp_plain _ [0,0] rfl (q_add ((k + 1 :Nat):Int) rfl rfl (w64n oM sD) zN (lw_tvn 1 rfl ?_))))))
      exact ⟨(k + 1),_,rfl,⟨rfl,rfl,rfl,trivial⟩,⟨hE1,sD,(by exact allR_succ hq (ch_ok oM))⟩,by first | omega | (dsimp only; omega)⟩
  ·
   refine q_lss false rfl rfl (decide_eq_false hc3) zN (lw_tv 3 rfl (q_index (s := s) k u9 rfl rfl rfl sD (zS (e := 13) rfl rfl rfl) ?_))
   by_cases hc7 : 122 < ((sAt s k :Nat):Int)
   ·
    refine q_gtr true rfl rfl (decide_eq_true hc7) (zS (e := 13) rfl rfl rfl) (lw_tv 3 rfl ?_)
    by_cases hc8 : ((k :Nat):Int) = ((0 :Nat):Int)
    ·
     exact q_eql true rfl rfl (decide_eq_true hc8) (zS (e := 19) rfl rfl rfl) (lw_tvn 13 rfl (c_cond_t rfl (wp_seq (wp_plain _ [0] rfl (lw_tvn 1 rfl (wp_ret (b_ret (t_ret (t_ret (b_ret (t_ret (post_ret [2] rfl (.bool false) rfl ⟨z194_0,hE1⟩))))))))))))
    ·
     refine q_eql false rfl rfl (decide_eq_false hc8) (zS (e := 19) rfl rfl rfl) (lw_tv 3 rfl (q_index (s := s) k u9 rfl rfl rfl sD (zS (e := 22) rfl rfl rfl) ?_))
     by_cases hc9 : ((sAt s k :Nat):Int) < 48
     ·
      exact q_lss true rfl rfl (decide_eq_true hc9) (zS (e := 22) rfl rfl rfl) (lw_tvn 8 rfl (c_cond_t rfl (wp_seq (wp_plain _ [0] rfl (lw_tvn 1 rfl (wp_ret (b_ret (t_ret (t_ret (b_ret (t_ret (post_ret [2] rfl (.bool false) rfl ⟨z194_0,hE1⟩))))))))))))
     ·
      refine q_lss false rfl rfl (decide_eq_false hc9) (zS (e := 22) rfl rfl rfl) (lw_tv 4 rfl (q_index (s := s) k u9 rfl rfl rfl sD (zS (e := 28) rfl rfl rfl) ?_))
      by_cases hc10 : 57 < ((sAt s k :Nat):Int)
      ·
       exact q_gtr true rfl rfl (decide_eq_true hc10) (zS (e := 28) rfl rfl rfl) (lw_tvn 2 rfl (c_cond_t rfl (wp_seq (wp_plain _ [0] rfl (lw_tvn 1 rfl (wp_ret (b_ret (t_ret (t_ret (b_ret (t_ret (post_ret [2] rfl (.bool false) rfl ⟨z194_0,hE1⟩))))))))))))
      ·
       refine q_gtr false rfl rfl (decide_eq_false hc10) (zS (e := 28) rfl rfl rfl) (lw_tvn 2 rfl (c_cond_f rfl (wp_skip (wp_plain _ [0,0] rfl (q_add ((k + 1 :Nat):Int) rfl rfl (w64n oM sD) zN (lw_tvn 1 rfl ?_))))))
       exact ⟨(k + 1),_,rfl,⟨rfl,rfl,rfl,trivial⟩,⟨hE1,sD,(by exact allR_succ hq (ch_ok oM))⟩,by first | omega | (dsimp only; omega)⟩
   ·
    refine q_gtr false rfl rfl (decide_eq_false hc7) (zS (e := 13) rfl rfl rfl) (lw_tvn 17 rfl (c_cond_f rfl (wp_skip (wp_plain _ [0,0] rfl (q_add ((k + 1 :Nat):Int) rfl rfl (w64n oM sD) zN (lw_tvn 1 rfl ?_))))))
    exact ⟨(k + 1),_,rfl,⟨rfl,rfl,rfl,trivial⟩,⟨hE1,sD,(by exact allR_succ hq (ch_ok oM))⟩,by first | omega | (dsimp only; omega)⟩
 ·
  refine q_lss false rfl rfl (decide_eq_false hc2) zN (lw_nil (wp_seq (c_cond_f rfl (wp_exit (t_exit (t_exit (c_exit_here (wp_seq (wp_plain _ [0,0,0,0,0,0,0,0,0] rfl (lw_tv 1 rfl (q_lens (s := s) u9 rfl zN ?_)))))))))))
  by_cases hc11 : ((1 :Nat):Int) ≤ ((s.size :Nat):Int)
  ·
   exact q_geq true rfl rfl (decide_eq_true hc11) zN (lw_tv 2 rfl (q_lens (s := s) u9 rfl (zS (e := 39) rfl rfl rfl) (q_leq (decide (((s.size :Nat):Int) ≤ ((12 :Nat):Int))) rfl rfl rfl (zS (e := 39) rfl rfl rfl) (lw_tvn 2 rfl (wp_ret (post_ret [2] rfl (.bool (decide (((s.size :Nat):Int) ≤ ((12 :Nat):Int)))) rfl ⟨z194_0,hE1⟩))))))
  ·
   exact q_geq false rfl rfl (decide_eq_false hc11) zN (lw_tvn 6 rfl (wp_ret (post_ret [2] rfl (.bool false) rfl ⟨z194_0,hE1⟩)))
theorem c_impl_ValidProgram_1 (w : World) (dx : Nat) (vo : Value) (x : Fn) (bf : Nat) (vf : Value) (f : Fn) (hx : RF [] dx w.heap vo x) (hBf : BX w.heap bf [.string f.name,.int .i64 f.params,vf])  :
  Calls Tryz.prog 196 #[(.agg #[(.string x.name),(.int .i64 x.params),vo]),.pointer (some ⟨bf,0,none⟩)] w (fun e w' => e = .returned (.bool (strE x.name f.name)) ∧ Ext w w') := by
 refine calls_mk [(.agg #[(.string x.name),(.int .i64 x.params),vo]),.pointer (some ⟨bf,0,none⟩)] 9 Tryz.func196 rfl rfl sM ?_
 have hE0 : Ext w w := Ext.refl w
 have hl_vo := hx.rn.lenle
 unfold maxLen at hl_vo
 refine wp_seq (wp_plain _ [3,0] rfl ?_)
 have hq2 := hBf.lt
 refine r_boxA (cs := #[(.string x.name),(.int .i64 x.params),vo]) rfl zN fun w1 hX1 hz1 hB1 => ?_
 have hzs1:=hX1.size
 have hE1:=hE0.trans hX1
 have hBfx1 := hBf.ext hX1
 replace hB1 : BX w1.heap w.heap.size [(.string x.name),(.int .i64 x.params),vo] := hB1
 exact lw_tvn 1 rfl (wp_seq (wp_plain _ [0,2,0,2,0,0] rfl (q_fldP (p := (.pointer (some ⟨w.heap.size,0,none⟩))) (b := w.heap.size) (o := 0) 0 fd55_0 rfl rfl zN (q_load (p := (padd (.pointer (some ⟨w.heap.size,0,none⟩)) 0)) (.inr rfl) (.string x.name) one9 rfl (hB1.ldp (i := 0) sM) zN (q_fldP (p := (.pointer (some ⟨bf,0,none⟩))) (b := bf) (o := 0) 0 fd55_0 rfl rfl zN (q_load (p := (padd (.pointer (some ⟨bf,0,none⟩)) 0)) (.inr rfl) (.string f.name) one9 rfl (hBfx1.ldp (i := 0) sM) zN (q_eqls (strE x.name f.name) u9 rfl rfl rfl zN (lw_tvn 1 rfl (wp_ret (post_ret [3] rfl (.bool (strE x.name f.name)) rfl ⟨rfl,hE1⟩))))))))))
theorem c_slices_IndexFunc___impl_Func_impl_Func_ (w : World) (da : Nat) (va : Value) (a : List Fn) (q : Nat) (qf qc : List Value) (pr : Fn → Bool) (ha : RP [] da w.heap va a) (hcf_q : ((Tryz.prog.funcs[q]?).map fun fn => (fn.name != "runtime.NumGoroutine") && fn.body.isSome) = some true) (hpr : ∀ (d9 : Nat) (u : Value) (x : Fn) w1,RF [] d9 w1.heap u x → Ext w w1 → Calls Tryz.prog q (qf ++ [Value.agg #[Value.string x.name,Value.int .i64 x.params,u]] ++ qc).toArray w1 (fun e w2 => e = .returned (.bool (pr x)) ∧ Ext w1 w2))  :
  Calls Tryz.prog 228 #[va,.func (.func q) qf.toArray qc.toArray] w (fun e w' => e = .returned (.int .i64 (ixF pr a)) ∧ Ext w w') := by
 refine calls_mk [va,.func (.func q) qf.toArray qc.toArray] 19 Tryz.func228 rfl rfl sM ?_
 have hE0 : Ext w w := Ext.refl w
 have hl_va := ha.lenle
 unfold maxLen at hl_va
 refine wp_seq (wp_plain _ [0] rfl (lw_tvn 1 rfl (wp_seq (wp_seq (wp_plain _ [0,0,0] rfl (lw_tv 1 rfl (q_len (v := va) u24 rfl ha.isSl zN (lw_tvn 1 rfl (wp_block ?_)))))))))
 refine c_loop (S := Nat) (fun (k : Nat) => ([(8,(.int .i64 ((k :Nat):Int))),(0,va),(1,(.func (.func q) qf.toArray qc.toArray)),(7,(.int .i64 ((a.length :Nat):Int)))] : List (Nat × Value))) (fun (k : Nat) (W : World) => Ext w W ∧ k ≤ a.length ∧ (∀ j,j < k → pr (a.getD j Fn.zero) = false)) (fun (k : Nat) => a.length - k) 0 ⟨rfl,rfl,rfl,rfl,trivial⟩ ⟨hE0,sD,(by intro j hj; omega)⟩ ?_
 clear hE0
 rintro k ρ1 w1 ⟨hE1,hp1_0,hq⟩
 have hzs1 : w.heap.size ≤ w1.heap.size := hE1.size
 refine wp_seq (wp_plain _ [0] rfl ?_)
 by_cases hc2 : ((k :Nat):Int) < ((a.length :Nat):Int)
 ·
  refine q_lss true rfl rfl (decide_eq_true hc2) zN (lw_nil (wp_seq (c_cond_t rfl (wp_skip (wp_seq (wp_block (wp_seq (wp_plain _ [0,0] rfl (lw_tvn 2 rfl (wp_seq (wp_plain _ [0,0,0,0,2,3] rfl (lw_tv 3 rfl (q_idx (v := va) k u24 tiS55 rfl rfl ha.isSl rfl sD zN ?_)))))))))))))
  obtain ⟨cs3,hr3,hl3⟩ := ha.get (good_rFn da) Fn.zero (k := k) sD
  obtain ⟨ve3,rfl,hx3⟩ := RF.of hr3
  have hln3 := hx3.rn.lenle
  unfold maxLen at hln3
  refine q_loadA (p := eptr va k 3) (.inr rfl) [(.string ((a.getD k Fn.zero).name)),(.int .i64 ((a.getD k Fn.zero).params)),ve3] agg55 rfl (fun wq9 hw9 => hl3 wq9 (Chg.of_ext [] (hE1.trans hw9))) rfl zN ?_
  have hcall4 := hpr da ve3 (a.getD k Fn.zero) w1 ⟨hx3.rng,(hx3.rn.ext (good_rdS (good_rEx da)) hE1)⟩ hE1
  refine lw_call q qf qc _ rfl rfl hcf_q zN hcall4 ?_
  rintro e4 w4 ⟨rfl,hX4⟩
  refine ⟨_,rfl,hX4,?_⟩
  have hzs4:=hX4.size
  have hE4:=hE1.trans hX4
  cases hc4 : pr (a.getD k Fn.zero)
  ·
   refine lw_nil (c_cond_f rfl (wp_skip (wp_plain _ [0,0] rfl (q_add ((k + 1 :Nat):Int) rfl rfl (w64n oM sD) zN (lw_tvn 1 rfl ?_)))))
   exact ⟨(k + 1),_,rfl,⟨rfl,rfl,rfl,rfl,trivial⟩,⟨hE4,sD,(by exact ix_step hq (by assumption))⟩,by first | omega | (dsimp only; omega)⟩
  ·
   exact lw_nil (c_cond_t rfl (wp_seq (wp_plain _ [0,0] rfl (lw_tvn 2 rfl (wp_ret (b_ret (t_ret (t_ret (b_ret (t_ret (post_ret [4] rfl (.int .i64 ((k :Nat):Int)) rfl ⟨(ret_int (ix_yes Fn.zero hq oM (by assumption))),hE4⟩)))))))))))
 ·
  exact q_lss false rfl rfl (decide_eq_false hc2) zN (lw_nil (wp_seq (c_cond_f rfl (wp_exit (t_exit (t_exit (c_exit_here (wp_seq (wp_plain _ [0] rfl (lw_tvn 1 rfl (wp_ret (post_ret [4] rfl (.int .i64 (-1)) rfl ⟨(ret_int (ix_no Fn.zero hq oM)),hE1⟩))))))))))))
theorem c_slices_ContainsFunc___impl_Func_impl_Func_ (w : World) (da : Nat) (va : Value) (a : List Fn) (q : Nat) (qf qc : List Value) (pr : Fn → Bool) (ha : RP [] da w.heap va a) (hcf_q : ((Tryz.prog.funcs[q]?).map fun fn => (fn.name != "runtime.NumGoroutine") && fn.body.isSome) = some true) (hpr : ∀ (d9 : Nat) (u : Value) (x : Fn) w1,RF [] d9 w1.heap u x → Ext w w1 → Calls Tryz.prog q (qf ++ [Value.agg #[Value.string x.name,Value.int .i64 x.params,u]] ++ qc).toArray w1 (fun e w2 => e = .returned (.bool (pr x)) ∧ Ext w1 w2))  :
  Calls Tryz.prog 195 #[va,.func (.func q) qf.toArray qc.toArray] w (fun e w' => e = .returned (.bool (a.any pr)) ∧ Ext w w') := by
 refine calls_mk [va,.func (.func q) qf.toArray qc.toArray] 9 Tryz.func195 rfl rfl sM ?_
 have hE0 : Ext w w := Ext.refl w
 have hl_va := ha.lenle
 unfold maxLen at hl_va
 refine wp_seq (wp_plain _ [0] rfl (lw_tvn 1 rfl (wp_seq (wp_plain _ [0,0,3,0,0] rfl (lw_tv 2 rfl (lw_call 228 [] [] [va,(.func (.func q) qf.toArray qc.toArray)] rfl rfl cf228 zN (c_slices_IndexFunc___impl_Func_impl_Func_ _ da va (a) q qf qc pr (ha.ext (good_rdS (good_rFn da)) hE0) hcf_q (fun d9 u x w1 hx hw => hpr d9 u x w1 hx (hE0.trans hw))) ?_))))))
 rintro e1 w1 ⟨rfl,hX1⟩
 refine ⟨_,rfl,hX1,?_⟩
 have hzs1:=hX1.size
 have hE1:=hE0.trans hX1
 exact q_geq (decide (((0 :Nat):Int) ≤ ixF pr a)) rfl rfl rfl zN (lw_tvn 1 rfl (wp_ret (post_ret [4] rfl (.bool (decide (((0 :Nat):Int) ≤ ixF pr a))) rfl ⟨(ret_bool (ix_ge pr a)),hE1⟩)))
theorem c_impl_areVars (w : World) (vars : Int) (_hvars : -9223372036854775808 ≤ vars ∧ vars ≤ 9223372036854775807)  :
  Calls Tryz.prog 229 #[.int .i64 vars] w (fun e w' => e = .returned (.bool (inB vars 0 412)) ∧ w' = w) := by
 refine calls_mk [.int .i64 vars] 5 Tryz.func229 rfl rfl sM ?_
 have hE0 : w = w := rfl
 exact wp_seq (wp_plain _ [0] rfl (lw_tvn 1 rfl (wp_seq (wp_plain _ [0,0,0] rfl (lw_tv 1 rfl (lw_callq 72 [] [] [(.int .i64 vars),(.int .i64 ((0 :Nat):Int)),(.int .i64 ((412 :Nat):Int))] rfl rfl cf72 zN (.bool (decide (((0 :Nat):Int) ≤ vars) && decide (vars ≤ ((412 :Nat):Int)))) (fun wq => c_impl_within wq _ _ _ _hvars oM oM) (lw_tvn 1 rfl (wp_ret (post_ret [2] rfl (.bool (decide (((0 :Nat):Int) ≤ vars) && decide (vars ≤ ((412 :Nat):Int)))) rfl ⟨rfl,hE0⟩)))))))))
theorem exB_t {p : List Fn} {e : Ex} {vars funcs : Int} (h : (0 ≤ vars ∧ vars ≤ 412) ∧ (0 ≤ funcs ∧ funcs ≤ ((p.length : Nat) : Int)) ∧ e.size ≤ 400 ∧ e.deep ≤ 60) : wf p funcs e vars = exB p e vars funcs := by
  unfold exB
  rw [inB_iff.2 h.1, inB_iff.2 h.2.1, decide_eq_true h.2.2.1, decide_eq_true h.2.2.2]; rfl
theorem exB_f {p : List Fn} {e : Ex} {vars funcs : Int} (h : ¬ ((0 ≤ vars ∧ vars ≤ 412) ∧ (0 ≤ funcs ∧ funcs ≤ ((p.length : Nat) : Int)) ∧ e.size ≤ 400 ∧ e.deep ≤ 60)) : false = exB p e vars funcs := by
  cases hh : exB p e vars funcs with
  | false => rfl
  | true =>
    unfold exB at hh
    simp only [Bool.and_eq_true, decide_eq_true_eq, inB_iff] at hh
    exact absurd ⟨hh.1, hh.2.1, hh.2.2.1, hh.2.2.2.1⟩ h
theorem exB_w {p : List Fn} {e : Ex} {vars funcs : Int} (h : wf p funcs e vars = false) : false = exB p e vars funcs := by
  unfold exB; rw [h]; simp
theorem inB_f {x a b : Int} (h : inB x a b = false) : ¬ (a ≤ x ∧ x ≤ b) := fun hh => by rw [inB_iff.2 hh] at h; cases h
theorem inB_d {x a b : Int} (h : (decide (a ≤ x) && decide (x ≤ b)) = false) : ¬ (a ≤ x ∧ x ≤ b) := inB_f h
theorem inB_e {x a b : Int} (h : (decide (a ≤ x) && decide (x ≤ b)) = true) : a ≤ x ∧ x ≤ b := inB_iff.1 h
theorem z197_0 {p : Prop} (h : p := by first | exact ret_bool (exB_w (by assumption)) | exact ret_bool (exB_t ⟨inB_iff.1 (by assumption), inB_e (by assumption), by omega, by omega⟩) | exact ret_bool ((by assumption : wf p funcs ex vars = true).symm.trans (exB_t ⟨inB_iff.1 (by assumption), inB_e (by assumption), by omega, by omega⟩)) | exact ret_bool (exB_f fun hh => inB_f (by assumption) hh.1) | exact ret_bool (exB_f fun hh => inB_d (by assumption) hh.2.1) | exact ret_bool (exB_f oM)) : p := h
theorem c_impl_ValidExpr (w : World) (dp : Nat) (vp : Value) (p : List Fn) (dex : Nat) (ve : Value) (ex : Ex) (vars : Int) (funcs : Int) (hp : RP [] dp w.heap vp p) (hex : RX [] dex w.heap ve ex) (_hvars : -9223372036854775808 ≤ vars ∧ vars ≤ 9223372036854775807) (_hfuncs : -9223372036854775808 ≤ funcs ∧ funcs ≤ 9223372036854775807) (hs : ex.size ≤ 1000000000) :
  Calls Tryz.prog 197 #[(.agg #[vp]),(.agg #[(.int .i64 ex.kind),(.int .i64 ex.num),(.int .i64 ex.pick),(.int .i64 ex.count),ve]),.int .i64 vars,.int .i64 funcs] w (fun e w' => e = .returned (.bool (exB p ex vars funcs)) ∧ Ext w w') := by
 refine calls_mk [(.agg #[vp]),(.agg #[(.int .i64 ex.kind),(.int .i64 ex.num),(.int .i64 ex.pick),(.int .i64 ex.count),ve]),.int .i64 vars,.int .i64 funcs] 36 Tryz.func197 rfl rfl sM ?_
 have hE0 : Ext w w := Ext.refl w
 have hl_vp := hp.lenle
 unfold maxLen at hl_vp
 have hl_ve := hex.rn.lenle
 unfold maxLen at hl_ve
 refine wp_seq (wp_plain _ [3,3,0] rfl (r_boxA (cs := #[vp]) rfl zN fun w1 hX1 hz1 hB1 => ?_))
 have hzs1:=hX1.size
 have hE1:=hE0.trans hX1
 replace hB1 : BX w1.heap w.heap.size [vp] := hB1
 have hq3 := hB1.lt
 refine r_boxA (cs := #[(.int .i64 ex.kind),(.int .i64 ex.num),(.int .i64 ex.pick),(.int .i64 ex.count),ve]) rfl zN fun w2 hX2 hz2 hB2 => ?_
 have hzs2:=hX2.size
 have hE2:=hE1.trans hX2
 have hB1x2 := hB1.ext hX2
 replace hB2 : BX w2.heap w1.heap.size [(.int .i64 ex.kind),(.int .i64 ex.num),(.int .i64 ex.pick),(.int .i64 ex.count),ve] := hB2
 refine lw_tvn 1 rfl (wp_seq (wp_plain _ [0,0,0,0,0,2,0,0,0,0,2,3,0,0,0,2,3,0,0,0,2,0,0,2,0,3,0,0] rfl (lw_tv 1 rfl (lw_callq 229 [] [] [(.int .i64 vars)] rfl rfl cf229 zN (.bool (inB vars 0 412)) (fun wq => c_impl_areVars wq _ _hvars) (lw_tv 1 rfl ?_)))))
 cases hb5 : (inB vars 0 412)
 ·
  exact lw_tvn 25 rfl (wp_ret (post_ret [8] rfl (.bool false) rfl ⟨z197_0,hE2⟩))
 ·
  refine lw_tv 1 rfl (q_fldP (p := (.pointer (some ⟨w.heap.size,0,none⟩))) (b := w.heap.size) (o := 0) 0 fd26_0 rfl rfl (zS (e := 11) rfl rfl rfl) (q_load (p := (padd (.pointer (some ⟨w.heap.size,0,none⟩)) 0)) (.inr rfl) vp one24 rfl (hB1x2.ldp (i := 0) sM) (zS (e := 11) rfl rfl rfl) (q_len (v := vp) u24 rfl hp.isSl (zS (e := 11) rfl rfl rfl) (lw_callq 72 [] [] [(.int .i64 funcs),(.int .i64 ((0 :Nat):Int)),(.int .i64 ((p.length :Nat):Int))] rfl rfl cf72 (zS (e := 11) rfl rfl rfl) (.bool (decide (((0 :Nat):Int) ≤ funcs) && decide (funcs ≤ ((p.length :Nat):Int)))) (fun wq => c_impl_within wq _ _ _ _hfuncs oM oM) (lw_tv 2 rfl ?_)))))
  cases hb7 : (decide (((0 :Nat):Int) ≤ funcs) && decide (funcs ≤ ((p.length :Nat):Int)))
  ·
   exact lw_tvn 18 rfl (wp_ret (post_ret [8] rfl (.bool false) rfl ⟨z197_0,hE2⟩))
  ·
   refine q_loadA (p := (.pointer (some ⟨w1.heap.size,0,none⟩))) (.inr rfl) [(.int .i64 ex.kind),(.int .i64 ex.num),(.int .i64 ex.pick),(.int .i64 ex.count),ve] agg174 rfl (fun wq9 hw9 => LD.of_box (BX.ext (w := w2) hB2 hw9)) rfl (zS (e := 18) rfl rfl rfl) (lw_call 198 [] [] [(.agg #[(.int .i64 ex.kind),(.int .i64 ex.num),(.int .i64 ex.pick),(.int .i64 ex.count),ve])] rfl rfl cf198 (zS (e := 18) rfl rfl rfl) (c_impl_ExprSize _ dex ve (ex) (hex.ext hE2) oM) ?_)
   rintro e8 w8 ⟨rfl,hX8⟩
   refine ⟨_,rfl,hX8,?_⟩
   have hzs8:=hX8.size
   have hE8:=hE2.trans hX8
   have hB1x8 := hB1x2.ext hX8
   have hB2x8 := hB2.ext hX8
   by_cases hc9 : ((ex.size :Nat):Int) ≤ ((400 :Nat):Int)
   ·
    refine q_leq true rfl rfl (decide_eq_true hc9) (zS (e := 18) rfl rfl rfl) (lw_tv 2 rfl (q_loadA (p := (.pointer (some ⟨w1.heap.size,0,none⟩))) (.inr rfl) [(.int .i64 ex.kind),(.int .i64 ex.num),(.int .i64 ex.pick),(.int .i64 ex.count),ve] agg174 rfl (fun wq9 hw9 => LD.of_box (BX.ext (w := w8) hB2x8 hw9)) rfl (zS (e := 23) rfl rfl rfl) (lw_call 230 [] [] [(.agg #[(.int .i64 ex.kind),(.int .i64 ex.num),(.int .i64 ex.pick),(.int .i64 ex.count),ve])] rfl rfl cf230 (zS (e := 23) rfl rfl rfl) (c_impl_ExprDepth _ dex ve (ex) (hex.ext hE8) oM) ?_)))
    rintro e10 w10 ⟨rfl,hX10⟩
    refine ⟨_,rfl,hX10,?_⟩
    have hzs10:=hX10.size
    have hE10:=hE8.trans hX10
    have hB1x10 := hB1x8.ext hX10
    have hB2x10 := hB2x8.ext hX10
    by_cases hc11 : ((ex.deep :Nat):Int) ≤ ((60 :Nat):Int)
    ·
     refine q_leq true rfl rfl (decide_eq_true hc11) (zS (e := 23) rfl rfl rfl) (lw_tv 2 rfl (q_loadA (p := (.pointer (some ⟨w.heap.size,0,none⟩))) (.inr rfl) [vp] agg26 rfl (fun wq9 hw9 => LD.of_box (BX.ext (w := w10) hB1x10 hw9)) rfl (zS (e := 28) rfl rfl rfl) (lw_tv 1 rfl ?_)))
     have hbd12 : ∀ (vp : Value) (m12_0 : Nat) (h12_0 : isSl vp m12_0) (wq : World),(Instr.build 237 #[(0,(.agg #[vp])),(1,(.int .i64 funcs))]).run Tryz.prog wq = .ok (.agg #[vp,(.int .i64 funcs)]) wq := by intro vp m12_0 h12_0 wq; obtain ⟨a12_0,c12_0,rfl,_⟩ := h12_0; kernel_rfl
     refine q_build (ps := #[(0,(.agg #[vp])),(1,(.int .i64 funcs))]) (.agg #[vp,(.int .i64 funcs)]) (by simp only [List.map_toArray,List.map_cons,List.map_nil]; rfl) (fun wq => hbd12 vp _ hp.isSl wq) (zS (e := 28) rfl rfl rfl) (q_loadA (p := (.pointer (some ⟨w1.heap.size,0,none⟩))) (.inr rfl) [(.int .i64 ex.kind),(.int .i64 ex.num),(.int .i64 ex.pick),(.int .i64 ex.count),ve] agg174 rfl (fun wq9 hw9 => LD.of_box (BX.ext (w := w10) hB2x10 hw9)) rfl (zS (e := 28) rfl rfl rfl) (lw_tv 1 rfl ?_))
     refine lw_call 231 [] [] [(.agg #[vp,(.int .i64 funcs)]),(.agg #[(.int .i64 ex.kind),(.int .i64 ex.num),(.int .i64 ex.pick),(.int .i64 ex.count),ve]),(.int .i64 vars)] rfl rfl cf231 (zS (e := 28) rfl rfl rfl) (c_impl_checker_isFormed _ dp vp (p) (funcs) dex ve (ex) _ (hp.ext (good_rdS (good_rFn dp)) hE10) _hfuncs (hex.ext hE10) _hvars (by have h1 := inB_iff.1 (by assumption : inB vars 0 412 = true); omega) (by have h2 := inB_e (by assumption : (decide (((0 :Nat):Int) ≤ funcs) && decide (funcs ≤ ((p.length :Nat):Int))) = true); omega)) ?_
     rintro e13 w13 ⟨rfl,hX13⟩
     refine ⟨_,rfl,hX13,?_⟩
     have hzs13:=hX13.size
     have hE13:=hE10.trans hX13
     have hB1x13 := hB1x10.ext hX13
     have hB2x13 := hB2x10.ext hX13
     exact lw_tvn 2 rfl (wp_ret (post_ret [8] rfl (.bool (wf p funcs ex vars)) rfl ⟨z197_0,hE13⟩))
    ·
     exact q_leq false rfl rfl (decide_eq_false hc11) (zS (e := 23) rfl rfl rfl) (lw_tvn 10 rfl (wp_ret (post_ret [8] rfl (.bool false) rfl ⟨z197_0,hE10⟩)))
   ·
    exact q_leq false rfl rfl (decide_eq_false hc9) (zS (e := 18) rfl rfl rfl) (lw_tvn 15 rfl (wp_ret (post_ret [8] rfl (.bool false) rfl ⟨z197_0,hE8⟩)))
theorem ok_big {p : List Fn} (h : ¬ p.length ≤ 16) : false = okP p := by unfold okP; rw [decide_eq_false h]; rfl
theorem ok_bad {p : List Fn} {k : Nat} (hk : k < p.length) (h : fnB p k = false) : false = okP p := by unfold okP; rw [allR_fail hk h, Bool.and_false]
theorem ok_end {p : List Fn} {k : Nat} (hl : p.length ≤ 16) (hk : p.length ≤ k) (hk2 : k ≤ p.length) (h : (List.range k).all (fnB p) = true) : true = okP p := by
  have : k = p.length := by omega
  subst this; unfold okP; rw [h, decide_eq_true hl]; rfl
section
variable {p : List Fn} {k : Nat}
theorem fn_1 (h : nmB (p.getD k Fn.zero).name = false) : fnB p k = false := by unfold fnB; rw [h]; rfl
theorem fn_2 (h : (p.take k).any (fun g => strE g.name (p.getD k Fn.zero).name) = true) : fnB p k = false := by unfold fnB newB; rw [h]; simp
theorem fn_3 (h : (decide (((0 : Nat) : Int) ≤ (p.getD k Fn.zero).params) && decide ((p.getD k Fn.zero).params ≤ ((12 : Nat) : Int))) = false) : fnB p k = false := by
  have h' : inB (p.getD k Fn.zero).params 0 12 = false := h
  unfold fnB; rw [h']; simp
theorem fn_4 (h : (decide (((1 : Nat) : Int) ≤ (((p.getD k Fn.zero).outs.length : Nat) : Int)) && decide ((((p.getD k Fn.zero).outs.length : Nat) : Int) ≤ ((12 : Nat) : Int))) = false) : fnB p k = false := by
  have h' : inB (((p.getD k Fn.zero).outs.length : Nat) : Int) 1 12 = false := h
  unfold fnB; rw [h']; simp
theorem fn_5 {j : Nat} (hj : j < (p.getD k Fn.zero).outs.length) (h : exB p ((p.getD k Fn.zero).outs.getD j Ex.zero) (p.getD k Fn.zero).params ((k : Nat) : Int) = false) : fnB p k = false := by
  unfold fnB
  rw [allR_fail hj h]; simp
theorem fn_6 (h : ¬ Ex.sizes (p.getD k Fn.zero).outs ≤ 400) : fnB p k = false := by
  unfold fnB; rw [decide_eq_false h]; simp
theorem fn_ok {j : Nat} (h1 : nmB (p.getD k Fn.zero).name = true) (h2 : (p.take k).any (fun g => strE g.name (p.getD k Fn.zero).name) = false) (h3 : (decide (((0 : Nat) : Int) ≤ (p.getD k Fn.zero).params) && decide ((p.getD k Fn.zero).params ≤ ((12 : Nat) : Int))) = true) (h4 : (decide (((1 : Nat) : Int) ≤ (((p.getD k Fn.zero).outs.length : Nat) : Int)) && decide ((((p.getD k Fn.zero).outs.length : Nat) : Int) ≤ ((12 : Nat) : Int))) = true) (h5 : (List.range j).all (fun j => exB p ((p.getD k Fn.zero).outs.getD j Ex.zero) (p.getD k Fn.zero).params ((k : Nat) : Int)) = true) (hj : j = (p.getD k Fn.zero).outs.length) (h6 : Ex.sizes (p.getD k Fn.zero).outs ≤ 400) : fnB p k = true := by
  have h3' : inB (p.getD k Fn.zero).params 0 12 = true := h3
  have h4' : inB (((p.getD k Fn.zero).outs.length : Nat) : Int) 1 12 = true := h4
  subst hj
  unfold fnB newB
  rw [h1, h2, h3', h4', h5, decide_eq_true h6]; rfl
end
theorem bn_f {b : Bool} (h : (!b) = false) : b = true := by cases b <;> simp_all
theorem bn_t {b : Bool} (h : (!b) = true) : b = false := by cases b <;> simp_all
theorem z152_0 {p : Prop} (h : p := by first | exact ret_bool (ok_big oM) | exact ret_bool (ok_end oM oM oM hq) | exact ret_bool (ok_bad (k := k) oM (fn_1 (bn_t (by assumption)))) | exact ret_bool (ok_bad (k := k) oM (fn_2 (by assumption))) | exact ret_bool (ok_bad (k := k) oM (fn_3 (bn_t (by assumption)))) | exact ret_bool (ok_bad (k := k) oM (fn_4 (bn_t (by assumption)))) | exact ret_bool (ok_bad (k := k) oM (fn_5 (j := j) oM (bn_t (by assumption)))) | exact ret_bool (ok_bad (k := k) oM (fn_6 oM))) : p := h
theorem c_impl_ValidProgram (w : World) (dp : Nat) (vp : Value) (p : List Fn) (hp : RP [] dp w.heap vp p) (hz : SzP p) :
  Calls Tryz.prog 152 #[(.agg #[vp])] w (fun e w' => e = .returned (.bool (okP p)) ∧ Ext w w') := by
 refine calls_mk [(.agg #[vp])] 65 Tryz.func152 rfl rfl sM ?_
 have hE0 : Ext w w := Ext.refl w
 have hl_vp := hp.lenle
 unfold maxLen at hl_vp
 refine wp_seq (wp_plain _ [3,0] rfl (r_boxA (cs := #[vp]) rfl zN fun w1 hX1 hz1 hB1 => ?_))
 have hzs1:=hX1.size
 have hE1:=hE0.trans hX1
 replace hB1 : BX w1.heap w.heap.size [vp] := hB1
 refine lw_tvn 1 rfl (wp_seq (wp_seq (wp_plain _ [0,2,0,0] rfl (q_fldP (p := (.pointer (some ⟨w.heap.size,0,none⟩))) (b := w.heap.size) (o := 0) 0 fd26_0 rfl rfl zN (q_load (p := (padd (.pointer (some ⟨w.heap.size,0,none⟩)) 0)) (.inr rfl) vp one24 rfl (hB1.ldp (i := 0) sM) zN (q_len (v := vp) u24 rfl hp.isSl zN ?_))))))
 by_cases hc2 : ((16 :Nat):Int) < ((p.length :Nat):Int)
 ·
  exact q_gtr true rfl rfl (decide_eq_true hc2) zN (lw_nil (c_cond_t rfl (wp_seq (wp_plain _ [0] rfl (lw_tvn 1 rfl (wp_ret (t_ret (post_ret [2] rfl (.bool false) rfl ⟨z152_0,hE1⟩))))))))
 ·
  refine q_gtr false rfl rfl (decide_eq_false hc2) zN (lw_nil (c_cond_f rfl (wp_skip (wp_seq (wp_seq (wp_plain _ [0,2,0,0] rfl (q_fldP (p := (.pointer (some ⟨w.heap.size,0,none⟩))) (b := w.heap.size) (o := 0) 0 fd26_0 rfl rfl zN (q_load (p := (padd (.pointer (some ⟨w.heap.size,0,none⟩)) 0)) (.inr rfl) vp one24 rfl (hB1.ldp (i := 0) sM) zN (q_len (v := vp) u24 rfl hp.isSl zN (lw_tvn 1 rfl (wp_block ?_)))))))))))
  refine c_loop (S := Nat) (fun (k : Nat) => ([(15,(.int .i64 ((k :Nat):Int))),(1,(.pointer (some ⟨w.heap.size,0,none⟩))),(13,vp),(14,(.int .i64 ((p.length :Nat):Int)))] : List (Nat × Value))) (fun (k : Nat) (W : World) => Ext w W ∧ BX W.heap w.heap.size [vp] ∧ k ≤ p.length ∧ (List.range k).all (fnB p) = true) (fun (k : Nat) => p.length - k) 0 ⟨rfl,rfl,rfl,rfl,trivial⟩ ⟨hE1,hB1,sD,(by rfl)⟩ ?_
  clear hE0 hz1 hX1 hzs1 hE1
  rintro k ρ3 w3 ⟨hE3,hL3_0,hp3_0,hq⟩
  have hzs3 : w.heap.size ≤ w3.heap.size := hE3.size
  have hq4 := hL3_0.lt
  refine wp_seq (wp_plain _ [0] rfl ?_)
  by_cases hc5 : ((k :Nat):Int) < ((p.length :Nat):Int)
  ·
   refine q_lss true rfl rfl (decide_eq_true hc5) zN (lw_nil (wp_seq (c_cond_t rfl (wp_skip (wp_seq (wp_block (wp_seq (wp_plain _ [0,0,2,3,0,4] rfl (lw_tv 1 rfl (q_idx (v := vp) k u24 tiS55 rfl rfl hp.isSl rfl sD zN ?_))))))))))
   obtain ⟨cs6,hr6,hl6⟩ := hp.get (good_rFn dp) Fn.zero (k := k) sD
   obtain ⟨ve6,rfl,hx6⟩ := RF.of hr6
   have hln6 := hx6.rn.lenle
   unfold maxLen at hln6
   refine q_loadA (p := eptr vp k 3) (.inr rfl) [(.string ((p.getD k Fn.zero).name)),(.int .i64 ((p.getD k Fn.zero).params)),ve6] agg55 rfl (fun wq9 hw9 => hl6 wq9 (Chg.of_ext [] (hE3.trans hw9))) rfl zN ?_
   have hq8 := hL3_0.lt
   refine r_allocA (z := .agg #[.string ByteArray.empty,.int .i64 0,.slice none 0 0]) zr55 zN fun w7 hX7 hz7 hB7 => ?_
   have hzs7:=hX7.size
   have hE7:=hE3.trans hX7
   have hL3_0x7 := hL3_0.ext hX7
   replace hB7 : BX w7.heap w3.heap.size [(.string ByteArray.empty),(.int .i64 0),(.slice none 0 0)] := hB7
   refine lw_tv 1 rfl (e_setA (vs := [(.string ((p.getD k Fn.zero).name)),(.int .i64 ((p.getD k Fn.zero).params)),ve6]) agg55 rfl rfl hx6.ones hB7 rfl rfl zN fun w9 hC9 hz9 hB9 => ?_)
   replace hB9 : BX w9.heap w3.heap.size [(.string ((p.getD k Fn.zero).name)),(.int .i64 ((p.getD k Fn.zero).params)),ve6] := hB9
   have hE9 : Ext w w9 := hC9.below hE7 (fun c hc => by have := List.mem_singleton.1 hc; omega) hE7.size
   have hzs9:=hC9.size
   have hF10 := hL3_0x7.chg hC9 (fun hm => by have := List.mem_singleton.1 hm; omega)
   refine lw_nil (wp_seq (wp_seq (wp_plain _ [0,2,0,0,0,0,2,0,0,0,3,0] rfl ?_)))
   have hzk := hz k oM
   refine q_fldP (p := (.pointer (some ⟨w3.heap.size,0,none⟩))) (b := w3.heap.size) (o := 0) 0 fd55_0 rfl rfl zN (q_load (p := (padd (.pointer (some ⟨w3.heap.size,0,none⟩)) 0)) (.inr rfl) (.string ((p.getD k Fn.zero).name)) one9 rfl (hB9.ldp (i := 0) sM) zN (lw_callq 194 [] [] [(.string ((p.getD k Fn.zero).name))] rfl rfl cf194 zN (.bool (nmB ((p.getD k Fn.zero).name))) (fun wq => c_impl_IsName wq ((p.getD k Fn.zero).name) oM) (q_not (!(nmB ((p.getD k Fn.zero).name))) rfl rfl zN (lw_tv 1 rfl ?_))))
   cases hb12 : (!(nmB ((p.getD k Fn.zero).name)))
   ·
    refine q_fldP (p := (.pointer (some ⟨w.heap.size,0,none⟩))) (b := w.heap.size) (o := 0) 0 fd26_0 rfl rfl (zS (e := 24) rfl rfl rfl) (q_load (p := (padd (.pointer (some ⟨w.heap.size,0,none⟩)) 0)) (.inr rfl) vp one24 rfl (hF10.ldp (i := 0) sM) (zS (e := 24) rfl rfl rfl) (lw_tv 1 rfl (q_pref (v := vp) (k := k) u24 tiS55 rfl hp.isSl hp.capS rfl sD (zS (e := 24) rfl rfl rfl) ?_)))
    have hpf13 := RN.pref (good_rFn dp) (k := k) hp sD
    refine q_func [] [(.pointer (some ⟨w3.heap.size,0,none⟩))] rfl rfl (zS (e := 24) rfl rfl rfl) (lw_call 195 [] [] [(prefV vp k),(.func (.func 196) #[] #[(.pointer (some ⟨w3.heap.size,0,none⟩))])] rfl rfl cf195 (zS (e := 24) rfl rfl rfl) (c_slices_ContainsFunc___impl_Func_impl_Func_ _ dp (prefV vp k) (p.take k) 196 [] [(.pointer (some ⟨w3.heap.size,0,none⟩))] (fun g => strE g.name (p.getD k Fn.zero).name) (hpf13.ext (good_rdS (good_rFn dp)) hE9) cf196 (fun d9 u x w1 hx hw => c_impl_ValidProgram_1 w1 d9 u x w3.heap.size ve6 (p.getD k Fn.zero) hx (hB9.ext hw))) ?_)
    rintro e14 w14 ⟨rfl,hX14⟩
    refine ⟨_,rfl,hX14,?_⟩
    have hzs14:=hX14.size
    have hE14:=hE9.trans hX14
    have hF10x14 := hF10.ext hX14
    have hB9x14 := hB9.ext hX14
    refine lw_tvn 1 rfl ?_
    cases hb15 : ((p.take k).any (fun g => strE g.name (p.getD k Fn.zero).name))
    ·
     refine c_cond_f (by first | rfl | (show Value.bool _ = _; rw [hb15])) (wp_skip (wp_seq (wp_seq (wp_plain _ [0,2,0,0,0,0,2,0,0,0,0] rfl (q_fldP (p := (.pointer (some ⟨w3.heap.size,0,none⟩))) (b := w3.heap.size) (o := 0) 1 fd55_1 rfl rfl zN (q_load (p := (padd (.pointer (some ⟨w3.heap.size,0,none⟩)) 1)) (.inr rfl) (.int .i64 ((p.getD k Fn.zero).params)) one2 rfl (hB9x14.ldp (i := 1) sM) zN (lw_callq 72 [] [] [(.int .i64 ((p.getD k Fn.zero).params)),(.int .i64 ((0 :Nat):Int)),(.int .i64 ((12 :Nat):Int))] rfl rfl cf72 zN (.bool (decide (((0 :Nat):Int) ≤ ((p.getD k Fn.zero).params)) && decide (((p.getD k Fn.zero).params) ≤ ((12 :Nat):Int)))) (fun wq => c_impl_within wq _ _ _ hx6.rng oM oM) ?_)))))))
     refine q_not (!(decide (((0 :Nat):Int) ≤ ((p.getD k Fn.zero).params)) && decide (((p.getD k Fn.zero).params) ≤ ((12 :Nat):Int)))) rfl rfl zN (lw_tv 1 rfl ?_)
     cases hb17 : (!(decide (((0 :Nat):Int) ≤ ((p.getD k Fn.zero).params)) && decide (((p.getD k Fn.zero).params) ≤ ((12 :Nat):Int))))
     ·
      refine q_fldP (p := (.pointer (some ⟨w3.heap.size,0,none⟩))) (b := w3.heap.size) (o := 0) 2 fd55_2 rfl rfl (zS (e := 36) rfl rfl rfl) (q_load (p := (padd (.pointer (some ⟨w3.heap.size,0,none⟩)) 2)) (.inr rfl) ve6 one53 rfl (hB9x14.ldp (i := 2) sM) (zS (e := 36) rfl rfl rfl) (q_len (v := ve6) u53 rfl hx6.rn.isSl (zS (e := 36) rfl rfl rfl) (lw_callq 72 [] [] [(.int .i64 ((((p.getD k Fn.zero).outs).length :Nat):Int)),(.int .i64 ((1 :Nat):Int)),(.int .i64 ((12 :Nat):Int))] rfl rfl cf72 (zS (e := 36) rfl rfl rfl) (.bool (decide (((1 :Nat):Int) ≤ ((((p.getD k Fn.zero).outs).length :Nat):Int)) && decide (((((p.getD k Fn.zero).outs).length :Nat):Int) ≤ ((12 :Nat):Int)))) (fun wq => c_impl_within wq _ _ _ oM oM oM) ?_)))
      refine q_not (!(decide (((1 :Nat):Int) ≤ ((((p.getD k Fn.zero).outs).length :Nat):Int)) && decide (((((p.getD k Fn.zero).outs).length :Nat):Int) ≤ ((12 :Nat):Int)))) rfl rfl (zS (e := 36) rfl rfl rfl) (lw_tvn 1 rfl ?_)
      cases hb19 : (!(decide (((1 :Nat):Int) ≤ ((((p.getD k Fn.zero).outs).length :Nat):Int)) && decide (((((p.getD k Fn.zero).outs).length :Nat):Int) ≤ ((12 :Nat):Int))))
      ·
       refine c_cond_f (by first | rfl | (show Value.bool _ = _; rw [hb19])) (wp_skip (wp_seq (wp_plain _ [0] rfl (lw_tvn 1 rfl (wp_seq (wp_seq (wp_plain _ [0,2,0,0] rfl (q_fldP (p := (.pointer (some ⟨w3.heap.size,0,none⟩))) (b := w3.heap.size) (o := 0) 2 fd55_2 rfl rfl zN (q_load (p := (padd (.pointer (some ⟨w3.heap.size,0,none⟩)) 2)) (.inr rfl) ve6 one53 rfl (hB9x14.ldp (i := 2) sM) zN (q_len (v := ve6) u53 rfl hx6.rn.isSl zN (lw_tvn 1 rfl (wp_block ?_))))))))))))
       refine c_loop (S := Nat × Nat) (fun (⟨j,sz⟩ : Nat × Nat) => ([(5,(.int .i64 ((sz :Nat):Int))),(46,(.int .i64 ((j :Nat):Int))),(1,(.pointer (some ⟨w.heap.size,0,none⟩))),(3,(.int .i64 ((k :Nat):Int))),(4,(.pointer (some ⟨w3.heap.size,0,none⟩))),(13,vp),(14,(.int .i64 ((p.length :Nat):Int))),(15,(.int .i64 ((k :Nat):Int))),(44,ve6),(45,(.int .i64 ((((p.getD k Fn.zero).outs).length :Nat):Int)))] : List (Nat × Value))) (fun (⟨j,sz⟩ : Nat × Nat) (W : World) => Ext w W ∧ BX W.heap w.heap.size [vp] ∧ BX W.heap w3.heap.size [(.string ((p.getD k Fn.zero).name)),(.int .i64 ((p.getD k Fn.zero).params)),ve6] ∧ j ≤ (p.getD k Fn.zero).outs.length ∧ sz = Ex.sizes ((p.getD k Fn.zero).outs.take j) ∧ (List.range j).all (fun j => exB p ((p.getD k Fn.zero).outs.getD j Ex.zero) (p.getD k Fn.zero).params ((k :Nat):Int)) = true) (fun (⟨j,sz⟩ : Nat × Nat) => (p.getD k Fn.zero).outs.length - j) (0,0) ⟨rfl,rfl,rfl,rfl,rfl,rfl,rfl,rfl,rfl,rfl,trivial⟩ ⟨hE14,hF10x14,hB9x14,sD,(by rw [List.take_zero,sizes_nil]),(by rfl)⟩ ?_
       clear hL3_0 hE3 hzs3 hln6 hz7 hX7 hzs7 hE7 hL3_0x7 hz9 hC9 hE9 hzs9 hF10 hX14 hzs14 hE14 hF10x14
       rintro ⟨j,sz⟩ ρ20 w20 ⟨hE20,hL20_0,hL20_1,hp20_0,hsz,hqe⟩
       have hzs20 : w.heap.size ≤ w20.heap.size := hE20.size
       have hq21 := hL20_0.lt
       have hq22 := hL20_1.lt
       refine wp_seq (wp_plain _ [0] rfl ?_)
       by_cases hc23 : ((j :Nat):Int) < ((((p.getD k Fn.zero).outs).length :Nat):Int)
       ·
        refine q_lss true rfl rfl (decide_eq_true hc23) zN (lw_nil (wp_seq (c_cond_t rfl (wp_skip (wp_seq (wp_block (wp_seq (wp_plain _ [0,2,3,4] rfl (q_idx (v := ve6) j u53 tiS174 rfl rfl hx6.rn.isSl rfl sD zN ?_)))))))))
        obtain ⟨cs24,hr24,hl24⟩ := hx6.rn.get (good_rEx dp) Ex.zero (k := j) sD
        obtain ⟨dd24,ve24,hd24,rfl,hx24⟩ := RX.of hr24
        have hln24 := hx24.rn.lenle
        unfold maxLen at hln24
        refine q_loadA (p := eptr ve6 j 5) (.inr rfl) [(.int .i64 ((((p.getD k Fn.zero).outs).getD j Ex.zero).kind)),(.int .i64 ((((p.getD k Fn.zero).outs).getD j Ex.zero).num)),(.int .i64 ((((p.getD k Fn.zero).outs).getD j Ex.zero).pick)),(.int .i64 ((((p.getD k Fn.zero).outs).getD j Ex.zero).count)),ve24] agg174 rfl (fun wq9 hw9 => hl24 wq9 (Chg.of_ext [] (hE20.trans hw9))) rfl zN ?_
        have hq26 := hL20_0.lt
        have hq27 := hL20_1.lt
        refine r_allocA (z := .agg #[.int .i64 0,.int .i64 0,.int .i64 0,.int .i64 0,.slice none 0 0]) zr174 zN fun w25 hX25 hz25 hB25 => ?_
        have hzs25:=hX25.size
        have hE25:=hE20.trans hX25
        have hL20_0x25 := hL20_0.ext hX25
        have hL20_1x25 := hL20_1.ext hX25
        replace hB25 : BX w25.heap w20.heap.size [(.int .i64 0),(.int .i64 0),(.int .i64 0),(.int .i64 0),(.slice none 0 0)] := hB25
        refine e_setA (vs := [(.int .i64 ((((p.getD k Fn.zero).outs).getD j Ex.zero).kind)),(.int .i64 ((((p.getD k Fn.zero).outs).getD j Ex.zero).num)),(.int .i64 ((((p.getD k Fn.zero).outs).getD j Ex.zero).pick)),(.int .i64 ((((p.getD k Fn.zero).outs).getD j Ex.zero).count)),ve24]) agg174 rfl rfl hx24.ones hB25 rfl rfl zN fun w28 hC28 hz28 hB28 => ?_
        replace hB28 : BX w28.heap w20.heap.size [(.int .i64 ((((p.getD k Fn.zero).outs).getD j Ex.zero).kind)),(.int .i64 ((((p.getD k Fn.zero).outs).getD j Ex.zero).num)),(.int .i64 ((((p.getD k Fn.zero).outs).getD j Ex.zero).pick)),(.int .i64 ((((p.getD k Fn.zero).outs).getD j Ex.zero).count)),ve24] := hB28
        have hE28 : Ext w w28 := hC28.below hE25 (fun c hc => by have := List.mem_singleton.1 hc; omega) hE25.size
        have hzs28:=hC28.size
        have hF29 := hL20_0x25.chg hC28 (fun hm => by have := List.mem_singleton.1 hm; omega)
        have hF30 := hL20_1x25.chg hC28 (fun hm => by have := List.mem_singleton.1 hm; omega)
        refine lw_nil (wp_seq (wp_seq (wp_plain _ [2,2,0,2,0,3,0] rfl ?_)))
        have hst := sizes_step (l := (p.getD k Fn.zero).outs) (k := j) oM
        have hle := sizes_take (p.getD k Fn.zero).outs (j + 1)
        refine q_loadA (p := (.pointer (some ⟨w.heap.size,0,none⟩))) (.inr rfl) [vp] agg26 rfl (fun wq9 hw9 => LD.of_box (BX.ext (w := w28) hF29 hw9)) rfl zN (q_loadA (p := (.pointer (some ⟨w20.heap.size,0,none⟩))) (.inr rfl) [(.int .i64 ((((p.getD k Fn.zero).outs).getD j Ex.zero).kind)),(.int .i64 ((((p.getD k Fn.zero).outs).getD j Ex.zero).num)),(.int .i64 ((((p.getD k Fn.zero).outs).getD j Ex.zero).pick)),(.int .i64 ((((p.getD k Fn.zero).outs).getD j Ex.zero).count)),ve24] agg174 rfl (fun wq9 hw9 => LD.of_box (BX.ext (w := w28) hB28 hw9)) rfl zN (q_fldP (p := (.pointer (some ⟨w3.heap.size,0,none⟩))) (b := w3.heap.size) (o := 0) 1 fd55_1 rfl rfl zN (q_load (p := (padd (.pointer (some ⟨w3.heap.size,0,none⟩)) 1)) (.inr rfl) (.int .i64 ((p.getD k Fn.zero).params)) one2 rfl (hF30.ldp (i := 1) sM) zN (lw_tv 1 rfl ?_))))
        refine lw_call 197 [] [] [(.agg #[vp]),(.agg #[(.int .i64 ((((p.getD k Fn.zero).outs).getD j Ex.zero).kind)),(.int .i64 ((((p.getD k Fn.zero).outs).getD j Ex.zero).num)),(.int .i64 ((((p.getD k Fn.zero).outs).getD j Ex.zero).pick)),(.int .i64 ((((p.getD k Fn.zero).outs).getD j Ex.zero).count)),ve24]),(.int .i64 ((p.getD k Fn.zero).params)),(.int .i64 ((k :Nat):Int))] rfl rfl cf197 zN (c_impl_ValidExpr _ dp vp (p) dd24 ve24 (((p.getD k Fn.zero).outs).getD j Ex.zero) _ _ (hp.ext (good_rdS (good_rFn dp)) hE28) (hx24.ext hE28) hx6.rng oM oM) ?_
        rintro e31 w31 ⟨rfl,hX31⟩
        refine ⟨_,rfl,hX31,?_⟩
        have hzs31:=hX31.size
        have hE31:=hE28.trans hX31
        have hF29x31 := hF29.ext hX31
        have hF30x31 := hF30.ext hX31
        have hB28x31 := hB28.ext hX31
        refine q_not (!(exB p (((p.getD k Fn.zero).outs).getD j Ex.zero) ((p.getD k Fn.zero).params) ((k :Nat):Int))) rfl rfl zN (lw_nil ?_)
        cases hb32 : (!(exB p (((p.getD k Fn.zero).outs).getD j Ex.zero) ((p.getD k Fn.zero).params) ((k :Nat):Int)))
        ·
         refine c_cond_f (by first | rfl | (show Value.bool _ = _; rw [hb32])) (wp_skip (wp_plain _ [0,2,3,0,0] rfl (lw_tv 1 rfl (q_loadA (p := (.pointer (some ⟨w20.heap.size,0,none⟩))) (.inr rfl) [(.int .i64 ((((p.getD k Fn.zero).outs).getD j Ex.zero).kind)),(.int .i64 ((((p.getD k Fn.zero).outs).getD j Ex.zero).num)),(.int .i64 ((((p.getD k Fn.zero).outs).getD j Ex.zero).pick)),(.int .i64 ((((p.getD k Fn.zero).outs).getD j Ex.zero).count)),ve24] agg174 rfl (fun wq9 hw9 => LD.of_box (BX.ext (w := w31) hB28x31 hw9)) rfl zN ?_))))
         refine lw_call 198 [] [] [(.agg #[(.int .i64 ((((p.getD k Fn.zero).outs).getD j Ex.zero).kind)),(.int .i64 ((((p.getD k Fn.zero).outs).getD j Ex.zero).num)),(.int .i64 ((((p.getD k Fn.zero).outs).getD j Ex.zero).pick)),(.int .i64 ((((p.getD k Fn.zero).outs).getD j Ex.zero).count)),ve24])] rfl rfl cf198 zN (c_impl_ExprSize _ dd24 ve24 (((p.getD k Fn.zero).outs).getD j Ex.zero) (hx24.ext hE31) oM) ?_
         rintro e33 w33 ⟨rfl,hX33⟩
         refine ⟨_,rfl,hX33,?_⟩
         have hzs33:=hX33.size
         have hE33:=hE31.trans hX33
         have hF29x33 := hF29x31.ext hX33
         have hF30x33 := hF30x31.ext hX33
         have hB28x33 := hB28x31.ext hX33
         refine q_add ((sz + ((p.getD k Fn.zero).outs.getD j Ex.zero).size :Nat):Int) rfl rfl (w64n oM oM) zN (lw_tvn 1 rfl (wp_plain _ [0,0] rfl (q_add ((j + 1 :Nat):Int) rfl rfl (w64n oM sD) zN (lw_tvn 1 rfl ?_))))
         exact ⟨((j + 1),(sz + ((p.getD k Fn.zero).outs.getD j Ex.zero).size)),_,rfl,⟨rfl,rfl,rfl,rfl,rfl,rfl,rfl,rfl,rfl,rfl,trivial⟩,⟨hE33,hF29x33,hF30x33,sD,oM,(by exact allR_succ hqe (bn_f (by assumption)))⟩,by first | omega | (dsimp only; omega)⟩
        ·
         refine c_cond_t (by first | rfl | (show Value.bool _ = _; rw [hb32])) (wp_seq (wp_plain _ [0] rfl (lw_tvn 1 rfl (wp_ret (t_ret (b_ret (t_ret (t_ret (b_ret (t_ret (b_ret (t_ret (t_ret (b_ret (t_ret ?_)))))))))))))))
         exact post_ret [2] rfl (.bool false) rfl ⟨z152_0,hE31⟩
       ·
        refine q_lss false rfl rfl (decide_eq_false hc23) zN (lw_nil (wp_seq (c_cond_f rfl (wp_exit (t_exit (t_exit (c_exit_here (wp_seq (wp_plain _ [0,0] rfl ?_)))))))))
        have hal := sizes_all (l := (p.getD k Fn.zero).outs) (k := j) oM
        refine lw_tv 1 rfl ?_
        by_cases hc34 : ((400 :Nat):Int) < ((sz :Nat):Int)
        ·
         exact q_gtr true rfl rfl (decide_eq_true hc34) zN (lw_nil (c_cond_t rfl (wp_seq (wp_plain _ [0] rfl (lw_tvn 1 rfl (wp_ret (b_ret (t_ret (t_ret (b_ret (t_ret (post_ret [2] rfl (.bool false) rfl ⟨z152_0,hE20⟩))))))))))))
        ·
         refine q_gtr false rfl rfl (decide_eq_false hc34) zN (lw_nil (c_cond_f rfl (wp_skip (wp_plain _ [0,0] rfl (q_add ((k + 1 :Nat):Int) rfl rfl (w64n oM sD) zN (lw_tvn 1 rfl ?_))))))
         exact ⟨(k + 1),_,rfl,⟨rfl,rfl,rfl,rfl,trivial⟩,⟨hE20,hL20_0,sD,(by exact allR_succ hq (fn_ok (bn_f (by assumption)) (by assumption) (bn_f (by assumption)) (bn_f (by assumption)) hqe oM oM))⟩,by first | omega | (dsimp only; omega)⟩
      ·
       exact c_cond_t (by first | rfl | (show Value.bool _ = _; rw [hb19])) (wp_seq (wp_plain _ [0] rfl (lw_tvn 1 rfl (wp_ret (t_ret (b_ret (t_ret (t_ret (b_ret (t_ret (post_ret [2] rfl (.bool false) rfl ⟨z152_0,hE14⟩)))))))))))
     ·
      exact lw_tvn 6 rfl (c_cond_t rfl (wp_seq (wp_plain _ [0] rfl (lw_tvn 1 rfl (wp_ret (t_ret (b_ret (t_ret (t_ret (b_ret (t_ret (post_ret [2] rfl (.bool false) rfl ⟨z152_0,hE14⟩))))))))))))
    ·
     exact c_cond_t (by first | rfl | (show Value.bool _ = _; rw [hb15])) (wp_seq (wp_plain _ [0] rfl (lw_tvn 1 rfl (wp_ret (t_ret (b_ret (t_ret (t_ret (b_ret (t_ret (post_ret [2] rfl (.bool false) rfl ⟨z152_0,hE14⟩)))))))))))
   ·
    exact lw_tvn 7 rfl (c_cond_t rfl (wp_seq (wp_plain _ [0] rfl (lw_tvn 1 rfl (wp_ret (t_ret (b_ret (t_ret (t_ret (b_ret (t_ret (post_ret [2] rfl (.bool false) rfl ⟨z152_0,hE9⟩))))))))))))
  ·
   exact q_lss false rfl rfl (decide_eq_false hc5) zN (lw_nil (wp_seq (c_cond_f rfl (wp_exit (t_exit (t_exit (c_exit_here (wp_seq (wp_plain _ [0] rfl (lw_tvn 1 rfl (wp_ret (post_ret [2] rfl (.bool true) rfl ⟨z152_0,hE3⟩))))))))))))
end Go.Proofs.YtnokbaiemimhjaaGreat
namespace Go.Proofs.YtnokbaiemimhjaaGreat
open Go Go.RowKit
set_option linter.unusedVariables false
set_option linter.unusedSimpArgs false
set_option maxHeartbeats 4000000
set_option maxRecDepth 100000
attribute [local irreducible] LW
theorem isF_1 {p : List Fn} {f : Int} (h : okP p = false) : 1 = isF p f := by unfold isF; rw [h]; rfl
theorem isF_2 {p : List Fn} {f : Int} (h : okP p = true) (h2 : ¬ (0 ≤ f ∧ f ≤ ((p.length : Nat) : Int) - 1)) : 2 = isF p f := by unfold isF; rw [if_pos h, if_neg h2]
theorem isF_3 {p : List Fn} {f : Int} (h : okP p = true) (h2 : 0 ≤ f ∧ f ≤ ((p.length : Nat) : Int) - 1) : 0 = isF p f := by unfold isF; rw [if_pos h, if_pos h2]
theorem z84_0 {p : Prop} (h : p := by first | exact ret_int (isF_1 (bn_t (by assumption))) | exact ret_int (isF_2 (bn_f (by assumption)) (inB_d (bn_t (by assumption)))) | exact ret_int (isF_3 (bn_f (by assumption)) (inB_e (bn_f (by assumption))))) : p := h
theorem c_impl_isFunc (w : World) (dp : Nat) (vp : Value) (p : List Fn) (f : Int) (hp : RP [] dp w.heap vp p) (_hf : -9223372036854775808 ≤ f ∧ f ≤ 9223372036854775807) (hz : SzP p) :
  Calls Tryz.prog 84 #[(.agg #[vp]),.int .i64 f] w (fun e w' => e = .returned (.int .i64 (isF p f)) ∧ Ext w w') := by
 refine calls_mk [(.agg #[vp]),.int .i64 f] 17 Tryz.func84 rfl rfl sM ?_
 have hE0 : Ext w w := Ext.refl w
 have hl_vp := hp.lenle
 unfold maxLen at hl_vp
 refine wp_seq (wp_plain _ [3,0] rfl (r_boxA (cs := #[vp]) rfl zN fun w1 hX1 hz1 hB1 => ?_))
 have hzs1:=hX1.size
 have hE1:=hE0.trans hX1
 replace hB1 : BX w1.heap w.heap.size [vp] := hB1
 refine lw_tvn 1 rfl (wp_seq (wp_block (wp_seq (wp_plain _ [2,3,0,0] rfl (q_loadA (p := (.pointer (some ⟨w.heap.size,0,none⟩))) (.inr rfl) [vp] agg26 rfl (fun wq9 hw9 => LD.of_box (BX.ext (w := w1) hB1 hw9)) rfl zN (lw_call 152 [] [] [(.agg #[vp])] rfl rfl cf152 zN (c_impl_ValidProgram _ dp vp (p) (hp.ext (good_rdS (good_rFn dp)) hE1) (by exact hz)) ?_))))))
 rintro e2 w2 ⟨rfl,hX2⟩
 refine ⟨_,rfl,hX2,?_⟩
 have hzs2:=hX2.size
 have hE2:=hE1.trans hX2
 have hB1x2 := hB1.ext hX2
 refine q_not (!(okP p)) rfl rfl zN (lw_tvn 1 rfl ?_)
 cases hb3 : (!(okP p))
 ·
  refine c_cond_f (by first | rfl | (show Value.bool _ = _; rw [hb3])) (wp_seq (wp_plain _ [0,0,2,0,0,0,0,0] rfl (lw_tv 1 rfl (q_fldP (p := (.pointer (some ⟨w.heap.size,0,none⟩))) (b := w.heap.size) (o := 0) 0 fd26_0 rfl rfl zN (q_load (p := (padd (.pointer (some ⟨w.heap.size,0,none⟩)) 0)) (.inr rfl) vp one24 rfl (hB1x2.ldp (i := 0) sM) zN (q_len (v := vp) u24 rfl hp.isSl zN (q_sub (((p.length :Nat):Int) - 1) rfl rfl (w64 oM oM) zN (lw_callq 72 [] [] [(.int .i64 f),(.int .i64 ((0 :Nat):Int)),(.int .i64 (((p.length :Nat):Int) - 1))] rfl rfl cf72 zN (.bool (decide (((0 :Nat):Int) ≤ f) && decide (f ≤ (((p.length :Nat):Int) - 1)))) (fun wq => c_impl_within wq _ _ _ _hf oM oM) ?_))))))))
  refine q_not (!(decide (((0 :Nat):Int) ≤ f) && decide (f ≤ (((p.length :Nat):Int) - 1)))) rfl rfl zN (lw_tvn 1 rfl ?_)
  cases hb5 : (!(decide (((0 :Nat):Int) ≤ f) && decide (f ≤ (((p.length :Nat):Int) - 1))))
  ·
   exact c_cond_f (by first | rfl | (show Value.bool _ = _; rw [hb5])) (wp_skip (wp_seq (wp_plain _ [0] rfl (lw_tvn 1 rfl (wp_ret (post_ret [4] rfl (.int .i64 ((0 :Nat):Int)) rfl ⟨z84_0,hE2⟩))))))
  ·
   exact c_cond_t (by first | rfl | (show Value.bool _ = _; rw [hb5])) (wp_seq (wp_plain _ [0] rfl (lw_tvn 1 rfl (wp_ret (b_ret (t_ret (post_ret [4] rfl (.int .i64 ((2 :Nat):Int)) rfl ⟨z84_0,hE2⟩)))))))
 ·
  exact c_cond_t (by first | rfl | (show Value.bool _ = _; rw [hb3])) (wp_seq (wp_plain _ [0] rfl (lw_tvn 1 rfl (wp_ret (b_ret (t_ret (post_ret [4] rfl (.int .i64 ((1 :Nat):Int)) rfl ⟨z84_0,hE2⟩)))))))
theorem c_impl_orderOf (w : World) (va : Value) (a : List (List Int)) (ha : RN [] (rdL (rdL rI)) w.heap va a) (hqa : CapS va) (h1 : 0 < a.length → 0 < (a.getD 0 []).length) :
  Calls Tryz.prog 87 #[va] w (fun e w' => e = .returned (.int .i64 ((oOf a :Nat):Int)) ∧ Ext w w') := by
 refine calls_mk [va] 11 Tryz.func87 rfl rfl sM ?_
 have hE0 : Ext w w := Ext.refl w
 have hl_va := ha.lenL
 unfold maxLen at hl_va
 refine wp_seq (wp_plain _ [0] rfl (lw_tvn 1 rfl (wp_seq (wp_seq (wp_plain _ [0,0,0] rfl (lw_tv 1 rfl (q_len (v := va) u32 rfl ha.slL zN ?_)))))))
 by_cases hc1 : ((a.length :Nat):Int) = ((0 :Nat):Int)
 ·
  exact q_eql true rfl rfl (decide_eq_true hc1) zN (lw_nil (c_cond_t rfl (wp_seq (wp_plain _ [0] rfl (lw_tvn 1 rfl (wp_ret (t_ret (post_ret [2] rfl (.int .i64 ((0 :Nat):Int)) rfl ⟨(ret_int (by unfold oOf; have : a = [] := List.eq_nil_of_length_eq_zero oM; subst this; rfl)),hE0⟩))))))))
 ·
  refine q_eql false rfl rfl (decide_eq_false hc1) zN (lw_nil (c_cond_f rfl (wp_skip (wp_seq (wp_plain _ [0,0,2,0,0,0] rfl (lw_tv 1 rfl (q_idx (v := va) 0 u32 ti27 rfl rfl ha.slL rfl sD zN ?_)))))))
  obtain ⟨ue2,hl2,hr2⟩ := RN.getL (w := w) g1 [] (k := 0) ha sD
  have hln2 := hr2.lenL
  unfold maxLen at hln2
  exact q_load (p := eptr va 0 1) (.inr rfl) ue2 one27 rfl (hl2 _ (Chg.of_ext [] hE0)) zN (q_len (v := ue2) u27 rfl hr2.slL zN (q_sub (((a.getD 0 []).length - 1 :Nat):Int) rfl rfl (by rw [w64 oM oM]; omega) zN (lw_tvn 1 rfl (wp_ret (post_ret [2] rfl (.int .i64 (((a.getD 0 []).length - 1 :Nat):Int)) rfl ⟨(ret_int rfl),hE0⟩)))))
end Go.Proofs.YtnokbaiemimhjaaGreat
namespace Go.Proofs.YtnokbaiemimhjaaGreat
open Go Go.RowKit
set_option linter.unusedVariables false
set_option linter.unusedSimpArgs false
set_option maxHeartbeats 4000000
set_option maxRecDepth 100000
attribute [local irreducible] LW
theorem z100_0 {p : Prop} (h : p := by unfold okS; first | (rw [‹(decide (((1 : Nat) : Int) ≤ ((a.length : Nat) : Int)) && decide (((a.length : Nat) : Int) ≤ ((13 : Nat) : Int))) = false›]; rfl) | (rw [‹(decide (((1 : Nat) : Int) ≤ ((a.length : Nat) : Int)) && decide (((a.length : Nat) : Int) ≤ ((13 : Nat) : Int))) = true›]; simp)) : p := h
theorem c_impl_ValidSeries (w : World) (va : Value) (a : List Int) (ha : Rd (rdL rI) w.heap va a)  :
  Calls Tryz.prog 100 #[va] w (fun e w' => e = .returned (.bool (okS a)) ∧ Ext w w') := by
 refine calls_mk [va] 12 Tryz.func100 rfl rfl sM ?_
 have hE0 : Ext w w := Ext.refl w
 have hl_va := ha.lenle
 refine wp_seq (wp_plain _ [0] rfl (lw_tvn 1 rfl (wp_seq (wp_plain _ [0,0,0,0,0,0,0,3,0,0] rfl (lw_tv 1 rfl (q_len (v := va) u27 rfl ha.isSl zN (lw_callq 72 [] [] [(.int .i64 ((a.length :Nat):Int)),(.int .i64 ((1 :Nat):Int)),(.int .i64 ((13 :Nat):Int))] rfl rfl cf72 zN (.bool (decide (((1 :Nat):Int) ≤ ((a.length :Nat):Int)) && decide (((a.length :Nat):Int) ≤ ((13 :Nat):Int)))) (fun wq => c_impl_within wq _ _ _ oM oM oM) (lw_tv 1 rfl ?_))))))))
 cases hb2 : (decide (((1 :Nat):Int) ≤ ((a.length :Nat):Int)) && decide (((a.length :Nat):Int) ≤ ((13 :Nat):Int)))
 ·
  exact lw_tvn 6 rfl (wp_ret (post_ret [2] rfl (.bool false) rfl ⟨(ret_bool z100_0),hE0⟩))
 ·
  refine lw_tv 2 rfl (q_len (v := va) u27 rfl ha.isSl (zS (e := 6) rfl rfl rfl) (lw_call 97 [] [] [va,(.int .i64 ((a.length :Nat):Int))] rfl rfl cf97 (zS (e := 6) rfl rfl rfl) (c_impl_areNumbers _ _ _ _ (ha.ext g1 hE0) oM) ?_))
  rintro e3 w3 ⟨rfl,hX3⟩
  refine ⟨_,rfl,hX3,?_⟩
  have hzs3:=hX3.size
  have hE3:=hE0.trans hX3
  exact lw_tvn 2 rfl (wp_ret (post_ret [2] rfl (.bool (decide (((a.length :Nat):Int) = ((a.length :Nat):Int)) && allN a)) rfl ⟨(ret_bool z100_0),hE3⟩))
theorem c_impl_areArgs (w : World) (va : Value) (a : List (List Int)) (n : Int) (ha : Rd (rdL (rdL rI)) w.heap va a) (_hn : -9223372036854775808 ≤ n ∧ n ≤ 9223372036854775807)  :
  Calls Tryz.prog 85 #[va,.int .i64 n] w (fun e w' => e = .returned (.bool (argB a && decide (((a.length :Nat):Int) = n))) ∧ Ext w w') := by
 refine calls_mk [va,.int .i64 n] 30 Tryz.func85 rfl rfl sM ?_
 have hE0 : Ext w w := Ext.refl w
 have hl_va := ha.lenle
 refine wp_seq (wp_plain _ [0] rfl (lw_tvn 1 rfl (wp_seq (wp_seq (wp_plain _ [0,0,0] rfl (lw_tv 1 rfl (q_len (v := va) u32 rfl ha.isSl zN (lw_tvn 1 rfl (wp_block ?_)))))))))
 refine c_loop (S := Nat) (fun (k : Nat) => ([(9,(.int .i64 ((k :Nat):Int))),(0,va),(1,(.int .i64 n)),(7,va),(8,(.int .i64 ((a.length :Nat):Int)))] : List (Nat × Value))) (fun (k : Nat) (W : World) => Ext w W ∧ k ≤ a.length ∧ ((a.take k).all (serB (a.getD 0 []).length) = true)) (fun (k : Nat) => a.length - k) 0 ⟨rfl,rfl,rfl,rfl,rfl,trivial⟩ ⟨hE0,sD,(by exact rfl)⟩ ?_
 clear hE0
 rintro k ρ1 w1 ⟨hE1,hp1_0,hq⟩
 have hzs1 : w.heap.size ≤ w1.heap.size := hE1.size
 refine wp_seq (wp_plain _ [0] rfl ?_)
 by_cases hc2 : ((k :Nat):Int) < ((a.length :Nat):Int)
 ·
  refine q_lss true rfl rfl (decide_eq_true hc2) zN (lw_nil (wp_seq (c_cond_t rfl (wp_skip (wp_seq (wp_block (wp_seq (wp_plain _ [0,2,0] rfl (q_idx (v := va) k u32 ti27 rfl rfl ha.isSl rfl sD zN ?_)))))))))
  obtain ⟨ue3,hl3,hd3⟩ := ha.get (k := k) [] sD
  have hln3 := hd3.lenle
  refine q_load (p := eptr va k 1) (.inr rfl) ue3 one27 rfl (ldH_ext hE1 hl3) zN (lw_tvn 1 rfl (wp_seq (wp_plain _ [0,3,0,0,0,0,0,0,2,0,0,0] rfl (lw_tv 1 rfl (lw_call 100 [] [] [ue3] rfl rfl cf100 zN (c_impl_ValidSeries _ _ _ (hd3.ext g1 hE1)) ?_)))))
  rintro e4 w4 ⟨rfl,hX4⟩
  refine ⟨_,rfl,hX4,?_⟩
  have hzs4:=hX4.size
  have hE4:=hE1.trans hX4
  refine q_not (!(okS (a.getD k []))) rfl rfl zN (lw_tv 1 rfl ?_)
  cases hb5 : (!(okS (a.getD k [])))
  ·
   refine lw_tv 1 rfl (q_len (v := ue3) u27 rfl hd3.isSl (zS (e := 16) rfl rfl rfl) (lw_tv 1 rfl (q_idx (v := va) 0 u32 ti27 rfl rfl ha.isSl rfl sD (zS (e := 16) rfl rfl rfl) ?_)))
   obtain ⟨ue6,hl6,hd6⟩ := ha.get (k := 0) [] sD
   have hln6 := hd6.lenle
   refine q_load (p := eptr va 0 1) (.inr rfl) ue6 one27 rfl (ldH_ext hE4 hl6) (zS (e := 16) rfl rfl rfl) (q_len (v := ue6) u27 rfl hd6.isSl (zS (e := 16) rfl rfl rfl) ?_)
   by_cases hc7 : (((a.getD k []).length :Nat):Int) ≠ (((a.getD 0 []).length :Nat):Int)
   ·
    exact q_neq true rfl rfl (decide_eq_true hc7) (zS (e := 16) rfl rfl rfl) (lw_tvn 1 rfl (c_cond_t rfl (wp_seq (wp_plain _ [0] rfl (lw_tvn 1 rfl (wp_ret (b_ret (t_ret (t_ret (b_ret (t_ret (post_ret [4] rfl (.bool false) rfl ⟨(ret_bool (by unfold argB; rw [all_fail (f := serB (a.getD 0 []).length) (k := k) [] oM (by unfold serB; rw [Bool.and_eq_false_iff]; right; exact decide_eq_false oM)]; rfl)),hE4⟩))))))))))))
   ·
    refine q_neq false rfl rfl (decide_eq_false hc7) (zS (e := 16) rfl rfl rfl) (lw_tvn 1 rfl (c_cond_f rfl (wp_skip (wp_plain _ [0,0] rfl (q_add ((k + 1 :Nat):Int) rfl rfl (w64n oM sD) zN (lw_tvn 1 rfl ?_))))))
    exact ⟨(k + 1),_,rfl,⟨rfl,rfl,rfl,rfl,rfl,trivial⟩,⟨hE4,sD,(by exact all_succ (f := serB (a.getD 0 []).length) [] hq oM (by unfold serB; simp only [Bool.and_eq_true,decide_eq_true_eq]; exact ⟨by simpa using ‹(!okS (a.getD k [])) = false›,by omega⟩))⟩,by first | omega | (dsimp only; omega)⟩
  ·
   exact lw_tvn 8 rfl (c_cond_t rfl (wp_seq (wp_plain _ [0] rfl (lw_tvn 1 rfl (wp_ret (b_ret (t_ret (t_ret (b_ret (t_ret (post_ret [4] rfl (.bool false) rfl ⟨(ret_bool (by unfold argB; rw [all_fail (f := serB (a.getD 0 []).length) (k := k) [] oM (by unfold serB; rw [Bool.and_eq_false_iff]; left; simpa using ‹(!okS (a.getD k [])) = true›)]; rfl)),hE4⟩)))))))))))
 ·
  exact q_lss false rfl rfl (decide_eq_false hc2) zN (lw_nil (wp_seq (c_cond_f rfl (wp_exit (t_exit (t_exit (c_exit_here (wp_seq (wp_plain _ [0,0,0,0,0] rfl (lw_tv 1 rfl (q_len (v := va) u32 rfl ha.isSl zN (lw_tv 1 rfl (q_eql (decide (((a.length :Nat):Int) = n)) rfl rfl rfl zN (lw_tvn 1 rfl (wp_ret (post_ret [4] rfl (.bool (decide (((a.length :Nat):Int) = n))) rfl ⟨(ret_bool (by unfold argB; rw [all_done hq oM,Bool.true_and])),hE1⟩))))))))))))))))
end Go.Proofs.YtnokbaiemimhjaaGreat
namespace Go.Proofs.YtnokbaiemimhjaaGreat
open Go Go.RowKit
set_option linter.unusedVariables false
set_option linter.unusedSimpArgs false
set_option maxHeartbeats 4000000
set_option maxRecDepth 100000
attribute [local irreducible] LW
theorem z11_0 {p : Prop} (h : p := by first | (rw [decide_eq_true (show ((3000 : Nat) : Int) < ((cs.length : Nat) : Int) by assumption)]; rfl) | (rw [decide_eq_false (show ¬ ((3000 : Nat) : Int) < ((cs.length : Nat) : Int) by assumption), Bool.false_or])) : p := h
theorem c_laws_a2Long (w : World) (vc : Value) (cs : List UInt8) (vd : Value) (ds : List UInt8) (hcs : Rd (rdL rU) w.heap vc cs) (hds : Rd (rdL rU) w.heap vd ds)  :
  Calls Tryz.prog 11 #[vc,vd] w (fun e w' => e = .returned (.bool (decide (((3000 :Nat):Int) < ((cs.length :Nat):Int)) || decide (((3000 :Nat):Int) < ((ds.length :Nat):Int)))) ∧ Ext w w') := by
 refine calls_mk [vc,vd] 13 Tryz.func11 rfl rfl sM ?_
 have hE0 : Ext w w := Ext.refl w
 have hl_vc := hcs.lenle
 have hl_vd := hds.lenle
 refine wp_seq (wp_plain _ [0] rfl (lw_tvn 1 rfl (wp_seq (wp_plain _ [0,0,0,0,0,0,0,0,0] rfl (lw_tv 1 rfl (q_len (v := vc) u22 rfl hcs.isSl zN ?_))))))
 by_cases hc1 : ((3000 :Nat):Int) < ((cs.length :Nat):Int)
 ·
  exact q_gtr true rfl rfl (decide_eq_true hc1) zN (lw_tvn 6 rfl (wp_ret (post_ret [4] rfl (.bool true) rfl ⟨(ret_bool z11_0),hE0⟩)))
 ·
  exact q_gtr false rfl rfl (decide_eq_false hc1) zN (lw_tv 2 rfl (q_len (v := vd) u22 rfl hds.isSl (zS (e := 8) rfl rfl rfl) (q_gtr (decide (((3000 :Nat):Int) < ((ds.length :Nat):Int))) rfl rfl rfl (zS (e := 8) rfl rfl rfl) (lw_tvn 2 rfl (wp_ret (post_ret [4] rfl (.bool (decide (((3000 :Nat):Int) < ((ds.length :Nat):Int)))) rfl ⟨(ret_bool z11_0),hE0⟩))))))
theorem c_laws_a2Scale (w : World) (va : Value) (a : List Int) (y : Int) (ha : Rd (rdL rI) w.heap va a) (_hy : -9223372036854775808 ≤ y ∧ y ≤ 9223372036854775807) (hla : a.length ≤ 1000000000000) :
  Calls Tryz.prog 26 #[va,.int .i64 y] w (fun e w' => ∃ v0 : Value,e = .returned (v0) ∧ Ext w w' ∧ Fr (owL rI 2) w.heap.size w'.heap.size w'.heap v0 (scl a y)) := by
 refine calls_mk [va,.int .i64 y] 24 Tryz.func26 rfl rfl sM ?_
 have hE0 : Ext w w := Ext.refl w
 have hl_va := ha.lenle
 refine wp_seq (wp_plain _ [0] rfl (lw_tvn 1 rfl (wp_seq (wp_plain _ [3,0] rfl (r_nil (rI) good_rI u27 ti2 zN fun v1 w1 hX1 hz1 hO1 => ?_)))))
 have hzs1:=hX1.size
 have hE1:=hE0.trans hX1
 refine lw_tvn 1 rfl (wp_seq (wp_seq (wp_plain _ [0] rfl (lw_tvn 1 rfl (wp_block ?_)))))
 refine c_loop (S := Nat × Value) (fun (⟨k,vo⟩ : Nat × Value) => ([(5,vo),(6,(.int .i64 ((k :Nat):Int))),(0,va),(1,(.int .i64 y))] : List (Nat × Value))) (fun (⟨k,vo⟩ : Nat × Value) (W : World) => Ext w W ∧ Fr (owL rI 2) w.heap.size W.heap.size W.heap vo ((a.take k).map (fun x => md (x * y))) ∧ k ≤ a.length) (fun (⟨k,vo⟩ : Nat × Value) => a.length - k) (0,v1) ⟨rfl,rfl,rfl,rfl,trivial⟩ ⟨hE1,hO1.up o1,sD⟩ ?_
 clear hE0 hO1 hz1 hX1 hzs1 hE1
 rintro ⟨k,vo⟩ ρ2 w2 ⟨hE2,hL2_0,hp2_0⟩
 have hzs2 : w.heap.size ≤ w2.heap.size := hE2.size
 refine wp_seq (wp_seq (wp_plain _ [0,0,0,0] rfl (lw_tv 2 rfl (q_len (v := va) u27 rfl ha.isSl zN ?_))))
 by_cases hc3 : ((k :Nat):Int) < ((a.length :Nat):Int)
 ·
  refine q_lss true rfl rfl (decide_eq_true hc3) zN (lw_nil (c_cond_t rfl (wp_skip (wp_seq (wp_block (wp_plain _ [0,0,0,0,2,0,0,3,4,0] rfl (lw_tv 3 rfl (q_idx (v := va) k u27 ti2 rfl rfl ha.isSl rfl sD zN ?_))))))))
  refine q_load (p := eptr va k 1) (.inr rfl) (.int .i64 (a.getD k 0)) one2 rfl (ldH_ext hE2 (ha.getI sD).1) zN (lw_tv 1 rfl ?_)
  refine lw_callq 76 [] [] [(.int .i64 (a.getD k 0)),(.int .i64 y)] rfl rfl cf76 zN (.int .i64 (md ((a.getD k 0) * y))) (fun wq => c_spec_Times wq _ _ (ha.getI sD).2 _hy) (r_one (u := (.int .i64 (md ((a.getD k 0) * y)))) (B := w2.heap.size) good_rI u27 ti2 rfl rfl (frI w2.heap.size w2.heap.size _ _ (md_rng _)) (Nat.le_refl _) zN fun v5 w5 hX5 hz5 hO5 => ?_)
  have hzs5:=hX5.size
  have hE5:=hE2.trans hX5
  have hL2_0x5 := hL2_0.ext (o1) hX5
  refine e_appI (v := vo) (a := v5) u27 ti2 rfl rfl rfl hL2_0x5 hE5.size hO5.rd1 sD (by unfold maxLen; first | omega | assumption | (simp; done) | (simp; omega)) zN fun v6 w6 F6 hC6 hF6 hO6 => ?_
  have hE6 : Ext w w6 := hC6.below hE5 (fun c hc => Nat.le_trans (Nat.le_refl _) (hF6 c hc).1) hE5.size
  have hzs6:=hC6.size
  have hF7 := hO5.chg (o1) hC6 (fun c hc => by have := hF6 c hc; omega)
  refine lw_tvn 1 rfl (wp_plain _ [0,0,0] rfl (lw_tv 1 rfl (q_add ((k + 1 :Nat):Int) rfl rfl (w64n oM sD) zN (lw_tvn 1 rfl ?_))))
  exact ⟨((k + 1),v6),_,rfl,⟨rfl,rfl,rfl,rfl,trivial⟩,⟨hE6,(by rw [map_snoc 0 oM]; exact hO6.up o1),sD⟩,by first | omega | (dsimp only; omega)⟩
 ·
  exact q_lss false rfl rfl (decide_eq_false hc3) zN (lw_nil (c_cond_f rfl (wp_exit (t_exit (t_exit (c_exit_here (wp_seq (wp_plain _ [0,0] rfl (lw_tvn 2 rfl (wp_ret (post_ret [4] rfl vo rfl ⟨vo,rfl,hE2,(by have h := hL2_0.up o1; rwa [List.take_of_length_le oM] at h)⟩)))))))))))
theorem c_laws_a2Begin (w : World) (va : Value) (a : List Int) (x : Int) (ha : Rd (rdL rI) w.heap va a) (_hx : -9223372036854775808 ≤ x ∧ x ≤ 9223372036854775807) (hla : a.length ≤ 1000000000000) :
  Calls Tryz.prog 24 #[va,.int .i64 x] w (fun e w' => ∃ v0 : Value,e = .returned (v0) ∧ Ext w w' ∧ Fr (owL rI 2) w.heap.size w'.heap.size w'.heap v0 (a.set 0 x)) := by
 refine calls_mk [va,.int .i64 x] 16 Tryz.func24 rfl rfl sM ?_
 have hE0 : Ext w w := Ext.refl w
 have hl_va := ha.lenle
 refine wp_seq (wp_plain _ [0] rfl (lw_tvn 1 rfl (wp_seq (wp_plain _ [3,0,4,0] rfl (r_nil (rI) good_rI u27 ti2 zN fun v1 w1 hX1 hz1 hO1 => ?_)))))
 have hzs1:=hX1.size
 have hE1:=hE0.trans hX1
 refine lw_tv 1 rfl (e_appI (v := v1) (a := va) u27 ti2 rfl rfl rfl hO1 hE1.size (ha.ext g1 hE1) sD (by unfold maxLen; first | omega | assumption | (simp; done) | (simp; omega)) zN fun v2 w2 F2 hC2 hF2 hO2 => ?_)
 have hE2 : Ext w w2 := hC2.below hE1 (fun c hc => Nat.le_trans (Nat.le_refl _) (hF2 c hc).1) hE1.size
 have hzs2:=hC2.size
 refine lw_tvn 1 rfl (wp_seq (wp_seq (wp_plain _ [0,0,0] rfl (lw_tv 1 rfl (q_len (v := v2) u27 rfl hO2.isSl zN ?_)))))
 by_cases hc3 : ((0 :Nat):Int) < (((([] : List Int) ++ a).length :Nat):Int)
 ·
  refine q_gtr true rfl rfl (decide_eq_true hc3) zN (lw_nil (c_cond_t rfl (wp_plain _ [0,0,0,4] rfl (lw_tv 2 rfl (q_idx (v := v2) 0 u27 ti2 rfl rfl hO2.isSl rfl sD zN ?_)))))
  refine e_setI (v := v2) (w := w2) sz2 rfl rfl _hx hO2 sD zN fun w4 F4 hC4 hz4 hF4 hO4 => ?_
  have hE4 : Ext w w4 := hC4.below hE2 (fun c hc => Nat.le_trans (Nat.le_refl _) (hF4 c hc).1) hE2.size
  have hzs4:=hC4.size
  exact lw_nil (wp_seq (wp_plain _ [0,0] rfl (lw_tvn 2 rfl (wp_ret (post_ret [4] rfl v2 rfl ⟨v2,rfl,hE4,(by exact hO4.up o1)⟩)))))
 ·
  exact q_gtr false rfl rfl (decide_eq_false hc3) zN (lw_nil (c_cond_f rfl (wp_skip (wp_seq (wp_plain _ [0,0] rfl (lw_tvn 2 rfl (wp_ret (post_ret [4] rfl v2 rfl ⟨v2,rfl,hE2,(by have h := hO2.up o1; have hn : a = [] := List.eq_nil_of_length_eq_zero (by simp at *; omega); rw [hn] at h ⊢; exact h)⟩))))))))
theorem c_laws_a2Same (w : World) (va : Value) (a : List Int) (vb : Value) (b : List Int) (ha : Rd (rdL rI) w.heap va a) (hb : Rd (rdL rI) w.heap vb b)  :
  Calls Tryz.prog 19 #[va,vb] w (fun e w' => e = .returned (.bool (decide (a = b))) ∧ Ext w w') := by
 refine calls_mk [va,vb] 26 Tryz.func19 rfl rfl sM ?_
 have hE0 : Ext w w := Ext.refl w
 have hl_va := ha.lenle
 have hl_vb := hb.lenle
 refine wp_seq (wp_plain _ [0] rfl (lw_tvn 1 rfl (wp_seq (wp_seq (wp_plain _ [0,0,0,0,0] rfl (lw_tv 1 rfl (q_len (v := va) u27 rfl ha.isSl zN (lw_tv 1 rfl (q_len (v := vb) u27 rfl hb.isSl zN ?_)))))))))
 by_cases hc1 : ((a.length :Nat):Int) ≠ ((b.length :Nat):Int)
 ·
  exact q_neq true rfl rfl (decide_eq_true hc1) zN (lw_nil (c_cond_t rfl (wp_seq (wp_plain _ [0] rfl (lw_tvn 1 rfl (wp_ret (t_ret (post_ret [4] rfl (.bool false) rfl ⟨(ret_bool (decide_eq_false (leq_len oM)).symm),hE0⟩))))))))
 ·
  refine q_neq false rfl rfl (decide_eq_false hc1) zN (lw_nil (c_cond_f rfl (wp_skip (wp_seq (wp_seq (wp_plain _ [0] rfl (lw_tvn 1 rfl (wp_block (c_loop (S := Nat) (fun (k : Nat) => ([(5,(.int .i64 ((k :Nat):Int))),(0,va),(1,vb)] : List (Nat × Value))) (fun (k : Nat) (W : World) => Ext w W ∧ k ≤ a.length ∧ (∀ j,j < k → a.getD j 0 = b.getD j 0)) (fun (k : Nat) => a.length - k) 0 ⟨rfl,rfl,rfl,trivial⟩ ⟨hE0,sD,(by intro j hj; omega)⟩ ?_)))))))))
  clear hE0
  rintro k ρ2 w2 ⟨hE2,hp2_0,hq⟩
  have hzs2 : w.heap.size ≤ w2.heap.size := hE2.size
  refine wp_seq (wp_seq (wp_plain _ [0,0,0,0] rfl (lw_tv 2 rfl (q_len (v := va) u27 rfl ha.isSl zN ?_))))
  by_cases hc3 : ((k :Nat):Int) < ((a.length :Nat):Int)
  ·
   refine q_lss true rfl rfl (decide_eq_true hc3) zN (lw_nil (c_cond_t rfl (wp_skip (wp_seq (wp_block (wp_seq (wp_draw _ [0,0,0,1,0,0,0,1,0] mixed (by kernel_rfl) (lw_tv 2 rfl (q_idx (v := va) k u27 ti2 rfl rfl ha.isSl rfl sD zN ?_)))))))))
   refine q_load (p := eptr va k 1) (.inl rfl) (.int .i64 (a.getD k 0)) one2 rfl (ldH_ext hE2.drew (ha.getI sD).1) zN (lw_tv 2 rfl ?_)
   refine q_idx (v := vb) k u27 ti2 rfl rfl hb.isSl rfl sD zN ?_
   refine q_load (p := eptr vb k 1) (.inl rfl) (.int .i64 (b.getD k 0)) one2 rfl (ldH_ext hE2.drew (hb.getI sD).1) zN ?_
   by_cases hc4 : a.getD k 0 ≠ b.getD k 0
   ·
    exact q_neq true rfl rfl (decide_eq_true hc4) zN (lw_nil (c_cond_t rfl (wp_seq (wp_plain _ [0] rfl (lw_tvn 1 rfl (wp_ret (b_ret (t_ret (t_ret (b_ret (t_ret (post_ret [4] rfl (.bool false) rfl ⟨(ret_bool (decide_eq_false (leq_fail (d := 0) (k := k) oM)).symm),hE2.drew⟩))))))))))))
   ·
    refine q_neq false rfl rfl (decide_eq_false hc4) zN (lw_nil (c_cond_f rfl (wp_skip (wp_plain _ [0,0,0] rfl (lw_tv 1 rfl (q_add ((k + 1 :Nat):Int) rfl rfl (w64n oM sD) zN (lw_tvn 1 rfl ?_)))))))
    exact ⟨(k + 1),_,rfl,⟨rfl,rfl,rfl,trivial⟩,⟨hE2.drew,sD,(by exact leq_step hq oM)⟩,by first | omega | (dsimp only; omega)⟩
  ·
   exact q_lss false rfl rfl (decide_eq_false hc3) zN (lw_nil (c_cond_f rfl (wp_exit (t_exit (t_exit (c_exit_here (wp_seq (wp_plain _ [0] rfl (lw_tvn 1 rfl (wp_ret (post_ret [4] rfl (.bool true) rfl ⟨(ret_bool (decide_eq_true (leq_done hq oM oM)).symm),hE2⟩)))))))))))
theorem c_laws_a2Column (w : World) (va : Value) (a : List (List Int)) (k : Nat) (ha : Rd (rdL (rdL rI)) w.heap va a) (_hk : k ≤ 1000000000000) (hla : a.length ≤ 1000000000000) (h1 : ∀ r,r < a.length → k < (a.getD r []).length) :
  Calls Tryz.prog 20 #[va,.int .i64 ((k :Nat):Int)] w (fun e w' => ∃ v0 : Value,e = .returned (v0) ∧ Ext w w' ∧ Fr (owL rI 2) w.heap.size w'.heap.size w'.heap v0 (a.map (fun r => r.getD k 0))) := by
 refine calls_mk [va,.int .i64 ((k :Nat):Int)] 32 Tryz.func20 rfl rfl sM ?_
 have hE0 : Ext w w := Ext.refl w
 have hl_va := ha.lenle
 refine wp_seq (wp_plain _ [0] rfl (lw_tvn 1 rfl (wp_seq (wp_plain _ [3,0] rfl (r_nil (rI) good_rI u27 ti2 zN fun v1 w1 hX1 hz1 hO1 => ?_)))))
 have hzs1:=hX1.size
 have hE1:=hE0.trans hX1
 refine lw_tvn 1 rfl (wp_seq (wp_seq (wp_plain _ [0] rfl (lw_tvn 1 rfl (wp_block ?_)))))
 refine c_loop (S := Nat × Value) (fun (⟨j,vo⟩ : Nat × Value) => ([(5,vo),(6,(.int .i64 ((j :Nat):Int))),(0,va),(1,(.int .i64 ((k :Nat):Int)))] : List (Nat × Value))) (fun (⟨j,vo⟩ : Nat × Value) (W : World) => Ext w W ∧ Fr (owL rI 2) w.heap.size W.heap.size W.heap vo ((a.take j).map (fun r => r.getD k 0)) ∧ j ≤ a.length) (fun (⟨j,vo⟩ : Nat × Value) => a.length - j) (0,v1) ⟨rfl,rfl,rfl,rfl,trivial⟩ ⟨hE1,hO1.up o1,sD⟩ ?_
 clear hE0 hO1 hz1 hX1 hzs1 hE1
 rintro ⟨j,vo⟩ ρ2 w2 ⟨hE2,hL2_0,hp2_0⟩
 have hzs2 : w.heap.size ≤ w2.heap.size := hE2.size
 refine wp_seq (wp_seq (wp_plain _ [0,0,0,0] rfl (lw_tv 2 rfl (q_len (v := va) u32 rfl ha.isSl zN ?_))))
 by_cases hc3 : ((j :Nat):Int) < ((a.length :Nat):Int)
 ·
  refine q_lss true rfl rfl (decide_eq_true hc3) zN (lw_nil (c_cond_t rfl (wp_skip (wp_seq (wp_block (wp_seq (wp_plain _ [0,0,0,0,2,0,0] rfl ?_)))))))
  have hr1 := h1 j oM
  refine lw_tv 3 rfl (q_idx (v := va) j u32 ti27 rfl rfl ha.isSl rfl sD zN ?_)
  obtain ⟨ue4,hl4,hd4⟩ := ha.get (k := j) [] sD
  have hln4 := hd4.lenle
  refine q_load (p := eptr va j 1) (.inr rfl) ue4 one27 rfl (ldH_ext hE2 hl4) zN (q_len (v := ue4) u27 rfl hd4.isSl zN ?_)
  by_cases hc5 : ((k :Nat):Int) < (((a.getD j []).length :Nat):Int)
  ·
   refine q_lss true rfl rfl (decide_eq_true hc5) zN (lw_nil (c_cond_t rfl (wp_plain _ [0,0,0,0,2,0,0,2,3,4,0] rfl (lw_tv 3 rfl (q_idx (v := va) j u32 ti27 rfl rfl ha.isSl rfl sD zN ?_)))))
   obtain ⟨ue6,hl6,hd6⟩ := ha.get (k := j) [] sD
   have hln6 := hd6.lenle
   refine q_load (p := eptr va j 1) (.inr rfl) ue6 one27 rfl (ldH_ext hE2 hl6) zN (lw_tv 1 rfl (q_idx (v := ue6) k u27 ti2 rfl rfl hd6.isSl rfl sD zN ?_))
   refine q_load (p := eptr ue6 k 1) (.inr rfl) (.int .i64 ((a.getD j []).getD k 0)) one2 rfl (ldH_ext hE2 (hd6.getI sD).1) zN ?_
   refine r_one (u := (.int .i64 ((a.getD j []).getD k 0))) (B := w2.heap.size) good_rI u27 ti2 rfl rfl (frI w2.heap.size w2.heap.size _ _ (hd6.getI sD).2) (Nat.le_refl _) zN fun v7 w7 hX7 hz7 hO7 => ?_
   have hzs7:=hX7.size
   have hE7:=hE2.trans hX7
   have hL2_0x7 := hL2_0.ext (o1) hX7
   refine e_appI (v := vo) (a := v7) u27 ti2 rfl rfl rfl hL2_0x7 hE7.size hO7.rd1 sD (by unfold maxLen; first | omega | assumption | (simp; done) | (simp; omega)) zN fun v8 w8 F8 hC8 hF8 hO8 => ?_
   have hE8 : Ext w w8 := hC8.below hE7 (fun c hc => Nat.le_trans (Nat.le_refl _) (hF8 c hc).1) hE7.size
   have hzs8:=hC8.size
   have hF9 := hO7.chg (o1) hC8 (fun c hc => by have := hF8 c hc; omega)
   refine lw_tvn 1 rfl (wp_plain _ [0,0,0] rfl (lw_tv 1 rfl (q_add ((j + 1 :Nat):Int) rfl rfl (w64n oM sD) zN (lw_tvn 1 rfl ?_))))
   exact ⟨((j + 1),v8),_,rfl,⟨rfl,rfl,rfl,rfl,trivial⟩,⟨hE8,(by rw [map_snoc [] oM]; exact hO8.up o1),sD⟩,by first | omega | (dsimp only; omega)⟩
  ·
   exact absurd oM hc5
 ·
  exact q_lss false rfl rfl (decide_eq_false hc3) zN (lw_nil (c_cond_f rfl (wp_exit (t_exit (t_exit (c_exit_here (wp_seq (wp_plain _ [0,0] rfl (lw_tvn 2 rfl (wp_ret (post_ret [4] rfl vo rfl ⟨vo,rfl,hE2,(by have h := hL2_0.up o1; rwa [List.take_of_length_le oM] at h)⟩)))))))))))
theorem z82_0 {p : Prop} (h : p := by first | rfl | (exfalso; simp_all)) : p := h
theorem c_impl_areSeries (w : World) (va : Value) (a : List Int) (vb : Value) (b : List Int) (ha : Rd (rdL rI) w.heap va a) (hb : Rd (rdL rI) w.heap vb b) (hka : okS a = true) (hkb : okS b = true) (hl : b.length = a.length) :
  Calls Tryz.prog 82 #[va,vb] w (fun e w' => e = .returned (.int .i64 0) ∧ Ext w w') := by
 refine calls_mk [va,vb] 20 Tryz.func82 rfl rfl sM ?_
 have hE0 : Ext w w := Ext.refl w
 have hl_va := ha.lenle
 have hl_vb := hb.lenle
 refine wp_seq (wp_plain _ [0] rfl (lw_tvn 1 rfl (wp_seq (wp_block (wp_seq (wp_plain _ [0,3,0,0,0,3,0,0,0] rfl (lw_tv 1 rfl (lw_call 100 [] [] [va] rfl rfl cf100 zN (c_impl_ValidSeries _ _ _ (ha.ext g1 hE0)) ?_))))))))
 rintro e1 w1 ⟨rfl,hX1⟩
 refine ⟨_,rfl,hX1,?_⟩
 have hzs1:=hX1.size
 have hE1:=hE0.trans hX1
 refine q_not (!(okS a)) rfl rfl zN (lw_tv 1 rfl ?_)
 cases hb2 : (!(okS a))
 ·
  refine lw_tv 1 rfl (lw_call 100 [] [] [vb] rfl rfl cf100 (zS (e := 9) rfl rfl rfl) (c_impl_ValidSeries _ _ _ (hb.ext g1 hE1)) ?_)
  rintro e3 w3 ⟨rfl,hX3⟩
  refine ⟨_,rfl,hX3,?_⟩
  have hzs3:=hX3.size
  have hE3:=hE1.trans hX3
  refine q_not (!(okS b)) rfl rfl (zS (e := 9) rfl rfl rfl) (lw_tvn 2 rfl ?_)
  cases hb4 : (!(okS b))
  ·
   refine c_cond_f (by first | rfl | (show Value.bool _ = _; rw [hb4])) (wp_seq (wp_plain _ [0,0,0,0,0,0] rfl (lw_tv 1 rfl (q_len (v := va) u27 rfl ha.isSl zN (lw_tv 1 rfl (q_len (v := vb) u27 rfl hb.isSl zN ?_))))))
   by_cases hc5 : ((a.length :Nat):Int) ≠ ((b.length :Nat):Int)
   ·
    exact q_neq true rfl rfl (decide_eq_true hc5) zN (lw_tvn 1 rfl (c_cond_t rfl (wp_seq (wp_plain _ [0] rfl (lw_tvn 1 rfl (wp_ret (b_ret (t_ret (post_ret [4] rfl (.int .i64 ((2 :Nat):Int)) rfl ⟨z82_0,hE3⟩)))))))))
   ·
    exact q_neq false rfl rfl (decide_eq_false hc5) zN (lw_tvn 1 rfl (c_cond_f rfl (wp_skip (wp_seq (wp_plain _ [0] rfl (lw_tvn 1 rfl (wp_ret (post_ret [4] rfl (.int .i64 ((0 :Nat):Int)) rfl ⟨z82_0,hE3⟩))))))))
  ·
   exact c_cond_t (by first | rfl | (show Value.bool _ = _; rw [hb4])) (wp_seq (wp_plain _ [0] rfl (lw_tvn 1 rfl (wp_ret (b_ret (t_ret (post_ret [4] rfl (.int .i64 ((1 :Nat):Int)) rfl ⟨z82_0,hE3⟩)))))))
 ·
  exact lw_tvn 5 rfl (c_cond_t rfl (wp_seq (wp_plain _ [0] rfl (lw_tvn 1 rfl (wp_ret (b_ret (t_ret (post_ret [4] rfl (.int .i64 ((1 :Nat):Int)) rfl ⟨z82_0,hE1⟩))))))))
end Go.Proofs.YtnokbaiemimhjaaGreat
namespace Go.Proofs.YtnokbaiemimhjaaGreat
open Go Go.RowKit
set_option linter.unusedVariables false
set_option linter.unusedSimpArgs false
set_option maxHeartbeats 4000000
set_option maxRecDepth 100000
attribute [local irreducible] LW
theorem z149_0 {p : Prop} (h : p := by first | omega | exact and_255 _) : p := h
theorem z149_1 {p : Prop} (h : p := by kernel_rfl) : p := h
theorem c_spec_l00Src_next (w : World) (g : Nat) (sv : Value) (cs : List UInt8) (n0 : Nat) (hs : Src w.heap g sv cs n0) (hn0 : n0 + 1 ≤ 1000000000000)  :
  Calls Tryz.prog 149 #[.pointer (some ⟨g,0,none⟩)] w (fun e w' => ∃ (x0 : Int) (n1 : Nat),e = .returned (.int .i64 x0) ∧ Chg [g] w w' ∧ Src w'.heap g sv cs n1 ∧ (n0 ≤ n1 ∧ n1 ≤ n0 + 1) ∧ (0 ≤ x0 ∧ x0 ≤ 255)) := by
 refine calls_mk [.pointer (some ⟨g,0,none⟩)] 62 Tryz.func149 rfl rfl sM ?_
 have hE0 : Chg [g] w w := Chg.refl [g] w
 have hgl := hs.lt
 obtain ⟨sd,hbx,hrs⟩ := hs.parts
 have hl_sv := (hrs _ (Chg.refl [g] w)).lenle
 refine wp_seq (wp_plain _ [0] rfl (lw_tvn 1 rfl (wp_seq (wp_plain _ [0] rfl (lw_tvn 1 rfl (wp_seq (wp_seq (wp_draw _ [0,0,0,1,0,0,0,1,0,0] mixed z149_1 (lw_tv 1 rfl (q_nil rfl zN (q_fld 1 z149_1 rfl zN (q_load (p := (.pointer (some ⟨g,1,none⟩))) (.inl rfl) (.int .i64 ((n0 :Nat):Int)) one3 rfl (hbx.ld (k := 1) sM) zN (lw_tv 1 rfl (q_nil rfl zN (q_fld 0 z149_1 rfl zN (q_load (p := (.pointer (some ⟨g,0,none⟩))) (.inl rfl) sv one22 rfl (hbx.ld (k := 0) sM) zN (q_len (v := sv) u22 rfl (hrs _ hE0.drew).isSl zN ?_)))))))))))))))))
 by_cases hc1 : ((n0 :Nat):Int) < ((cs.length :Nat):Int)
 ·
  refine q_lss true rfl rfl (decide_eq_true hc1) zN (lw_nil (c_cond_t rfl (wp_draw _ [0,0,0,1,0,0,0,1,0,1,0,0] mixed z149_1 (lw_tv 1 rfl (q_nil rfl zN (q_fld 0 z149_1 rfl zN (q_load (p := (.pointer (some ⟨g,0,none⟩))) (.inl rfl) sv one22 rfl (hbx.ld (k := 0) sM) zN (lw_tv 1 rfl (q_nil rfl zN (q_fld 1 z149_1 rfl zN (q_load (p := (.pointer (some ⟨g,1,none⟩))) (.inl rfl) (.int .i64 ((n0 :Nat):Int)) one3 rfl (hbx.ld (k := 1) sM) zN ?_)))))))))))
  refine q_idx (v := sv) n0 u22 ti5 rfl rfl (hrs _ hE0.drew.drew).isSl rfl sD zN ?_
  refine q_load (p := eptr sv n0 1) (.inl rfl) (.int .u8 ((cs.getD n0 0).toNat : Int)) one5 rfl ((hrs _ hE0.drew.drew).getU sD).1 zN (q_conv ((cs.getD n0 0).toNat : Int) u5 u3 rfl (w8 _) zN (lw_tvn 1 rfl (wp_seq (wp_plain _ [0,0,0,2,0,0,0,4] rfl (lw_tv 1 rfl (q_nil rfl zN (q_fld 1 z149_1 rfl zN (q_load (p := (.pointer (some ⟨g,1,none⟩))) (.inr rfl) (.int .i64 ((n0 :Nat):Int)) one3 rfl (hbx.ld (k := 1) sM) zN ?_))))))))
  refine q_add ((n0 + 1 :Nat):Int) rfl rfl (w64n oM sD) zN (q_nil rfl zN (q_fld 1 z149_1 rfl zN (e_setB (w := w.drew.drew) sz3 rfl rfl ⟨rfl,rfl⟩ hbx sM zN fun w2 hC2 hz2 hB2 => ?_)))
  replace hC2 := hC2.of_drew
  replace hC2 := hC2.of_drew
  have hE2 : Chg [g] w w2 := hE0.trans hC2
  have hBx2 : BX w2.heap g [sv,(.int .i64 ((n0 + 1 :Nat):Int)),(.int .u64 sd)] := hB2
  refine lw_nil (wp_seq (wp_plain _ [0,0,0,0,2,0,0,0,0,0,0,0,4] rfl (lw_tv 2 rfl (q_nil rfl zN (q_fld 2 z149_1 rfl zN (q_load (p := (.pointer (some ⟨g,2,none⟩))) (.inr rfl) (.int .u64 sd) one152 rfl (hBx2.ld (k := 2) sM) zN (q_mul (IntKind.u64.wrap (sd * 6364136223846793005)) rfl rfl rfl zN (lw_tv 1 rfl (q_conv (IntKind.u64.wrap (((cs.getD n0 0).toNat : Int))) u3 u152 rfl rfl zN (q_add (IntKind.u64.wrap ((IntKind.u64.wrap (sd * 6364136223846793005)) + (IntKind.u64.wrap (((cs.getD n0 0).toNat : Int))))) rfl rfl rfl zN (q_add (IntKind.u64.wrap ((IntKind.u64.wrap ((IntKind.u64.wrap (sd * 6364136223846793005)) + (IntKind.u64.wrap (((cs.getD n0 0).toNat : Int))))) + 1442695040888963407)) rfl rfl rfl zN (q_nil rfl zN ?_))))))))))))
  refine q_fld 2 z149_1 rfl zN (e_setB (w := w2) sz152 rfl rfl ⟨rfl,rfl⟩ hBx2 sM zN fun w3 hC3 hz3 hB3 => ?_)
  have hE3 : Chg [g] w w3 := hE2.trans hC3
  have hBx3 : BX w3.heap g [sv,(.int .i64 ((n0 + 1 :Nat):Int)),(.int .u64 (IntKind.u64.wrap ((IntKind.u64.wrap ((IntKind.u64.wrap (sd * 6364136223846793005)) + (IntKind.u64.wrap (((cs.getD n0 0).toNat : Int))))) + 1442695040888963407)))] := hB3
  refine lw_nil (wp_seq (wp_seq (wp_draw _ [0,0,0,1,0,0,0,1,0,0] mixed z149_1 (lw_tv 1 rfl (q_nil rfl zN (q_fld 1 z149_1 rfl zN (q_load (p := (.pointer (some ⟨g,1,none⟩))) (.inl rfl) (.int .i64 ((n0 + 1 :Nat):Int)) one3 rfl (hBx3.ld (k := 1) sM) zN (lw_tv 1 rfl (q_nil rfl zN (q_fld 0 z149_1 rfl zN (q_load (p := (.pointer (some ⟨g,0,none⟩))) (.inl rfl) sv one22 rfl (hBx3.ld (k := 0) sM) zN (q_len (v := sv) u22 rfl (hrs _ hE3.drew).isSl zN ?_))))))))))))
  by_cases hc4 : ((n0 + 1 :Nat):Int) ≤ ((cs.length :Nat):Int)
  ·
   refine q_leq true rfl rfl (decide_eq_true hc4) zN (lw_nil (c_cond_t rfl (wp_seq (wp_plain _ [0,0] rfl (lw_tvn 2 rfl (wp_ret (t_ret ?_)))))))
   have hu8 := u8_lt (cs.getD n0 0)
   exact post_ret [2] rfl (.int .i64 ((cs.getD n0 0).toNat : Int)) rfl ⟨((cs.getD n0 0).toNat : Int),n0 + 1,rfl,hE3.drew,(hs.close hE3.drew hBx3),⟨by omega,by omega⟩,z149_0⟩
  ·
   refine q_leq false rfl rfl (decide_eq_false hc4) zN (lw_nil (c_cond_f rfl (wp_skip (wp_seq (wp_plain _ [0,0,0,2,0,0,0,0] rfl (lw_tv 1 rfl (q_nil rfl zN (q_fld 2 z149_1 rfl zN (q_load (p := (.pointer (some ⟨g,2,none⟩))) (.inr rfl) (.int .u64 (IntKind.u64.wrap ((IntKind.u64.wrap ((IntKind.u64.wrap (sd * 6364136223846793005)) + (IntKind.u64.wrap (((cs.getD n0 0).toNat : Int))))) + 1442695040888963407))) one152 rfl (hBx3.ld (k := 2) sM) zN (q_shr ((IntKind.u64.wrap ((IntKind.u64.wrap ((IntKind.u64.wrap (sd * 6364136223846793005)) + (IntKind.u64.wrap (((cs.getD n0 0).toNat : Int))))) + 1442695040888963407)).fdiv (2 ^ (min (40 : Int).toNat (IntKind.u64).bits))) rfl rfl (by decide) rfl zN (q_and rfl rfl zN ?_)))))))))))
   refine q_conv (andV .u64 ((IntKind.u64.wrap ((IntKind.u64.wrap ((IntKind.u64.wrap (sd * 6364136223846793005)) + (IntKind.u64.wrap (((cs.getD n0 0).toNat : Int))))) + 1442695040888963407)).fdiv (2 ^ (min (40 : Int).toNat (IntKind.u64).bits))) 255) u152 u2 rfl (wand _) zN (lw_tvn 1 rfl (wp_ret ?_))
   have hu8 := u8_lt (cs.getD n0 0)
   exact post_ret [2] rfl (.int .i64 (andV .u64 ((IntKind.u64.wrap ((IntKind.u64.wrap ((IntKind.u64.wrap (sd * 6364136223846793005)) + (IntKind.u64.wrap (((cs.getD n0 0).toNat : Int))))) + 1442695040888963407)).fdiv (2 ^ (min (40 : Int).toNat (IntKind.u64).bits))) 255)) rfl ⟨andV .u64 ((IntKind.u64.wrap ((IntKind.u64.wrap ((IntKind.u64.wrap (sd * 6364136223846793005)) + (IntKind.u64.wrap (((cs.getD n0 0).toNat : Int))))) + 1442695040888963407)).fdiv (2 ^ (min (40 : Int).toNat (IntKind.u64).bits))) 255,n0 + 1,rfl,hE3.drew,(hs.close hE3.drew hBx3),⟨by omega,by omega⟩,z149_0⟩
 ·
  refine q_lss false rfl rfl (decide_eq_false hc1) zN (lw_nil (c_cond_f rfl (wp_skip (wp_seq (wp_plain _ [0,0,0,2,0,0,0,4] rfl (lw_tv 1 rfl (q_nil rfl zN (q_fld 1 z149_1 rfl zN (q_load (p := (.pointer (some ⟨g,1,none⟩))) (.inr rfl) (.int .i64 ((n0 :Nat):Int)) one3 rfl (hbx.ld (k := 1) sM) zN (q_add ((n0 + 1 :Nat):Int) rfl rfl (w64n oM sD) zN (q_nil rfl zN ?_)))))))))))
  refine q_fld 1 z149_1 rfl zN (e_setB (w := w.drew) sz3 rfl rfl ⟨rfl,rfl⟩ hbx sM zN fun w5 hC5 hz5 hB5 => ?_)
  replace hC5 := hC5.of_drew
  have hE5 : Chg [g] w w5 := hE0.trans hC5
  have hBx5 : BX w5.heap g [sv,(.int .i64 ((n0 + 1 :Nat):Int)),(.int .u64 sd)] := hB5
  refine lw_nil (wp_seq (wp_plain _ [0,0,0,0,2,0,0,0,0,0,0,0,4] rfl (lw_tv 2 rfl (q_nil rfl zN (q_fld 2 z149_1 rfl zN (q_load (p := (.pointer (some ⟨g,2,none⟩))) (.inr rfl) (.int .u64 sd) one152 rfl (hBx5.ld (k := 2) sM) zN (q_mul (IntKind.u64.wrap (sd * 6364136223846793005)) rfl rfl rfl zN (lw_tv 1 rfl (q_conv (IntKind.u64.wrap (((0 :Nat):Int))) u3 u152 rfl rfl zN (q_add (IntKind.u64.wrap ((IntKind.u64.wrap (sd * 6364136223846793005)) + (IntKind.u64.wrap (((0 :Nat):Int))))) rfl rfl rfl zN (q_add (IntKind.u64.wrap ((IntKind.u64.wrap ((IntKind.u64.wrap (sd * 6364136223846793005)) + (IntKind.u64.wrap (((0 :Nat):Int))))) + 1442695040888963407)) rfl rfl rfl zN (q_nil rfl zN (q_fld 2 z149_1 rfl zN ?_)))))))))))))
  refine e_setB (w := w5) sz152 rfl rfl ⟨rfl,rfl⟩ hBx5 sM zN fun w6 hC6 hz6 hB6 => ?_
  have hE6 : Chg [g] w w6 := hE5.trans hC6
  have hBx6 : BX w6.heap g [sv,(.int .i64 ((n0 + 1 :Nat):Int)),(.int .u64 (IntKind.u64.wrap ((IntKind.u64.wrap ((IntKind.u64.wrap (sd * 6364136223846793005)) + (IntKind.u64.wrap (((0 :Nat):Int))))) + 1442695040888963407)))] := hB6
  refine lw_nil (wp_seq (wp_seq (wp_draw _ [0,0,0,1,0,0,0,1,0,0] mixed z149_1 (lw_tv 1 rfl (q_nil rfl zN (q_fld 1 z149_1 rfl zN (q_load (p := (.pointer (some ⟨g,1,none⟩))) (.inl rfl) (.int .i64 ((n0 + 1 :Nat):Int)) one3 rfl (hBx6.ld (k := 1) sM) zN (lw_tv 1 rfl (q_nil rfl zN (q_fld 0 z149_1 rfl zN (q_load (p := (.pointer (some ⟨g,0,none⟩))) (.inl rfl) sv one22 rfl (hBx6.ld (k := 0) sM) zN (q_len (v := sv) u22 rfl (hrs _ hE6.drew).isSl zN ?_))))))))))))
  by_cases hc7 : ((n0 + 1 :Nat):Int) ≤ ((cs.length :Nat):Int)
  ·
   refine q_leq true rfl rfl (decide_eq_true hc7) zN (lw_nil (c_cond_t rfl (wp_seq (wp_plain _ [0,0] rfl (lw_tvn 2 rfl (wp_ret (t_ret ?_)))))))
   have hu8 := u8_lt (cs.getD n0 0)
   exact post_ret [2] rfl (.int .i64 ((0 :Nat):Int)) rfl ⟨((0 :Nat):Int),n0 + 1,rfl,hE6.drew,(hs.close hE6.drew hBx6),⟨by omega,by omega⟩,z149_0⟩
  ·
   refine q_leq false rfl rfl (decide_eq_false hc7) zN (lw_nil (c_cond_f rfl (wp_skip (wp_seq (wp_plain _ [0,0,0,2,0,0,0,0] rfl (lw_tv 1 rfl (q_nil rfl zN (q_fld 2 z149_1 rfl zN (q_load (p := (.pointer (some ⟨g,2,none⟩))) (.inr rfl) (.int .u64 (IntKind.u64.wrap ((IntKind.u64.wrap ((IntKind.u64.wrap (sd * 6364136223846793005)) + (IntKind.u64.wrap (((0 :Nat):Int))))) + 1442695040888963407))) one152 rfl (hBx6.ld (k := 2) sM) zN (q_shr ((IntKind.u64.wrap ((IntKind.u64.wrap ((IntKind.u64.wrap (sd * 6364136223846793005)) + (IntKind.u64.wrap (((0 :Nat):Int))))) + 1442695040888963407)).fdiv (2 ^ (min (40 : Int).toNat (IntKind.u64).bits))) rfl rfl (by decide) rfl zN (q_and rfl rfl zN ?_)))))))))))
   refine q_conv (andV .u64 ((IntKind.u64.wrap ((IntKind.u64.wrap ((IntKind.u64.wrap (sd * 6364136223846793005)) + (IntKind.u64.wrap (((0 :Nat):Int))))) + 1442695040888963407)).fdiv (2 ^ (min (40 : Int).toNat (IntKind.u64).bits))) 255) u152 u2 rfl (wand _) zN (lw_tvn 1 rfl (wp_ret ?_))
   have hu8 := u8_lt (cs.getD n0 0)
   exact post_ret [2] rfl (.int .i64 (andV .u64 ((IntKind.u64.wrap ((IntKind.u64.wrap ((IntKind.u64.wrap (sd * 6364136223846793005)) + (IntKind.u64.wrap (((0 :Nat):Int))))) + 1442695040888963407)).fdiv (2 ^ (min (40 : Int).toNat (IntKind.u64).bits))) 255)) rfl ⟨andV .u64 ((IntKind.u64.wrap ((IntKind.u64.wrap ((IntKind.u64.wrap (sd * 6364136223846793005)) + (IntKind.u64.wrap (((0 :Nat):Int))))) + 1442695040888963407)).fdiv (2 ^ (min (40 : Int).toNat (IntKind.u64).bits))) 255,n0 + 1,rfl,hE6.drew,(hs.close hE6.drew hBx6),⟨by omega,by omega⟩,z149_0⟩
theorem z80_0 {p : Prop} (h : p := by first | omega | exact ⟨Int.emod_nonneg _ oM, Int.le_of_lt (Int.lt_of_lt_of_le (Int.emod_lt_of_pos _ oM) oM), fun _ => Int.emod_lt_of_pos _ oM⟩) : p := h
theorem c_spec_l00Src_pick (w : World) (g : Nat) (sv : Value) (cs : List UInt8) (n0 : Nat) (k : Int) (hs : Src w.heap g sv cs n0) (hn0 : n0 + 2 ≤ 1000000000000) (_hk : -9223372036854775808 ≤ k ∧ k ≤ 9223372036854775807) (hk : k ≤ 1000000) :
  Calls Tryz.prog 80 #[.pointer (some ⟨g,0,none⟩),.int .i64 k] w (fun e w' => ∃ (x0 : Int) (n1 : Nat),e = .returned (.int .i64 x0) ∧ Chg [g] w w' ∧ Src w'.heap g sv cs n1 ∧ (n0 ≤ n1 ∧ n1 ≤ n0 + 2) ∧ (0 ≤ x0 ∧ x0 ≤ 1000000 ∧ (1 ≤ k → x0 < k))) := by
 refine calls_mk [.pointer (some ⟨g,0,none⟩),.int .i64 k] 20 Tryz.func80 rfl rfl sM ?_
 have hE0 : Chg [g] w w := Chg.refl [g] w
 have hgl := hs.lt
 refine wp_seq (wp_plain _ [0] rfl (lw_tvn 1 rfl (wp_seq (wp_seq (wp_plain _ [0,0] rfl (lw_tv 1 rfl ?_))))))
 by_cases hc1 : k ≤ ((1 :Nat):Int)
 ·
  exact q_leq true rfl rfl (decide_eq_true hc1) zN (lw_nil (c_cond_t rfl (wp_seq (wp_plain _ [0] rfl (lw_tvn 1 rfl (wp_ret (t_ret (post_ret [4] rfl (.int .i64 ((0 :Nat):Int)) rfl ⟨((0 :Nat):Int),n0,rfl,hE0,hs,⟨by omega,by omega⟩,z80_0⟩))))))))
 ·
  refine q_leq false rfl rfl (decide_eq_false hc1) zN (lw_nil (c_cond_f rfl (wp_skip (wp_seq (wp_plain _ [0,4,0] rfl (lw_tv 1 rfl (lw_callE 149 [] [] [(.pointer (some ⟨g,0,none⟩))] rfl rfl cf149 zN (c_spec_l00Src_next _ g _ _ _ hs oM) ?_)))))))
  rintro e2 w2 ⟨x2_0,n2,rfl,hC2,hs2,hb2,hp2_0⟩
  refine ⟨_,rfl,?_⟩
  have hzs2:=hC2.size
  have hE2 : Chg [g] w w2 := hE0.trans hC2
  refine lw_tvn 1 rfl (wp_seq (wp_seq (wp_plain _ [0,0] rfl (lw_tv 1 rfl ?_))))
  by_cases hc3 : ((200 :Nat):Int) < k
  ·
   refine q_gtr true rfl rfl (decide_eq_true hc3) zN (lw_nil (c_cond_t rfl (wp_plain _ [0,0,0,4,0,0] rfl (lw_tv 1 rfl ?_))))
   refine q_mul (x2_0 * ((256 :Nat):Int)) rfl rfl (w64 sD sD) zN (lw_tv 1 rfl ?_)
   refine lw_callE 149 [] [] [(.pointer (some ⟨g,0,none⟩))] rfl rfl cf149 zN (c_spec_l00Src_next _ g _ _ _ hs2 oM) ?_
   rintro e4 w4 ⟨x4_0,n4,rfl,hC4,hs4,hb4,hp4_0⟩
   refine ⟨_,rfl,?_⟩
   have hzs4:=hC4.size
   have hE4 : Chg [g] w w4 := hE2.trans hC4
   refine q_add ((x2_0 * ((256 :Nat):Int)) + x4_0) rfl rfl (w64 sD sD) zN (lw_tvn 1 rfl (wp_seq (wp_plain _ [0,0,0,0] rfl ?_)))
   exact lw_tv 2 rfl (q_rem (((x2_0 * ((256 :Nat):Int)) + x4_0) % k) rfl rfl oM (Int.tmod_eq_emod_of_nonneg oM) zN (lw_tvn 1 rfl (wp_ret (post_ret [4] rfl (.int .i64 (((x2_0 * ((256 :Nat):Int)) + x4_0) % k)) rfl ⟨((x2_0 * ((256 :Nat):Int)) + x4_0) % k,n4,rfl,hE4,hs4,⟨by omega,by omega⟩,z80_0⟩))))
  ·
   exact q_gtr false rfl rfl (decide_eq_false hc3) zN (lw_nil (c_cond_f rfl (wp_skip (wp_seq (wp_plain _ [0,0,0,0] rfl (lw_tv 2 rfl (q_rem ((x2_0) % k) rfl rfl oM (Int.tmod_eq_emod_of_nonneg oM) zN (lw_tvn 1 rfl (wp_ret (post_ret [4] rfl (.int .i64 ((x2_0) % k)) rfl ⟨(x2_0) % k,n2,rfl,hE2,hs2,⟨by omega,by omega⟩,z80_0⟩))))))))))
theorem c_spec_l00Src_one (w : World) (g : Nat) (sv : Value) (cs : List UInt8) (n0 : Nat) (k : Int) (hs : Src w.heap g sv cs n0) (hn0 : n0 + 2 ≤ 1000000000000) (_hk : -9223372036854775808 ≤ k ∧ k ≤ 9223372036854775807) (hk : k ≤ 1000000) :
  Calls Tryz.prog 143 #[.pointer (some ⟨g,0,none⟩),.int .i64 k] w (fun e w' => ∃ (x0 : Bool) (n1 : Nat),e = .returned (.bool x0) ∧ Chg [g] w w' ∧ Src w'.heap g sv cs n1 ∧ (n0 ≤ n1 ∧ n1 ≤ n0 + 2) ∧ True) := by
 refine calls_mk [.pointer (some ⟨g,0,none⟩),.int .i64 k] 9 Tryz.func143 rfl rfl sM ?_
 have hE0 : Chg [g] w w := Chg.refl [g] w
 have hgl := hs.lt
 refine wp_seq (wp_plain _ [0] rfl (lw_tvn 1 rfl (wp_seq (wp_plain _ [0,0,4,0,0] rfl (lw_tv 2 rfl (lw_callE 80 [] [] [(.pointer (some ⟨g,0,none⟩)),(.int .i64 k)] rfl rfl cf80 zN (c_spec_l00Src_pick _ g _ _ _ _ hs oM _hk sD) ?_))))))
 rintro e1 w1 ⟨x1_0,n1,rfl,hC1,hs1,hb1,hp1_0⟩
 refine ⟨_,rfl,?_⟩
 have hzs1:=hC1.size
 have hE1 : Chg [g] w w1 := hE0.trans hC1
 exact q_eql (decide (x1_0 = ((0 :Nat):Int))) rfl rfl rfl zN (lw_tvn 1 rfl (wp_ret (post_ret [4] rfl (.bool (decide (x1_0 = ((0 :Nat):Int)))) rfl ⟨decide (x1_0 = ((0 :Nat):Int)),n1,rfl,hE1,hs1,⟨by omega,by omega⟩,(by trivial)⟩)))
theorem c_spec_l01Any (w : World) (g : Nat) (sv : Value) (cs : List UInt8) (n0 : Nat) (hs : Src w.heap g sv cs n0) (hn0 : n0 + 8 ≤ 1000000000000)  :
  Calls Tryz.prog 150 #[.pointer (some ⟨g,0,none⟩)] w (fun e w' => ∃ (x0 : Int) (n1 : Nat),e = .returned (.int .i64 x0) ∧ Chg [g] w w' ∧ Src w'.heap g sv cs n1 ∧ (n0 ≤ n1 ∧ n1 ≤ n0 + 8) ∧ (0 ≤ x0 ∧ x0 < 1000003)) := by
 refine calls_mk [.pointer (some ⟨g,0,none⟩)] 25 Tryz.func150 rfl rfl sM ?_
 have hE0 : Chg [g] w w := Chg.refl [g] w
 have hgl := hs.lt
 refine wp_seq (wp_plain _ [0] rfl (lw_tvn 1 rfl (wp_seq (wp_seq (wp_plain _ [0,4] rfl (lw_tv 1 rfl (lw_callE 80 [] [] [(.pointer (some ⟨g,0,none⟩)),(.int .i64 ((6 :Nat):Int))] rfl rfl cf80 zN (c_spec_l00Src_pick _ g _ _ _ _ hs oM oM sD) ?_)))))))
 rintro e1 w1 ⟨x1_0,n1,rfl,hC1,hs1,hb1,hp1_0⟩
 refine ⟨_,rfl,?_⟩
 have hzs1:=hC1.size
 have hE1 : Chg [g] w w1 := hE0.trans hC1
 refine lw_nil (wp_block (wp_seq (wp_plain _ [0,0] rfl ?_)))
 by_cases hc2 : x1_0 = ((0 :Nat):Int)
 ·
  refine q_eql true rfl rfl (decide_eq_true hc2) zN (lw_tvn 1 rfl (c_cond_t rfl (wp_seq (wp_plain _ [0,4,0,0] rfl (lw_tv 1 rfl (lw_callE 80 [] [] [(.pointer (some ⟨g,0,none⟩)),(.int .i64 ((3 :Nat):Int))] rfl rfl cf80 zN (c_spec_l00Src_pick _ g _ _ _ _ hs1 oM oM sD) ?_))))))
  rintro e3 w3 ⟨x3_0,n3,rfl,hC3,hs3,hb3,hp3_0⟩
  refine ⟨_,rfl,?_⟩
  have hzs3:=hC3.size
  have hE3 : Chg [g] w w3 := hE1.trans hC3
  refine q_sub (((1000002 :Nat):Int) - x3_0) rfl rfl (w64 sD sD) zN (lw_tvn 1 rfl (wp_ret (b_ret (t_ret ?_))))
  exact post_ret [2] rfl (.int .i64 (((1000002 :Nat):Int) - x3_0)) rfl ⟨((1000002 :Nat):Int) - x3_0,n3,rfl,hE3,hs3,⟨by omega,by omega⟩,(by first | omega | exact md_num _)⟩
 ·
  refine q_eql false rfl rfl (decide_eq_false hc2) zN (lw_tvn 1 rfl (c_cond_f rfl (wp_seq (wp_plain _ [0,0] rfl ?_))))
  by_cases hc4 : x1_0 = ((1 :Nat):Int)
  ·
   refine q_eql true rfl rfl (decide_eq_true hc4) zN (lw_tvn 1 rfl (c_cond_t rfl (wp_seq (wp_plain _ [0,4,0,0,4,0,0,0,4,0,0,0] rfl (lw_tv 1 rfl (lw_callE 80 [] [] [(.pointer (some ⟨g,0,none⟩)),(.int .i64 ((256 :Nat):Int))] rfl rfl cf80 zN (c_spec_l00Src_pick _ g _ _ _ _ hs1 oM oM sD) ?_))))))
   rintro e5 w5 ⟨x5_0,n5,rfl,hC5,hs5,hb5,hp5_0⟩
   refine ⟨_,rfl,?_⟩
   have hzs5:=hC5.size
   have hE5 : Chg [g] w w5 := hE1.trans hC5
   refine q_mul (x5_0 * ((65536 :Nat):Int)) rfl rfl (w64 sD sD) zN (lw_tv 1 rfl ?_)
   refine lw_callE 80 [] [] [(.pointer (some ⟨g,0,none⟩)),(.int .i64 ((256 :Nat):Int))] rfl rfl cf80 zN (c_spec_l00Src_pick _ g _ _ _ _ hs5 oM oM sD) ?_
   rintro e6 w6 ⟨x6_0,n6,rfl,hC6,hs6,hb6,hp6_0⟩
   refine ⟨_,rfl,?_⟩
   have hzs6:=hC6.size
   have hE6 : Chg [g] w w6 := hE5.trans hC6
   refine q_mul (x6_0 * ((256 :Nat):Int)) rfl rfl (w64 sD sD) zN ?_
   refine q_add ((x5_0 * ((65536 :Nat):Int)) + (x6_0 * ((256 :Nat):Int))) rfl rfl (w64 sD sD) zN (lw_tv 1 rfl ?_)
   refine lw_callE 80 [] [] [(.pointer (some ⟨g,0,none⟩)),(.int .i64 ((256 :Nat):Int))] rfl rfl cf80 zN (c_spec_l00Src_pick _ g _ _ _ _ hs6 oM oM sD) ?_
   rintro e7 w7 ⟨x7_0,n7,rfl,hC7,hs7,hb7,hp7_0⟩
   refine ⟨_,rfl,?_⟩
   have hzs7:=hC7.size
   have hE7 : Chg [g] w w7 := hE6.trans hC7
   refine q_add (((x5_0 * ((65536 :Nat):Int)) + (x6_0 * ((256 :Nat):Int))) + x7_0) rfl rfl (w64 sD sD) zN ?_
   exact q_rem (md (((x5_0 * ((65536 :Nat):Int)) + (x6_0 * ((256 :Nat):Int))) + x7_0)) rfl rfl (by decide) (Int.tmod_eq_emod_of_nonneg oM) zN (lw_tvn 1 rfl (wp_ret (b_ret (t_ret (post_ret [2] rfl (.int .i64 (md (((x5_0 * ((65536 :Nat):Int)) + (x6_0 * ((256 :Nat):Int))) + x7_0))) rfl ⟨md (((x5_0 * ((65536 :Nat):Int)) + (x6_0 * ((256 :Nat):Int))) + x7_0),n7,rfl,hE7,hs7,⟨by omega,by omega⟩,(by first | omega | exact md_num _)⟩)))))
  ·
   refine q_eql false rfl rfl (decide_eq_false hc4) zN (lw_tvn 1 rfl (c_cond_f rfl (wp_skip (wp_seq (wp_plain _ [0,4,0] rfl (lw_tv 1 rfl (lw_callE 80 [] [] [(.pointer (some ⟨g,0,none⟩)),(.int .i64 ((7 :Nat):Int))] rfl rfl cf80 zN (c_spec_l00Src_pick _ g _ _ _ _ hs1 oM oM sD) ?_)))))))
   rintro e8 w8 ⟨x8_0,n8,rfl,hC8,hs8,hb8,hp8_0⟩
   refine ⟨_,rfl,?_⟩
   have hzs8:=hC8.size
   have hE8 : Chg [g] w w8 := hE1.trans hC8
   exact lw_tvn 1 rfl (wp_ret (post_ret [2] rfl (.int .i64 x8_0) rfl ⟨x8_0,n8,rfl,hE8,hs8,⟨by omega,by omega⟩,(by first | omega | exact md_num _)⟩))
theorem c_spec_l01Draw (w : World) (g : Nat) (sv : Value) (cs : List UInt8) (n0 : Nat) (k : Int) (hs : Src w.heap g sv cs n0) (hn0 : n0 + (8 * k.toNat) ≤ 1000000000000) (_hk : -9223372036854775808 ≤ k ∧ k ≤ 9223372036854775807) (hk : k ≤ 1000) :
  Calls Tryz.prog 81 #[.pointer (some ⟨g,0,none⟩),.int .i64 k] w (fun e w' => ∃ (v0 : Value) (x0 : List Int) (n1 : Nat),e = .returned (v0) ∧ Chg [g] w w' ∧ Src w'.heap g sv cs n1 ∧ (n0 ≤ n1 ∧ n1 ≤ n0 + (8 * k.toNat)) ∧ Fr (owL rI 2) w.heap.size w'.heap.size w'.heap v0 x0 ∧ (x0.length = k.toNat ∧ allN x0 = true)) := by
 refine calls_mk [.pointer (some ⟨g,0,none⟩),.int .i64 k] 19 Tryz.func81 rfl rfl sM ?_
 have hE0 : Chg [g] w w := Chg.refl [g] w
 have hgl := hs.lt
 refine wp_seq (wp_plain _ [0] rfl (lw_tvn 1 rfl (wp_seq (wp_plain _ [3,0] rfl (r_nil (rI) good_rI u27 ti2 zN fun v1 w1 hX1 hz1 hO1 => ?_)))))
 have hzs1:=hX1.size
 have hE1 : Chg [g] w w1 := hE0.ext hX1
 have hsx1 := hs.ext hX1
 refine lw_tvn 1 rfl (wp_seq (wp_seq (wp_plain _ [0] rfl (lw_tvn 1 rfl (wp_block ?_)))))
 refine c_loop (S := Nat × Value × List Int × Nat) (fun (⟨j,vo,xs,m⟩ : Nat × Value × List Int × Nat) => ([(5,vo),(6,(.int .i64 ((j :Nat):Int))),(0,(.pointer (some ⟨g,0,none⟩))),(1,(.int .i64 k))] : List (Nat × Value))) (fun (⟨j,vo,xs,m⟩ : Nat × Value × List Int × Nat) (W : World) => Chg [g] w W ∧ Fr (owL rI 2) w.heap.size W.heap.size W.heap vo xs ∧ Src W.heap g sv cs m ∧ j ≤ k.toNat ∧ (n0 ≤ m ∧ m ≤ n0 + 8 * j) ∧ (xs.length = j ∧ allN xs = true)) (fun (⟨j,vo,xs,m⟩ : Nat × Value × List Int × Nat) => k.toNat - j) (0,v1,[],n0) ⟨rfl,rfl,rfl,rfl,trivial⟩ ⟨hE1,hO1.up o1,hsx1,sD,oM,(by exact ⟨rfl,rfl⟩)⟩ ?_
 clear hE0 hO1 hz1 hX1 hzs1 hE1
 rintro ⟨j,vo,xs,m⟩ ρ2 w2 ⟨hE2,hL2_0,hL2_1,hp2_0,hm,hxs⟩
 have hzs2 : w.heap.size ≤ w2.heap.size := hE2.size
 refine wp_seq (wp_seq (wp_plain _ [0,0,0] rfl (lw_tv 2 rfl ?_)))
 by_cases hc3 : ((j :Nat):Int) < k
 ·
  refine q_lss true rfl rfl (decide_eq_true hc3) zN (lw_nil (c_cond_t rfl (wp_skip (wp_seq (wp_block (wp_plain _ [0,0,4,3,4,0] rfl (lw_tv 2 rfl (lw_callE 150 [] [] [(.pointer (some ⟨g,0,none⟩))] rfl rfl cf150 zN (c_spec_l01Any _ g _ _ _ hL2_1 oM) ?_))))))))
  rintro e4 w4 ⟨x4_0,n4,rfl,hC4,hs4,hb4,hp4_0⟩
  refine ⟨_,rfl,?_⟩
  have hzs4:=hC4.size
  have hE4 : Chg [g] w w4 := hE2.trans hC4
  have hF5 := hL2_0.chg (o1) hC4 (fun b hb => by have : b = g := (by simpa using hb); omega)
  refine r_one (u := (.int .i64 x4_0)) (B := w4.heap.size) good_rI u27 ti2 rfl rfl (frI w4.heap.size w4.heap.size _ _ oM) (Nat.le_refl _) zN fun v6 w6 hX6 hz6 hO6 => ?_
  have hzs6:=hX6.size
  have hE6 : Chg [g] w w6 := hE4.ext hX6
  have hF5x6 := hF5.ext (o1) hX6
  have hs4x6 := hs4.ext hX6
  refine e_appI (v := vo) (a := v6) u27 ti2 rfl rfl rfl hF5x6 hE6.size hO6.rd1 sD (by unfold maxLen; first | omega | assumption | (simp; done) | (simp; omega)) zN fun v7 w7 F7 hC7 hF7 hO7 => ?_
  have hE7 : Chg [g] w w7 := hE6.fresh hC7 (fun c hc => Nat.le_trans (Nat.le_refl _) (hF7 c hc).1)
  have hzs7:=hC7.size
  have hF8 := hs4x6.chg hC7 (fun c hc => by have := hF7 c hc; omega)
  have hF9 := hO6.chg (o1) hC7 (fun c hc => by have := hF7 c hc; omega)
  refine lw_tvn 1 rfl (wp_plain _ [0,0,0] rfl (lw_tv 1 rfl (q_add ((j + 1 :Nat):Int) rfl rfl (w64n oM oM) zN (lw_tvn 1 rfl ?_))))
  exact ⟨((j + 1),v7,(xs ++ [x4_0]),n4),_,rfl,⟨rfl,rfl,rfl,rfl,trivial⟩,⟨hE7,hO7.up o1,hF8,sD,oM,(by exact ⟨by rw [List.length_append,hxs.1]; rfl,by unfold allN at *; rw [List.all_append,hxs.2]; simp only [List.all_cons,List.all_nil,Bool.and_true,Bool.true_and]; exact isN_iff.2 oM⟩)⟩,by first | omega | (dsimp only; omega)⟩
 ·
  exact q_lss false rfl rfl (decide_eq_false hc3) zN (lw_nil (c_cond_f rfl (wp_exit (t_exit (t_exit (c_exit_here (wp_seq (wp_plain _ [0,0] rfl (lw_tvn 2 rfl (wp_ret (post_ret [4] rfl vo rfl ⟨vo,xs,m,rfl,hE2,hL2_1,⟨by omega,by omega⟩,hL2_0.up o1,(by exact ⟨by omega,hxs.2⟩)⟩)))))))))))
end Go.Proofs.YtnokbaiemimhjaaGreat
namespace Go.Proofs.YtnokbaiemimhjaaGreat
open Go Go.RowKit
set_option linter.unusedVariables false
set_option linter.unusedSimpArgs false
set_option maxHeartbeats 4000000
set_option maxRecDepth 100000
attribute [local irreducible] LW
theorem bld98a (a : Option Addr) (n c : Nat) (w : World) : (Instr.build 154 #[(0, .slice a n c)]).run Tryz.prog w = .ok (.agg #[.slice a n c, .int .i64 0, .int .u64 0]) w := by
  kernel_rfl
theorem bld98 {v : Value} {n : Nat} (h : isSl v n) (w : World) : (Instr.build 154 #[(0, v)]).run Tryz.prog w = .ok (.agg #[v, .int .i64 0, .int .u64 0]) w := by
  obtain ⟨a, c, rfl, _⟩ := h
  exact bld98a a n c w
theorem c_spec_l00From (w : World) (vc : Value) (cs : List UInt8) (hcs : Rd (rdL rU) w.heap vc cs)  :
  Calls Tryz.prog 64 #[vc] w (fun e w' => ∃ g : Nat,e = .returned (.pointer (some ⟨g,0,none⟩)) ∧ Ext w w' ∧ Src w'.heap g vc cs 0 ∧ w.heap.size ≤ g) := by
 refine calls_mk [vc] 6 Tryz.func64 rfl rfl sM ?_
 have hE0 : Ext w w := Ext.refl w
 have hl_vc := hcs.lenle
 refine wp_seq (wp_plain _ [0] rfl (lw_tvn 1 rfl (wp_seq (wp_plain _ [0,0,3,0] rfl (lw_tv 1 rfl (q_build (ps := #[(0,vc)]) (.agg #[vc,.int .i64 0,.int .u64 0]) (by simp only [List.map_toArray,List.map_cons,List.map_nil]; rfl) (fun wq => bld98 hcs.isSl wq) zN (r_boxA rfl zN fun w1 hX1 hz1 hB1 => ?_)))))))
 have hzs1:=hX1.size
 have hE1:=hE0.trans hX1
 have hs1 := Src.new hcs hE1 hB1 hE0.size
 exact lw_tvn 1 rfl (wp_ret (post_ret [2] rfl (.pointer (some ⟨w.heap.size,0,none⟩)) rfl ⟨w.heap.size,rfl,hE1,hs1,hE0.size⟩))
theorem c_spec_A2List (w : World) (vc : Value) (cs : List UInt8) (k : Int) (hcs : Rd (rdL rU) w.heap vc cs) (_hk : -9223372036854775808 ≤ k ∧ k ≤ 9223372036854775807) (hk : k ≤ 1000) :
  Calls Tryz.prog 25 #[vc,.int .i64 k] w (fun e w' => ∃ v0 : Value,∃ (x0 : List Int),e = .returned (v0) ∧ Ext w w' ∧ Fr (owL rI 2) w.heap.size w'.heap.size w'.heap v0 x0 ∧ (x0.length = k.toNat ∧ allN x0 = true)) := by
 refine calls_mk [vc,.int .i64 k] 9 Tryz.func25 rfl rfl sM ?_
 have hE0 : Ext w w := Ext.refl w
 have hl_vc := hcs.lenle
 refine wp_seq (wp_plain _ [0] rfl (lw_tvn 1 rfl (wp_seq (wp_plain _ [0,3,0,4,0] rfl (lw_tv 1 rfl (lw_call 64 [] [] [vc] rfl rfl cf64 zN (c_spec_l00From _ _ _ (hcs.ext good_u hE0)) ?_))))))
 rintro e1 w1 ⟨gB1,rfl,hX1,hs1,hg1⟩
 refine ⟨_,rfl,hX1,?_⟩
 have hzs1:=hX1.size
 have hE1:=hE0.trans hX1
 refine lw_tv 1 rfl (lw_callE 81 [] [] [(.pointer (some ⟨gB1,0,none⟩)),(.int .i64 k)] rfl rfl cf81 zN (c_spec_l01Draw _ gB1 _ _ _ _ hs1 oM _hk (by exact hk)) ?_)
 rintro e2 w2 ⟨v2_0,x2_0,n2,rfl,hC2,hs2,hb2,hO2_0,hp2_0⟩
 refine ⟨_,rfl,?_⟩
 have hzs2:=hC2.size
 have hE2 : Ext w w2 := hC2.below hE1 (fun b hb => by have : b = gB1 := (by simpa using hb); omega) hE1.size
 exact lw_tvn 1 rfl (wp_ret (post_ret [4] rfl v2_0 rfl ⟨v2_0,x2_0,rfl,hE2,(hO2_0.up o1).low hE1.size,(by assumption)⟩))
end Go.Proofs.YtnokbaiemimhjaaGreat
namespace Go.Proofs.YtnokbaiemimhjaaGreat
open Go Go.RowKit
set_option linter.unusedVariables false
set_option linter.unusedSimpArgs false
set_option maxHeartbeats 4000000
set_option maxRecDepth 100000
attribute [local irreducible] LW
theorem c_spec_l00Max (w : World) (a : Int) (b : Int) (_ha : -9223372036854775808 ≤ a ∧ a ≤ 9223372036854775807) (_hb : -9223372036854775808 ≤ b ∧ b ≤ 9223372036854775807)  :
  Calls Tryz.prog 252 #[.int .i64 a,.int .i64 b] w (fun e w' => e = .returned (.int .i64 (max a b)) ∧ w' = w) := by
 refine calls_mk [.int .i64 a,.int .i64 b] 10 Tryz.func252 rfl rfl sM ?_
 have hE0 : w = w := rfl
 refine wp_seq (wp_plain _ [0] rfl (lw_tvn 1 rfl (wp_seq (wp_seq (wp_plain _ [0,0,0] rfl (lw_tv 2 rfl ?_))))))
 by_cases hc1 : b < a
 ·
  exact q_gtr true rfl rfl (decide_eq_true hc1) zN (lw_nil (c_cond_t rfl (wp_seq (wp_plain _ [0,0] rfl (lw_tvn 2 rfl (wp_ret (t_ret (post_ret [4] rfl (.int .i64 a) rfl ⟨(ret_int oM),hE0⟩))))))))
 ·
  exact q_gtr false rfl rfl (decide_eq_false hc1) zN (lw_nil (c_cond_f rfl (wp_skip (wp_seq (wp_plain _ [0,0] rfl (lw_tvn 2 rfl (wp_ret (post_ret [4] rfl (.int .i64 b) rfl ⟨(ret_int oM),hE0⟩))))))))
theorem z235_0 {p : Prop} (h : p := by rw [lftE_eq, hx]; first | rw [List.take_of_length_le oM] | exact (lfts_stop oM).symm) : p := h
theorem c_spec_l02Left (w : World) (dex : Nat) (ve : Value) (ex : Ex) (left : Int) (hex : RN [] (rP (rEx dex)) w.heap ve ex) (_hleft : -9223372036854775808 ≤ left ∧ left ≤ 9223372036854775807) (hl0 : 0 ≤ left ∧ left ≤ 100000) (hs : ex.size ≤ 1000000000) :
  Calls Tryz.prog 235 #[ve,.int .i64 left] w (fun e w' => e = .returned (.int .i64 (lftE ex left)) ∧ Ext w w') := by
 induction dex using Nat.strongRecOn generalizing w ve ex left
 rename_i dex ih
 refine calls_mk [ve,.int .i64 left] 30 Tryz.func235 rfl rfl sM ?_
 have hE0 : Ext w w := Ext.refl w
 have hsk := size_kids ex
 refine wp_seq (wp_plain _ [0] rfl (lw_tvn 1 rfl (wp_seq (wp_plain _ [0,0,0] rfl (lw_tv 1 rfl (q_sub (left - 1) rfl rfl (w64 oM oM) zN (lw_tvn 1 rfl (wp_seq (wp_seq (wp_plain _ [0] rfl (lw_tvn 1 rfl (wp_block ?_))))))))))))
 refine c_loop (S := Nat × Int) (fun (⟨k,x⟩ : Nat × Int) => ([(1,(.int .i64 x)),(5,(.int .i64 ((k :Nat):Int))),(0,ve)] : List (Nat × Value))) (fun (⟨k,x⟩ : Nat × Int) (W : World) => Ext w W ∧ k ≤ ex.kids.length ∧ x = lfts (ex.kids.take k) (left - 1) ∧ (-1 ≤ x ∧ x ≤ left)) (fun (⟨k,x⟩ : Nat × Int) => ex.kids.length - k) (0,(left - 1)) ⟨rfl,rfl,rfl,trivial⟩ ⟨hE0,sD,(by rw [List.take_zero,lfts]),oM⟩ ?_
 clear hE0
 rintro ⟨k,x⟩ ρ1 w1 ⟨hE1,hp1_0,hx,hp1_2⟩
 have hzs1 : w.heap.size ≤ w1.heap.size := hE1.size
 refine wp_seq (wp_seq (wp_plain _ [0,0,0,0,2,0,0,0,0,0,0] rfl (lw_tv 2 rfl (q_nilP (hex.isPtr) rfl zN ?_))))
 obtain ⟨cs2,hr2,hl2⟩ := RN.at (good_rEx _) hex
 obtain ⟨dd2,ve2,hd2,rfl,hx2⟩ := RX.of hr2
 have hln2 := hx2.rn.lenle
 unfold maxLen at hln2
 refine q_fldL (p := ve) 4 fd174_4 rfl (hl2 _ (Chg.of_ext [] hE1)) zN (q_load (p := (padd ve 4)) (.inr rfl) ve2 one53 rfl ((hl2 _ (Chg.of_ext [] hE1)).ld (i := 4) (by simp [exC,fnC])) zN (q_len (v := ve2) u53 rfl hx2.rn.isSl zN ?_))
 by_cases hc3 : ((k :Nat):Int) < ((ex.kids.length :Nat):Int)
 ·
  refine q_lss true rfl rfl (decide_eq_true hc3) zN (lw_tv 2 rfl ?_)
  by_cases hc4 : ((0 :Nat):Int) ≤ x
  ·
   refine q_geq true rfl rfl (decide_eq_true hc4) (zS (e := 15) rfl rfl rfl) (lw_tvn 1 rfl (c_cond_t rfl (wp_skip (wp_seq (wp_block (wp_plain _ [0,0,0,2,0,0,0,3,0] rfl ?_))))))
   have hst := sizes_step (l := ex.kids) (k := k) oM
   have hle := sizes_take ex.kids (k + 1)
   have hnx := lfts_step (l := ex.kids) (k := k) (x := left - 1) oM oM
   have hnr := lftE_rng (e := ex.kids.getD k Ex.zero) (x := x) oM
   refine lw_tv 1 rfl (q_nilP (hex.isPtr) rfl zN (q_fldL (p := ve) 4 fd174_4 rfl (hl2 _ (Chg.of_ext [] hE1)) zN (q_load (p := (padd ve 4)) (.inr rfl) ve2 one53 rfl ((hl2 _ (Chg.of_ext [] hE1)).ld (i := 4) (by simp [exC,fnC])) zN (lw_tv 1 rfl (q_idx (v := ve2) k u53 tiS174 rfl rfl hx2.rn.isSl rfl sD zN (lw_tv 1 rfl ?_))))))
   refine lw_call 235 [] [] [(eptr ve2 k 5),(.int .i64 x)] rfl rfl cf235 zN (ih dd2 oM _ (eptr ve2 k 5) (ex.kids.getD k Ex.zero) _ (RN.ptr (good_rEx dd2) (by decide) Ex.zero (hx2.rn.ext (good_rdS (good_rEx dd2)) hE1) sD) oM oM oM) ?_
   rintro e5 w5 ⟨rfl,hX5⟩
   refine ⟨_,rfl,hX5,?_⟩
   have hzs5:=hX5.size
   have hE5:=hE1.trans hX5
   refine lw_tvn 1 rfl (wp_plain _ [0,0,0] rfl (lw_tv 1 rfl (q_add ((k + 1 :Nat):Int) rfl rfl (w64n oM sD) zN (lw_tvn 1 rfl ?_))))
   exact ⟨((k + 1),(lftE (ex.kids.getD k Ex.zero) x)),_,rfl,⟨rfl,rfl,rfl,trivial⟩,⟨hE5,sD,(by rw [hnx,hx]),oM⟩,by first | omega | (dsimp only; omega)⟩
  ·
   exact q_geq false rfl rfl (decide_eq_false hc4) (zS (e := 15) rfl rfl rfl) (lw_tvn 1 rfl (c_cond_f rfl (wp_exit (t_exit (t_exit (c_exit_here (wp_seq (wp_plain _ [0,0] rfl (lw_tvn 2 rfl (wp_ret (post_ret [4] rfl (.int .i64 x) rfl ⟨(ret_int z235_0),hE1⟩)))))))))))
 ·
  exact q_lss false rfl rfl (decide_eq_false hc3) zN (lw_tvn 4 rfl (c_cond_f rfl (wp_exit (t_exit (t_exit (c_exit_here (wp_seq (wp_plain _ [0,0] rfl (lw_tvn 2 rfl (wp_ret (post_ret [4] rfl (.int .i64 x) rfl ⟨(ret_int z235_0),hE1⟩)))))))))))
theorem c_spec_l02Depth (w : World) (dex : Nat) (ve : Value) (ex : Ex) (hex : RN [] (rP (rEx dex)) w.heap ve ex) (hs : ex.size ≤ 1000000000) :
  Calls Tryz.prog 246 #[ve] w (fun e w' => e = .returned (.int .i64 ((ex.deep :Nat):Int)) ∧ Ext w w') := by
 induction dex using Nat.strongRecOn generalizing w ve ex
 rename_i dex ih
 refine calls_mk [ve] 25 Tryz.func246 rfl rfl sM ?_
 have hE0 : Ext w w := Ext.refl w
 have hsk := size_kids ex
 have hdk := deep_kids ex
 refine wp_seq (wp_plain _ [0] rfl (lw_tvn 1 rfl (wp_seq (wp_plain _ [0] rfl (lw_tvn 1 rfl (wp_seq (wp_seq (wp_plain _ [0] rfl (lw_tvn 1 rfl (wp_block ?_))))))))))
 refine c_loop (S := Nat × Int) (fun (⟨k,sz⟩ : Nat × Int) => ([(3,(.int .i64 sz)),(4,(.int .i64 ((k :Nat):Int))),(0,ve)] : List (Nat × Value))) (fun (⟨k,sz⟩ : Nat × Int) (W : World) => Ext w W ∧ k ≤ ex.kids.length ∧ sz = ((Ex.deeps (ex.kids.take k) :Nat):Int) ∧ (0 ≤ sz ∧ sz ≤ 1000000000)) (fun (⟨k,sz⟩ : Nat × Int) => ex.kids.length - k) (0,((0 :Nat):Int)) ⟨rfl,rfl,rfl,trivial⟩ ⟨hE0,sD,(by rw [List.take_zero,deeps_nil] <;> rfl),oM⟩ ?_
 clear hE0
 rintro ⟨k,sz⟩ ρ1 w1 ⟨hE1,hp1_0,hsz,hp1_2⟩
 have hzs1 : w.heap.size ≤ w1.heap.size := hE1.size
 refine wp_seq (wp_seq (wp_plain _ [0,0,0,0,2,0,0] rfl (lw_tv 2 rfl (q_nilP (hex.isPtr) rfl zN ?_))))
 obtain ⟨cs2,hr2,hl2⟩ := RN.at (good_rEx _) hex
 obtain ⟨dd2,ve2,hd2,rfl,hx2⟩ := RX.of hr2
 have hln2 := hx2.rn.lenle
 unfold maxLen at hln2
 refine q_fldL (p := ve) 4 fd174_4 rfl (hl2 _ (Chg.of_ext [] hE1)) zN (q_load (p := (padd ve 4)) (.inr rfl) ve2 one53 rfl ((hl2 _ (Chg.of_ext [] hE1)).ld (i := 4) (by simp [exC,fnC])) zN (q_len (v := ve2) u53 rfl hx2.rn.isSl zN ?_))
 by_cases hc3 : ((k :Nat):Int) < ((ex.kids.length :Nat):Int)
 ·
  refine q_lss true rfl rfl (decide_eq_true hc3) zN (lw_nil (c_cond_t rfl (wp_skip (wp_seq (wp_block (wp_plain _ [0,0,0,0,2,0,0,3,0,0] rfl ?_))))))
  have hst := sizes_step (l := ex.kids) (k := k) oM
  have hle := sizes_take ex.kids (k + 1)
  have hdt := deeps_step (l := ex.kids) (k := k) oM
  have hda := deep_size (ex.kids.getD k Ex.zero)
  have hdz := deeps_size (ex.kids.take k)
  refine lw_tv 2 rfl (q_nilP (hex.isPtr) rfl zN (q_fldL (p := ve) 4 fd174_4 rfl (hl2 _ (Chg.of_ext [] hE1)) zN (q_load (p := (padd ve 4)) (.inr rfl) ve2 one53 rfl ((hl2 _ (Chg.of_ext [] hE1)).ld (i := 4) (by simp [exC,fnC])) zN (lw_tv 1 rfl (q_idx (v := ve2) k u53 tiS174 rfl rfl hx2.rn.isSl rfl sD zN ?_)))))
  refine lw_call 246 [] [] [(eptr ve2 k 5)] rfl rfl cf246 zN (ih dd2 oM _ (eptr ve2 k 5) (ex.kids.getD k Ex.zero) (RN.ptr (good_rEx dd2) (by decide) Ex.zero (hx2.rn.ext (good_rdS (good_rEx dd2)) hE1) sD) oM) ?_
  rintro e4 w4 ⟨rfl,hX4⟩
  refine ⟨_,rfl,hX4,?_⟩
  have hzs4:=hX4.size
  have hE4:=hE1.trans hX4
  refine lw_callq 252 [] [] [(.int .i64 sz),(.int .i64 (((ex.kids.getD k Ex.zero).deep :Nat):Int))] rfl rfl cf252 zN (.int .i64 (max sz (((ex.kids.getD k Ex.zero).deep :Nat):Int))) (fun wq => c_spec_l00Max wq _ _ oM (by have := deep_size (ex.kids.getD k Ex.zero); omega)) (lw_tvn 1 rfl (wp_plain _ [0,0,0] rfl (lw_tv 1 rfl (q_add ((k + 1 :Nat):Int) rfl rfl (w64n oM sD) zN (lw_tvn 1 rfl ?_)))))
  exact ⟨((k + 1),(max sz (((ex.kids.getD k Ex.zero).deep :Nat):Int))),_,rfl,⟨rfl,rfl,rfl,trivial⟩,⟨hE4,sD,oM,oM⟩,by first | omega | (dsimp only; omega)⟩
 ·
  refine q_lss false rfl rfl (decide_eq_false hc3) zN (lw_nil (c_cond_f rfl (wp_exit (t_exit (t_exit (c_exit_here (wp_seq (wp_plain _ [0,0,0] rfl ?_))))))))
  have h8 := deeps_all (l := ex.kids) (k := k) oM
  have h9 := deep_size ex
  exact lw_tv 1 rfl (q_add (sz + 1) rfl rfl (w64 oM oM) zN (lw_tvn 1 rfl (wp_ret (post_ret [2] rfl (.int .i64 (sz + 1)) rfl ⟨(ret_int oM),hE1⟩))))
theorem z202_0 {p : Prop} (h : p := by unfold kdN; repeat (first | rfl | (rw [if_pos oM]) | (rw [if_neg oM]))) : p := h
theorem c_spec_l02Kids (w : World) (kind : Int) (_hkind : -9223372036854775808 ≤ kind ∧ kind ≤ 9223372036854775807)  :
  Calls Tryz.prog 202 #[.int .i64 kind] w (fun e w' => e = .returned (.int .i64 (kdN kind)) ∧ w' = w) := by
 refine calls_mk [.int .i64 kind] 17 Tryz.func202 rfl rfl sM ?_
 have hE0 : w = w := rfl
 refine wp_seq (wp_plain _ [0] rfl (lw_tvn 1 rfl (wp_seq (wp_seq (wp_plain _ [0] rfl (lw_tvn 1 rfl (wp_block (wp_seq (wp_seq (wp_plain _ [0,0] rfl ?_))))))))))
 by_cases hc1 : kind = ((1 :Nat):Int)
 ·
  exact q_eql true rfl rfl (decide_eq_true hc1) zN (lw_tvn 1 rfl (c_cond_t rfl (wp_skip (c_cond_t rfl (wp_seq (wp_plain _ [0] rfl (lw_tvn 1 rfl (wp_ret (b_ret (t_ret (post_ret [2] rfl (.int .i64 ((0 :Nat):Int)) rfl ⟨(ret_int z202_0),hE0⟩)))))))))))
 ·
  refine q_eql false rfl rfl (decide_eq_false hc1) zN (lw_tvn 1 rfl (c_cond_f rfl (wp_plain _ [0,0] rfl ?_)))
  by_cases hc2 : kind = ((2 :Nat):Int)
  ·
   exact q_eql true rfl rfl (decide_eq_true hc2) zN (lw_tvn 1 rfl (c_cond_t rfl (wp_seq (wp_plain _ [0] rfl (lw_tvn 1 rfl (wp_ret (b_ret (t_ret (post_ret [2] rfl (.int .i64 ((0 :Nat):Int)) rfl ⟨(ret_int z202_0),hE0⟩)))))))))
  ·
   refine q_eql false rfl rfl (decide_eq_false hc2) zN (lw_tvn 1 rfl (c_cond_f rfl (wp_seq (wp_seq (wp_plain _ [0,0] rfl ?_)))))
   by_cases hc3 : kind = ((3 :Nat):Int)
   ·
    exact q_eql true rfl rfl (decide_eq_true hc3) zN (lw_tvn 1 rfl (c_cond_t rfl (wp_skip (c_cond_t rfl (wp_seq (wp_plain _ [0] rfl (lw_tvn 1 rfl (wp_ret (b_ret (t_ret (post_ret [2] rfl (.int .i64 ((2 :Nat):Int)) rfl ⟨(ret_int z202_0),hE0⟩)))))))))))
   ·
    refine q_eql false rfl rfl (decide_eq_false hc3) zN (lw_tvn 1 rfl (c_cond_f rfl (wp_seq (wp_plain _ [0,0] rfl ?_))))
    by_cases hc4 : kind = ((4 :Nat):Int)
    ·
     exact q_eql true rfl rfl (decide_eq_true hc4) zN (lw_tvn 1 rfl (c_cond_t rfl (wp_skip (c_cond_t rfl (wp_seq (wp_plain _ [0] rfl (lw_tvn 1 rfl (wp_ret (b_ret (t_ret (post_ret [2] rfl (.int .i64 ((2 :Nat):Int)) rfl ⟨(ret_int z202_0),hE0⟩)))))))))))
    ·
     refine q_eql false rfl rfl (decide_eq_false hc4) zN (lw_tvn 1 rfl (c_cond_f rfl (wp_seq (wp_plain _ [0,0] rfl ?_))))
     by_cases hc5 : kind = ((5 :Nat):Int)
     ·
      exact q_eql true rfl rfl (decide_eq_true hc5) zN (lw_tvn 1 rfl (c_cond_t rfl (wp_skip (c_cond_t rfl (wp_seq (wp_plain _ [0] rfl (lw_tvn 1 rfl (wp_ret (b_ret (t_ret (post_ret [2] rfl (.int .i64 ((2 :Nat):Int)) rfl ⟨(ret_int z202_0),hE0⟩)))))))))))
     ·
      refine q_eql false rfl rfl (decide_eq_false hc5) zN (lw_tvn 1 rfl (c_cond_f rfl (wp_seq (wp_plain _ [0,0] rfl ?_))))
      by_cases hc6 : kind = ((6 :Nat):Int)
      ·
       exact q_eql true rfl rfl (decide_eq_true hc6) zN (lw_tvn 1 rfl (c_cond_t rfl (wp_skip (c_cond_t rfl (wp_seq (wp_plain _ [0] rfl (lw_tvn 1 rfl (wp_ret (b_ret (t_ret (post_ret [2] rfl (.int .i64 ((2 :Nat):Int)) rfl ⟨(ret_int z202_0),hE0⟩)))))))))))
      ·
       refine q_eql false rfl rfl (decide_eq_false hc6) zN (lw_tvn 1 rfl (c_cond_f rfl (wp_plain _ [0,0] rfl ?_)))
       by_cases hc7 : kind = ((9 :Nat):Int)
       ·
        exact q_eql true rfl rfl (decide_eq_true hc7) zN (lw_tvn 1 rfl (c_cond_t rfl (wp_seq (wp_plain _ [0] rfl (lw_tvn 1 rfl (wp_ret (b_ret (t_ret (post_ret [2] rfl (.int .i64 ((2 :Nat):Int)) rfl ⟨(ret_int z202_0),hE0⟩)))))))))
       ·
        refine q_eql false rfl rfl (decide_eq_false hc7) zN (lw_tvn 1 rfl (c_cond_f rfl (wp_seq (wp_plain _ [0,0] rfl ?_))))
        by_cases hc8 : kind = ((7 :Nat):Int)
        ·
         exact q_eql true rfl rfl (decide_eq_true hc8) zN (lw_tvn 1 rfl (c_cond_t rfl (wp_seq (wp_plain _ [0] rfl (lw_tvn 1 rfl (wp_ret (b_ret (t_ret (post_ret [2] rfl (.int .i64 ((1 :Nat):Int)) rfl ⟨(ret_int z202_0),hE0⟩)))))))))
        ·
         refine q_eql false rfl rfl (decide_eq_false hc8) zN (lw_tvn 1 rfl (c_cond_f rfl (wp_seq (wp_plain _ [0,0] rfl ?_))))
         by_cases hc9 : kind = ((8 :Nat):Int)
         ·
          exact q_eql true rfl rfl (decide_eq_true hc9) zN (lw_tvn 1 rfl (c_cond_t rfl (wp_seq (wp_plain _ [0] rfl (lw_tvn 1 rfl (wp_ret (b_ret (t_ret (post_ret [2] rfl (.int .i64 ((3 :Nat):Int)) rfl ⟨(ret_int z202_0),hE0⟩)))))))))
         ·
          exact q_eql false rfl rfl (decide_eq_false hc9) zN (lw_tvn 1 rfl (c_cond_f rfl (wp_skip (wp_seq (wp_plain _ [0] rfl (lw_tvn 1 rfl (wp_ret (post_ret [2] rfl (.int .i64 (-1)) rfl ⟨(ret_int z202_0),hE0⟩))))))))
theorem z253_0 {p : Prop} (h : p := by first | exact ret_bool (nd_bad oM oM oM) | exact ret_bool (nd_1 oM oM oM oM) | exact ret_bool (nd_2 oM oM oM oM) | exact ret_bool ((decide_congr oM).trans (nd_o oM oM oM oM oM oM oM)) | exact ret_bool (by unfold wfN plainB inB; first | (simp [*]; done) | (simp [*]; omega) | (simp [*] <;> intros <;> omega) | (simp_all; done) | (simp_all <;> omega))) : p := h
theorem z253_1 {p : Prop} (h : p := by simp [exC, fnC]) : p := h
theorem c_spec_l02Node (w : World) (dp : Nat) (vp : Value) (p : List Fn) (dex : Nat) (ve : Value) (ex : Ex) (vars : Int) (funcs : Int) (hp : RN [] (rP (rPr dp)) w.heap vp p) (hex : RN [] (rP (rEx dex)) w.heap ve ex) (_hvars : -9223372036854775808 ≤ vars ∧ vars ≤ 9223372036854775807) (_hfuncs : -9223372036854775808 ≤ funcs ∧ funcs ≤ 9223372036854775807) (hv : 0 ≤ vars ∧ vars ≤ 2000000000) (hf : 0 ≤ funcs ∧ funcs ≤ ((p.length :Nat):Int)) :
  Calls Tryz.prog 253 #[vp,ve,.int .i64 vars,.int .i64 funcs] w (fun e w' => e = .returned (.bool (wfN p funcs vars ex)) ∧ Ext w w') := by
 refine calls_mk [vp,ve,.int .i64 vars,.int .i64 funcs] 140 Tryz.func253 rfl rfl sM ?_
 have hE0 : Ext w w := Ext.refl w
 refine wp_seq (wp_plain _ [0] rfl (lw_tvn 1 rfl (wp_seq (wp_seq (wp_plain _ [0,0,0,2,0,0,0,0,0,2,0,0] rfl (lw_tv 1 rfl (q_nilP (hex.isPtr) rfl zN ?_)))))))
 obtain ⟨cs1,hr1,hl1⟩ := RN.at (good_rEx _) hex
 obtain ⟨dd1,ve1,hd1,rfl,hx1⟩ := RX.of hr1
 have hln1 := hx1.rn.lenle
 unfold maxLen at hln1
 refine q_fldL (p := ve) 0 fd174_0 rfl (hl1 _ (Chg.of_ext [] hE0)) zN (q_load (p := (padd ve 0)) (.inr rfl) (.int .i64 ex.kind) one2 rfl ((hl1 _ (Chg.of_ext [] hE0)).ld (i := 0) z253_1) zN ?_)
 by_cases hc2 : ex.kind = ((10 :Nat):Int)
 ·
  refine q_eql true rfl rfl (decide_eq_true hc2) zN (lw_tvn 7 rfl (c_cond_t rfl (wp_seq (wp_seq (wp_plain _ [0,0,0,2,0,0,0,0] rfl (lw_tv 1 rfl (q_nilP (hex.isPtr) rfl zN (q_fldL (p := ve) 1 fd174_1 rfl (hl1 _ (Chg.of_ext [] hE0)) zN (q_load (p := (padd ve 1)) (.inr rfl) (.int .i64 ex.num) one2 rfl ((hl1 _ (Chg.of_ext [] hE0)).ld (i := 1) z253_1) zN (lw_tv 1 rfl (q_sub (funcs - 1) rfl rfl (w64 oM oM) zN (lw_callq 92 [] [] [(.int .i64 ex.num),(.int .i64 ((0 :Nat):Int)),(.int .i64 (funcs - 1))] rfl rfl cf92 zN (.bool (decide (((0 :Nat):Int) ≤ ex.num) && decide (ex.num ≤ (funcs - 1)))) (fun wq => c_spec_l00In wq _ _ _ hx1.rng.num oM oM) ?_))))))))))))
  refine q_not (!(decide (((0 :Nat):Int) ≤ ex.num) && decide (ex.num ≤ (funcs - 1)))) rfl rfl zN (lw_nil ?_)
  cases hb4 : (!(decide (((0 :Nat):Int) ≤ ex.num) && decide (ex.num ≤ (funcs - 1))))
  ·
   refine c_cond_f (by first | rfl | (show Value.bool _ = _; rw [hb4])) (wp_skip (wp_seq (wp_draw _ [0,0,0,1,0,0,0,1,0,0] mixed (by kernel_rfl) ?_)))
   have hnr := inB_e (bn_f (by assumption) : (decide (((0 :Nat):Int) ≤ ex.num) && decide (ex.num ≤ funcs - 1)) = true)
   refine lw_tv 1 rfl (q_nilP (hp.isPtr) rfl zN ?_)
   obtain ⟨cs5,hr5,hl5⟩ := RN.at (good_rPr _) hp
   obtain ⟨ve5,rfl,hx5⟩ := RPr.of hr5
   have hln5 := hx5.lenle
   unfold maxLen at hln5
   refine q_fldL (p := vp) 0 fd26_0 rfl (hl5 _ (Chg.of_ext [] hE0.drew)) zN (q_load (p := (padd vp 0)) (.inl rfl) ve5 one24 rfl ((hl5 _ (Chg.of_ext [] hE0.drew)).ld (i := 0) z253_1) zN (lw_tv 1 rfl (q_nilP (hex.isPtr) rfl zN (q_fldL (p := ve) 1 fd174_1 rfl (hl1 _ (Chg.of_ext [] hE0.drew)) zN (q_load (p := (padd ve 1)) (.inl rfl) (.int .i64 ex.num) one2 rfl ((hl1 _ (Chg.of_ext [] hE0.drew)).ld (i := 1) z253_1) zN ?_)))))
   refine q_idx (v := ve5) ((ex.num).toNat) u24 tiS55 rfl rfl hx5.isSl oM sD zN (lw_tvn 1 rfl (wp_seq (wp_seq (wp_draw _ [0,0,0,1,0,0,0,1,0,0,0,0,0,0,0,0,1,0,0,0,0,1,0,0] mixed (by kernel_rfl) (lw_tv 1 rfl (q_nilP (hex.isPtr) rfl zN (q_fldL (p := ve) 2 fd174_2 rfl (hl1 _ (Chg.of_ext [] hE0.drew.drew)) zN ?_)))))))
   refine q_load (p := (padd ve 2)) (.inl rfl) (.int .i64 ex.pick) one2 rfl ((hl1 _ (Chg.of_ext [] hE0.drew.drew)).ld (i := 2) z253_1) zN (lw_tv 1 rfl (q_nilP (RN.isPtr (RN.ptr (good_rFn dp) (by decide) Fn.zero hx5 sD)) rfl zN ?_))
   obtain ⟨cs6,hr6,hl6⟩ := hx5.get (good_rFn dp) Fn.zero (k := ((ex.num).toNat)) sD
   obtain ⟨ve6,rfl,hx6⟩ := RF.of hr6
   have hln6 := hx6.rn.lenle
   unfold maxLen at hln6
   refine q_fldL (p := eptr ve5 ((ex.num).toNat) 3) 2 fd55_2 rfl (hl6 _ (Chg.of_ext [] hE0.drew.drew)) zN (q_load (p := (padd (eptr ve5 ((ex.num).toNat) 3) 2)) (.inl rfl) ve6 one53 rfl ((hl6 _ (Chg.of_ext [] hE0.drew.drew)).ld (i := 2) z253_1) zN (q_len (v := ve6) u53 rfl hx6.rn.isSl zN (q_sub ((((p.getD (ex.num).toNat Fn.zero).outs.length :Nat):Int) - 1) rfl rfl (w64 oM oM) zN (lw_callq 92 [] [] [(.int .i64 ex.pick),(.int .i64 ((0 :Nat):Int)),(.int .i64 ((((p.getD (ex.num).toNat Fn.zero).outs.length :Nat):Int) - 1))] rfl rfl cf92 zN (.bool (decide (((0 :Nat):Int) ≤ ex.pick) && decide (ex.pick ≤ ((((p.getD (ex.num).toNat Fn.zero).outs.length :Nat):Int) - 1)))) (fun wq => c_spec_l00In wq _ _ _ hx1.rng.pick oM oM) ?_))))
   refine q_not (!(decide (((0 :Nat):Int) ≤ ex.pick) && decide (ex.pick ≤ ((((p.getD (ex.num).toNat Fn.zero).outs.length :Nat):Int) - 1)))) rfl rfl zN (lw_tv 1 rfl ?_)
   cases hb8 : (!(decide (((0 :Nat):Int) ≤ ex.pick) && decide (ex.pick ≤ ((((p.getD (ex.num).toNat Fn.zero).outs.length :Nat):Int) - 1))))
   ·
    refine lw_tv 1 rfl (q_nilP (hex.isPtr) rfl (zS (e := 51) rfl rfl rfl) (q_fldL (p := ve) 4 fd174_4 rfl (hl1 _ (Chg.of_ext [] hE0.drew.drew)) (zS (e := 51) rfl rfl rfl) (q_load (p := (padd ve 4)) (.inl rfl) ve1 one53 rfl ((hl1 _ (Chg.of_ext [] hE0.drew.drew)).ld (i := 4) z253_1) (zS (e := 51) rfl rfl rfl) (q_len (v := ve1) u53 rfl hx1.rn.isSl (zS (e := 51) rfl rfl rfl) (lw_tv 1 rfl ?_)))))
    refine q_nilP (RN.isPtr (RN.ptr (good_rFn dp) (by decide) Fn.zero hx5 sD)) rfl (zS (e := 51) rfl rfl rfl) (q_fldL (p := eptr ve5 ((ex.num).toNat) 3) 1 fd55_1 rfl (hl6 _ (Chg.of_ext [] hE0.drew.drew)) (zS (e := 51) rfl rfl rfl) (q_load (p := (padd (eptr ve5 ((ex.num).toNat) 3) 1)) (.inl rfl) (.int .i64 ((p.getD ((ex.num).toNat) Fn.zero).params)) one2 rfl ((hl6 _ (Chg.of_ext [] hE0.drew.drew)).ld (i := 1) z253_1) (zS (e := 51) rfl rfl rfl) ?_))
    by_cases hc9 : ((ex.kids.length :Nat):Int) ≠ (p.getD ((ex.num).toNat) Fn.zero).params
    ·
     exact q_neq true rfl rfl (decide_eq_true hc9) (zS (e := 51) rfl rfl rfl) (lw_tvn 1 rfl (c_cond_t rfl (wp_seq (wp_plain _ [0] rfl (lw_tvn 1 rfl (wp_ret (t_ret (t_ret (post_ret [8] rfl (.bool false) rfl ⟨z253_0,hE0.drew.drew⟩)))))))))
    ·
     refine q_neq false rfl rfl (decide_eq_false hc9) (zS (e := 51) rfl rfl rfl) (lw_tvn 1 rfl (c_cond_f rfl (wp_skip (wp_seq (wp_seq (wp_plain _ [0,0,0,2,0] rfl (lw_tv 1 rfl (q_nilP (hex.isPtr) rfl zN (q_fldL (p := ve) 0 fd174_0 rfl (hl1 _ (Chg.of_ext [] hE0.drew.drew)) zN (q_load (p := (padd ve 0)) (.inr rfl) (.int .i64 ex.kind) one2 rfl ((hl1 _ (Chg.of_ext [] hE0.drew.drew)).ld (i := 0) z253_1) zN ?_))))))))))
     by_cases hc10 : ex.kind = ((10 :Nat):Int)
     ·
      refine q_eql true rfl rfl (decide_eq_true hc10) zN (lw_nil (c_cond_t rfl (wp_seq (wp_plain _ [0,0,0,2,0,0] rfl (lw_tv 1 rfl (q_nilP (hex.isPtr) rfl zN (q_fldL (p := ve) 3 fd174_3 rfl (hl1 _ (Chg.of_ext [] hE0.drew.drew)) zN (q_load (p := (padd ve 3)) (.inr rfl) (.int .i64 ex.count) one2 rfl ((hl1 _ (Chg.of_ext [] hE0.drew.drew)).ld (i := 3) z253_1) zN (q_eql (decide (ex.count = ((0 :Nat):Int))) rfl rfl rfl zN (lw_tvn 1 rfl (wp_ret (t_ret (t_ret ?_)))))))))))))
      exact post_ret [8] rfl (.bool (decide (ex.count = ((0 :Nat):Int)))) rfl ⟨z253_0,hE0.drew.drew⟩
     ·
      refine q_eql false rfl rfl (decide_eq_false hc10) zN (lw_nil (c_cond_f rfl (wp_skip (wp_seq (wp_draw _ [0,0,0,1,0,0,0,0,0,1,0,0,0,0,1,0,0,0] mixed (by kernel_rfl) (lw_tv 1 rfl (q_nilP (hex.isPtr) rfl zN (q_fldL (p := ve) 3 fd174_3 rfl (hl1 _ (Chg.of_ext [] hE0.drew.drew.drew)) zN (q_load (p := (padd ve 3)) (.inl rfl) (.int .i64 ex.count) one2 rfl ((hl1 _ (Chg.of_ext [] hE0.drew.drew.drew)).ld (i := 3) z253_1) zN (lw_callq 92 [] [] [(.int .i64 ex.count),(.int .i64 ((0 :Nat):Int)),(.int .i64 ((8 :Nat):Int))] rfl rfl cf92 zN (.bool (decide (((0 :Nat):Int) ≤ ex.count) && decide (ex.count ≤ ((8 :Nat):Int)))) (fun wq => c_spec_l00In wq _ _ _ hx1.rng.count oM oM) (lw_tv 1 rfl ?_)))))))))))
      cases hb12 : (decide (((0 :Nat):Int) ≤ ex.count) && decide (ex.count ≤ ((8 :Nat):Int)))
      ·
       exact lw_tvn 12 rfl (wp_ret (t_ret (post_ret [8] rfl (.bool false) rfl ⟨z253_0,hE0.drew.drew.drew⟩)))
      ·
       refine lw_tv 1 rfl (q_nilP (RN.isPtr (RN.ptr (good_rFn dp) (by decide) Fn.zero hx5 sD)) rfl (zS (e := 78) rfl rfl rfl) (q_fldL (p := eptr ve5 ((ex.num).toNat) 3) 2 fd55_2 rfl (hl6 _ (Chg.of_ext [] hE0.drew.drew.drew)) (zS (e := 78) rfl rfl rfl) (q_load (p := (padd (eptr ve5 ((ex.num).toNat) 3) 2)) (.inl rfl) ve6 one53 rfl ((hl6 _ (Chg.of_ext [] hE0.drew.drew.drew)).ld (i := 2) z253_1) (zS (e := 78) rfl rfl rfl) ?_)))
       refine q_len (v := ve6) u53 rfl hx6.rn.isSl (zS (e := 78) rfl rfl rfl) (lw_tv 1 rfl (q_nilP (RN.isPtr (RN.ptr (good_rFn dp) (by decide) Fn.zero hx5 sD)) rfl (zS (e := 78) rfl rfl rfl) (q_fldL (p := eptr ve5 ((ex.num).toNat) 3) 1 fd55_1 rfl (hl6 _ (Chg.of_ext [] hE0.drew.drew.drew)) (zS (e := 78) rfl rfl rfl) ?_)))
       refine q_load (p := (padd (eptr ve5 ((ex.num).toNat) 3) 1)) (.inl rfl) (.int .i64 ((p.getD ((ex.num).toNat) Fn.zero).params)) one2 rfl ((hl6 _ (Chg.of_ext [] hE0.drew.drew.drew)).ld (i := 1) z253_1) (zS (e := 78) rfl rfl rfl) (q_eql (decide (((((p.getD ((ex.num).toNat) Fn.zero).outs).length :Nat):Int) = (p.getD ((ex.num).toNat) Fn.zero).params)) rfl rfl rfl (zS (e := 78) rfl rfl rfl) (lw_tvn 2 rfl (wp_ret (t_ret ?_))))
       exact post_ret [8] rfl (.bool (decide (((((p.getD ((ex.num).toNat) Fn.zero).outs).length :Nat):Int) = (p.getD ((ex.num).toNat) Fn.zero).params))) rfl ⟨z253_0,hE0.drew.drew.drew⟩
   ·
    exact lw_tvn 11 rfl (c_cond_t rfl (wp_seq (wp_plain _ [0] rfl (lw_tvn 1 rfl (wp_ret (t_ret (t_ret (post_ret [8] rfl (.bool false) rfl ⟨z253_0,hE0.drew.drew⟩))))))))
  ·
   exact c_cond_t (by first | rfl | (show Value.bool _ = _; rw [hb4])) (wp_seq (wp_plain _ [0] rfl (lw_tvn 1 rfl (wp_ret (t_ret (t_ret (post_ret [8] rfl (.bool false) rfl ⟨z253_0,hE0⟩)))))))
 ·
  refine q_eql false rfl rfl (decide_eq_false hc2) zN (lw_tv 2 rfl (q_nilP (hex.isPtr) rfl (zS (e := 15) rfl rfl rfl) (q_fldL (p := ve) 0 fd174_0 rfl (hl1 _ (Chg.of_ext [] hE0)) (zS (e := 15) rfl rfl rfl) (q_load (p := (padd ve 0)) (.inr rfl) (.int .i64 ex.kind) one2 rfl ((hl1 _ (Chg.of_ext [] hE0)).ld (i := 0) z253_1) (zS (e := 15) rfl rfl rfl) ?_))))
  by_cases hc13 : ex.kind = ((11 :Nat):Int)
  ·
   refine q_eql true rfl rfl (decide_eq_true hc13) (zS (e := 15) rfl rfl rfl) (lw_tvn 1 rfl (c_cond_t rfl (wp_seq (wp_seq (wp_plain _ [0,0,0,2,0,0,0,0] rfl (lw_tv 1 rfl (q_nilP (hex.isPtr) rfl zN (q_fldL (p := ve) 1 fd174_1 rfl (hl1 _ (Chg.of_ext [] hE0)) zN (q_load (p := (padd ve 1)) (.inr rfl) (.int .i64 ex.num) one2 rfl ((hl1 _ (Chg.of_ext [] hE0)).ld (i := 1) z253_1) zN (lw_tv 1 rfl (q_sub (funcs - 1) rfl rfl (w64 oM oM) zN (lw_callq 92 [] [] [(.int .i64 ex.num),(.int .i64 ((0 :Nat):Int)),(.int .i64 (funcs - 1))] rfl rfl cf92 zN (.bool (decide (((0 :Nat):Int) ≤ ex.num) && decide (ex.num ≤ (funcs - 1)))) (fun wq => c_spec_l00In wq _ _ _ hx1.rng.num oM oM) ?_))))))))))))
   refine q_not (!(decide (((0 :Nat):Int) ≤ ex.num) && decide (ex.num ≤ (funcs - 1)))) rfl rfl zN (lw_nil ?_)
   cases hb15 : (!(decide (((0 :Nat):Int) ≤ ex.num) && decide (ex.num ≤ (funcs - 1))))
   ·
    refine c_cond_f (by first | rfl | (show Value.bool _ = _; rw [hb15])) (wp_skip (wp_seq (wp_draw _ [0,0,0,1,0,0,0,1,0,0] mixed (by kernel_rfl) ?_)))
    have hnr := inB_e (bn_f (by assumption) : (decide (((0 :Nat):Int) ≤ ex.num) && decide (ex.num ≤ funcs - 1)) = true)
    refine lw_tv 1 rfl (q_nilP (hp.isPtr) rfl zN ?_)
    obtain ⟨cs16,hr16,hl16⟩ := RN.at (good_rPr _) hp
    obtain ⟨ve16,rfl,hx16⟩ := RPr.of hr16
    have hln16 := hx16.lenle
    unfold maxLen at hln16
    refine q_fldL (p := vp) 0 fd26_0 rfl (hl16 _ (Chg.of_ext [] hE0.drew)) zN (q_load (p := (padd vp 0)) (.inl rfl) ve16 one24 rfl ((hl16 _ (Chg.of_ext [] hE0.drew)).ld (i := 0) z253_1) zN (lw_tv 1 rfl (q_nilP (hex.isPtr) rfl zN (q_fldL (p := ve) 1 fd174_1 rfl (hl1 _ (Chg.of_ext [] hE0.drew)) zN (q_load (p := (padd ve 1)) (.inl rfl) (.int .i64 ex.num) one2 rfl ((hl1 _ (Chg.of_ext [] hE0.drew)).ld (i := 1) z253_1) zN ?_)))))
    refine q_idx (v := ve16) ((ex.num).toNat) u24 tiS55 rfl rfl hx16.isSl oM sD zN (lw_tvn 1 rfl (wp_seq (wp_seq (wp_draw _ [0,0,0,1,0,0,0,1,0,0,0,0,0,0,0,0,1,0,0,0,0,1,0,0] mixed (by kernel_rfl) (lw_tv 1 rfl (q_nilP (hex.isPtr) rfl zN (q_fldL (p := ve) 2 fd174_2 rfl (hl1 _ (Chg.of_ext [] hE0.drew.drew)) zN ?_)))))))
    refine q_load (p := (padd ve 2)) (.inl rfl) (.int .i64 ex.pick) one2 rfl ((hl1 _ (Chg.of_ext [] hE0.drew.drew)).ld (i := 2) z253_1) zN (lw_tv 1 rfl (q_nilP (RN.isPtr (RN.ptr (good_rFn dp) (by decide) Fn.zero hx16 sD)) rfl zN ?_))
    obtain ⟨cs17,hr17,hl17⟩ := hx16.get (good_rFn dp) Fn.zero (k := ((ex.num).toNat)) sD
    obtain ⟨ve17,rfl,hx17⟩ := RF.of hr17
    have hln17 := hx17.rn.lenle
    unfold maxLen at hln17
    refine q_fldL (p := eptr ve16 ((ex.num).toNat) 3) 2 fd55_2 rfl (hl17 _ (Chg.of_ext [] hE0.drew.drew)) zN (q_load (p := (padd (eptr ve16 ((ex.num).toNat) 3) 2)) (.inl rfl) ve17 one53 rfl ((hl17 _ (Chg.of_ext [] hE0.drew.drew)).ld (i := 2) z253_1) zN (q_len (v := ve17) u53 rfl hx17.rn.isSl zN (q_sub ((((p.getD (ex.num).toNat Fn.zero).outs.length :Nat):Int) - 1) rfl rfl (w64 oM oM) zN (lw_callq 92 [] [] [(.int .i64 ex.pick),(.int .i64 ((0 :Nat):Int)),(.int .i64 ((((p.getD (ex.num).toNat Fn.zero).outs.length :Nat):Int) - 1))] rfl rfl cf92 zN (.bool (decide (((0 :Nat):Int) ≤ ex.pick) && decide (ex.pick ≤ ((((p.getD (ex.num).toNat Fn.zero).outs.length :Nat):Int) - 1)))) (fun wq => c_spec_l00In wq _ _ _ hx1.rng.pick oM oM) ?_))))
    refine q_not (!(decide (((0 :Nat):Int) ≤ ex.pick) && decide (ex.pick ≤ ((((p.getD (ex.num).toNat Fn.zero).outs.length :Nat):Int) - 1)))) rfl rfl zN (lw_tv 1 rfl ?_)
    cases hb19 : (!(decide (((0 :Nat):Int) ≤ ex.pick) && decide (ex.pick ≤ ((((p.getD (ex.num).toNat Fn.zero).outs.length :Nat):Int) - 1))))
    ·
     refine lw_tv 1 rfl (q_nilP (hex.isPtr) rfl (zS (e := 51) rfl rfl rfl) (q_fldL (p := ve) 4 fd174_4 rfl (hl1 _ (Chg.of_ext [] hE0.drew.drew)) (zS (e := 51) rfl rfl rfl) (q_load (p := (padd ve 4)) (.inl rfl) ve1 one53 rfl ((hl1 _ (Chg.of_ext [] hE0.drew.drew)).ld (i := 4) z253_1) (zS (e := 51) rfl rfl rfl) (q_len (v := ve1) u53 rfl hx1.rn.isSl (zS (e := 51) rfl rfl rfl) (lw_tv 1 rfl ?_)))))
     refine q_nilP (RN.isPtr (RN.ptr (good_rFn dp) (by decide) Fn.zero hx16 sD)) rfl (zS (e := 51) rfl rfl rfl) (q_fldL (p := eptr ve16 ((ex.num).toNat) 3) 1 fd55_1 rfl (hl17 _ (Chg.of_ext [] hE0.drew.drew)) (zS (e := 51) rfl rfl rfl) (q_load (p := (padd (eptr ve16 ((ex.num).toNat) 3) 1)) (.inl rfl) (.int .i64 ((p.getD ((ex.num).toNat) Fn.zero).params)) one2 rfl ((hl17 _ (Chg.of_ext [] hE0.drew.drew)).ld (i := 1) z253_1) (zS (e := 51) rfl rfl rfl) ?_))
     by_cases hc20 : ((ex.kids.length :Nat):Int) ≠ (p.getD ((ex.num).toNat) Fn.zero).params
     ·
      exact q_neq true rfl rfl (decide_eq_true hc20) (zS (e := 51) rfl rfl rfl) (lw_tvn 1 rfl (c_cond_t rfl (wp_seq (wp_plain _ [0] rfl (lw_tvn 1 rfl (wp_ret (t_ret (t_ret (post_ret [8] rfl (.bool false) rfl ⟨z253_0,hE0.drew.drew⟩)))))))))
     ·
      refine q_neq false rfl rfl (decide_eq_false hc20) (zS (e := 51) rfl rfl rfl) (lw_tvn 1 rfl (c_cond_f rfl (wp_skip (wp_seq (wp_seq (wp_plain _ [0,0,0,2,0] rfl (lw_tv 1 rfl (q_nilP (hex.isPtr) rfl zN (q_fldL (p := ve) 0 fd174_0 rfl (hl1 _ (Chg.of_ext [] hE0.drew.drew)) zN (q_load (p := (padd ve 0)) (.inr rfl) (.int .i64 ex.kind) one2 rfl ((hl1 _ (Chg.of_ext [] hE0.drew.drew)).ld (i := 0) z253_1) zN ?_))))))))))
      by_cases hc21 : ex.kind = ((10 :Nat):Int)
      ·
       refine q_eql true rfl rfl (decide_eq_true hc21) zN (lw_nil (c_cond_t rfl (wp_seq (wp_plain _ [0,0,0,2,0,0] rfl (lw_tv 1 rfl (q_nilP (hex.isPtr) rfl zN (q_fldL (p := ve) 3 fd174_3 rfl (hl1 _ (Chg.of_ext [] hE0.drew.drew)) zN (q_load (p := (padd ve 3)) (.inr rfl) (.int .i64 ex.count) one2 rfl ((hl1 _ (Chg.of_ext [] hE0.drew.drew)).ld (i := 3) z253_1) zN (q_eql (decide (ex.count = ((0 :Nat):Int))) rfl rfl rfl zN (lw_tvn 1 rfl (wp_ret (t_ret (t_ret ?_)))))))))))))
       exact post_ret [8] rfl (.bool (decide (ex.count = ((0 :Nat):Int)))) rfl ⟨z253_0,hE0.drew.drew⟩
      ·
       refine q_eql false rfl rfl (decide_eq_false hc21) zN (lw_nil (c_cond_f rfl (wp_skip (wp_seq (wp_draw _ [0,0,0,1,0,0,0,0,0,1,0,0,0,0,1,0,0,0] mixed (by kernel_rfl) (lw_tv 1 rfl (q_nilP (hex.isPtr) rfl zN (q_fldL (p := ve) 3 fd174_3 rfl (hl1 _ (Chg.of_ext [] hE0.drew.drew.drew)) zN (q_load (p := (padd ve 3)) (.inl rfl) (.int .i64 ex.count) one2 rfl ((hl1 _ (Chg.of_ext [] hE0.drew.drew.drew)).ld (i := 3) z253_1) zN (lw_callq 92 [] [] [(.int .i64 ex.count),(.int .i64 ((0 :Nat):Int)),(.int .i64 ((8 :Nat):Int))] rfl rfl cf92 zN (.bool (decide (((0 :Nat):Int) ≤ ex.count) && decide (ex.count ≤ ((8 :Nat):Int)))) (fun wq => c_spec_l00In wq _ _ _ hx1.rng.count oM oM) (lw_tv 1 rfl ?_)))))))))))
       cases hb23 : (decide (((0 :Nat):Int) ≤ ex.count) && decide (ex.count ≤ ((8 :Nat):Int)))
       ·
        exact lw_tvn 12 rfl (wp_ret (t_ret (post_ret [8] rfl (.bool false) rfl ⟨z253_0,hE0.drew.drew.drew⟩)))
       ·
        refine lw_tv 1 rfl (q_nilP (RN.isPtr (RN.ptr (good_rFn dp) (by decide) Fn.zero hx16 sD)) rfl (zS (e := 78) rfl rfl rfl) (q_fldL (p := eptr ve16 ((ex.num).toNat) 3) 2 fd55_2 rfl (hl17 _ (Chg.of_ext [] hE0.drew.drew.drew)) (zS (e := 78) rfl rfl rfl) (q_load (p := (padd (eptr ve16 ((ex.num).toNat) 3) 2)) (.inl rfl) ve17 one53 rfl ((hl17 _ (Chg.of_ext [] hE0.drew.drew.drew)).ld (i := 2) z253_1) (zS (e := 78) rfl rfl rfl) ?_)))
        refine q_len (v := ve17) u53 rfl hx17.rn.isSl (zS (e := 78) rfl rfl rfl) (lw_tv 1 rfl (q_nilP (RN.isPtr (RN.ptr (good_rFn dp) (by decide) Fn.zero hx16 sD)) rfl (zS (e := 78) rfl rfl rfl) (q_fldL (p := eptr ve16 ((ex.num).toNat) 3) 1 fd55_1 rfl (hl17 _ (Chg.of_ext [] hE0.drew.drew.drew)) (zS (e := 78) rfl rfl rfl) ?_)))
        refine q_load (p := (padd (eptr ve16 ((ex.num).toNat) 3) 1)) (.inl rfl) (.int .i64 ((p.getD ((ex.num).toNat) Fn.zero).params)) one2 rfl ((hl17 _ (Chg.of_ext [] hE0.drew.drew.drew)).ld (i := 1) z253_1) (zS (e := 78) rfl rfl rfl) (q_eql (decide (((((p.getD ((ex.num).toNat) Fn.zero).outs).length :Nat):Int) = (p.getD ((ex.num).toNat) Fn.zero).params)) rfl rfl rfl (zS (e := 78) rfl rfl rfl) (lw_tvn 2 rfl (wp_ret (t_ret ?_))))
        exact post_ret [8] rfl (.bool (decide (((((p.getD ((ex.num).toNat) Fn.zero).outs).length :Nat):Int) = (p.getD ((ex.num).toNat) Fn.zero).params))) rfl ⟨z253_0,hE0.drew.drew.drew⟩
    ·
     exact lw_tvn 11 rfl (c_cond_t rfl (wp_seq (wp_plain _ [0] rfl (lw_tvn 1 rfl (wp_ret (t_ret (t_ret (post_ret [8] rfl (.bool false) rfl ⟨z253_0,hE0.drew.drew⟩))))))))
   ·
    exact c_cond_t (by first | rfl | (show Value.bool _ = _; rw [hb15])) (wp_seq (wp_plain _ [0] rfl (lw_tvn 1 rfl (wp_ret (t_ret (t_ret (post_ret [8] rfl (.bool false) rfl ⟨z253_0,hE0⟩)))))))
  ·
   refine q_eql false rfl rfl (decide_eq_false hc13) (zS (e := 15) rfl rfl rfl) (lw_tvn 1 rfl (c_cond_f rfl (wp_skip (wp_seq (wp_seq (wp_draw _ [0,0,0,1,0,0,0,0,1,0,0,0,0,0,0,1,0,0,0,0,0,0,1,0,0] mixed (by kernel_rfl) (lw_tv 1 rfl (q_nilP (hex.isPtr) rfl zN (q_fldL (p := ve) 0 fd174_0 rfl (hl1 _ (Chg.of_ext [] hE0.drew)) zN (q_load (p := (padd ve 0)) (.inl rfl) (.int .i64 ex.kind) one2 rfl ((hl1 _ (Chg.of_ext [] hE0.drew)).ld (i := 0) z253_1) zN (lw_callq 202 [] [] [(.int .i64 ex.kind)] rfl rfl cf202 zN (.int .i64 (kdN ex.kind)) (fun wq => c_spec_l02Kids wq _ hx1.rng.kind) (lw_tv 1 rfl (q_nilP (hex.isPtr) rfl zN (q_fldL (p := ve) 4 fd174_4 rfl (hl1 _ (Chg.of_ext [] hE0.drew)) zN ?_))))))))))))))
   refine q_load (p := (padd ve 4)) (.inl rfl) ve1 one53 rfl ((hl1 _ (Chg.of_ext [] hE0.drew)).ld (i := 4) z253_1) zN (q_len (v := ve1) u53 rfl hx1.rn.isSl zN ?_)
   by_cases hc25 : kdN ex.kind ≠ ((ex.kids.length :Nat):Int)
   ·
    exact q_neq true rfl rfl (decide_eq_true hc25) zN (lw_tvn 14 rfl (c_cond_t rfl (wp_seq (wp_plain _ [0] rfl (lw_tvn 1 rfl (wp_ret (t_ret (post_ret [8] rfl (.bool false) rfl ⟨z253_0,hE0.drew⟩))))))))
   ·
    refine q_neq false rfl rfl (decide_eq_false hc25) zN (lw_tv 2 rfl (q_nilP (hex.isPtr) rfl (zS (e := 101) rfl rfl rfl) (q_fldL (p := ve) 2 fd174_2 rfl (hl1 _ (Chg.of_ext [] hE0.drew)) (zS (e := 101) rfl rfl rfl) (q_load (p := (padd ve 2)) (.inl rfl) (.int .i64 ex.pick) one2 rfl ((hl1 _ (Chg.of_ext [] hE0.drew)).ld (i := 2) z253_1) (zS (e := 101) rfl rfl rfl) ?_))))
    by_cases hc26 : ex.pick ≠ ((0 :Nat):Int)
    ·
     exact q_neq true rfl rfl (decide_eq_true hc26) (zS (e := 101) rfl rfl rfl) (lw_tvn 8 rfl (c_cond_t rfl (wp_seq (wp_plain _ [0] rfl (lw_tvn 1 rfl (wp_ret (t_ret (post_ret [8] rfl (.bool false) rfl ⟨z253_0,hE0.drew⟩))))))))
    ·
     refine q_neq false rfl rfl (decide_eq_false hc26) (zS (e := 101) rfl rfl rfl) (lw_tv 3 rfl (q_nilP (hex.isPtr) rfl (zS (e := 108) rfl rfl rfl) (q_fldL (p := ve) 3 fd174_3 rfl (hl1 _ (Chg.of_ext [] hE0.drew)) (zS (e := 108) rfl rfl rfl) (q_load (p := (padd ve 3)) (.inl rfl) (.int .i64 ex.count) one2 rfl ((hl1 _ (Chg.of_ext [] hE0.drew)).ld (i := 3) z253_1) (zS (e := 108) rfl rfl rfl) ?_))))
     by_cases hc27 : ex.count ≠ ((0 :Nat):Int)
     ·
      exact q_neq true rfl rfl (decide_eq_true hc27) (zS (e := 108) rfl rfl rfl) (lw_tvn 1 rfl (c_cond_t rfl (wp_seq (wp_plain _ [0] rfl (lw_tvn 1 rfl (wp_ret (t_ret (post_ret [8] rfl (.bool false) rfl ⟨z253_0,hE0.drew⟩))))))))
     ·
      refine q_neq false rfl rfl (decide_eq_false hc27) (zS (e := 108) rfl rfl rfl) (lw_tvn 1 rfl (c_cond_f rfl (wp_skip (wp_seq (wp_seq (wp_plain _ [0,0,0,2] rfl (lw_tv 1 rfl (q_nilP (hex.isPtr) rfl zN (q_fldL (p := ve) 0 fd174_0 rfl (hl1 _ (Chg.of_ext [] hE0.drew)) zN (q_load (p := (padd ve 0)) (.inr rfl) (.int .i64 ex.kind) one2 rfl ((hl1 _ (Chg.of_ext [] hE0.drew)).ld (i := 0) z253_1) zN (lw_nil (wp_block (wp_seq (wp_plain _ [0,0] rfl ?_))))))))))))))
      by_cases hc28 : ex.kind = ((1 :Nat):Int)
      ·
       refine q_eql true rfl rfl (decide_eq_true hc28) zN (lw_tvn 1 rfl (c_cond_t rfl (wp_seq (wp_plain _ [0,0,0,2,0,0] rfl (lw_tv 1 rfl (q_nilP (hex.isPtr) rfl zN (q_fldL (p := ve) 1 fd174_1 rfl (hl1 _ (Chg.of_ext [] hE0.drew)) zN (q_load (p := (padd ve 1)) (.inr rfl) (.int .i64 ex.num) one2 rfl ((hl1 _ (Chg.of_ext [] hE0.drew)).ld (i := 1) z253_1) zN (lw_callq 192 [] [] [(.int .i64 ex.num)] rfl rfl cf192 zN (.bool (isN ex.num)) (fun wq => c_spec_l01Number wq _ hx1.rng.num) (lw_tvn 1 rfl (wp_ret (b_ret (t_ret ?_)))))))))))))
       exact post_ret [8] rfl (.bool (isN ex.num)) rfl ⟨z253_0,hE0.drew⟩
      ·
       refine q_eql false rfl rfl (decide_eq_false hc28) zN (lw_tvn 1 rfl (c_cond_f rfl (wp_seq (wp_plain _ [0,0] rfl ?_))))
       by_cases hc30 : ex.kind = ((2 :Nat):Int)
       ·
        refine q_eql true rfl rfl (decide_eq_true hc30) zN (lw_tvn 1 rfl (c_cond_t rfl (wp_seq (wp_plain _ [0,0,0,2,0,0,0,0] rfl (lw_tv 1 rfl (q_nilP (hex.isPtr) rfl zN (q_fldL (p := ve) 1 fd174_1 rfl (hl1 _ (Chg.of_ext [] hE0.drew)) zN (q_load (p := (padd ve 1)) (.inr rfl) (.int .i64 ex.num) one2 rfl ((hl1 _ (Chg.of_ext [] hE0.drew)).ld (i := 1) z253_1) zN (lw_tv 1 rfl (q_sub (vars - 1) rfl rfl (w64 oM oM) zN (lw_callq 92 [] [] [(.int .i64 ex.num),(.int .i64 ((0 :Nat):Int)),(.int .i64 (vars - 1))] rfl rfl cf92 zN (.bool (decide (((0 :Nat):Int) ≤ ex.num) && decide (ex.num ≤ (vars - 1)))) (fun wq => c_spec_l00In wq _ _ _ hx1.rng.num oM oM) (lw_tvn 1 rfl (wp_ret (b_ret (t_ret ?_)))))))))))))))
        exact post_ret [8] rfl (.bool (decide (((0 :Nat):Int) ≤ ex.num) && decide (ex.num ≤ (vars - 1)))) rfl ⟨z253_0,hE0.drew⟩
       ·
        refine q_eql false rfl rfl (decide_eq_false hc30) zN (lw_tvn 1 rfl (c_cond_f rfl (wp_skip (wp_seq (wp_plain _ [0,0,0,2,0,0] rfl (lw_tv 1 rfl (q_nilP (hex.isPtr) rfl zN (q_fldL (p := ve) 1 fd174_1 rfl (hl1 _ (Chg.of_ext [] hE0.drew)) zN (q_load (p := (padd ve 1)) (.inr rfl) (.int .i64 ex.num) one2 rfl ((hl1 _ (Chg.of_ext [] hE0.drew)).ld (i := 1) z253_1) zN (q_eql (decide (ex.num = ((0 :Nat):Int))) rfl rfl rfl zN (lw_tvn 1 rfl (wp_ret ?_))))))))))))
        exact post_ret [8] rfl (.bool (decide (ex.num = ((0 :Nat):Int)))) rfl ⟨z253_0,hE0.drew⟩
theorem z247_0 {p : Prop} (h : p := by first | exact ret_bool (wf_bad (bn_t (by assumption))) | exact ret_bool (wf_good (bn_f (by assumption)) fun j hj => hall j oM) | exact ret_bool (wf_kid (k := k) oM (by first | (rw [if_pos oM]) | (rw [if_neg oM])) (bn_t (by assumption)))) : p := h
theorem z247_1 {p : Prop} (h : p := by intro j hj; by_cases e9 : j = k; (rw [e9]; first | (rw [if_pos oM]; exact bn_f (by assumption)) | (rw [if_neg oM]; exact bn_f (by assumption))); exact hall j oM) : p := h
theorem c_spec_l02Tree (w : World) (dp : Nat) (vp : Value) (p : List Fn) (dex : Nat) (ve : Value) (ex : Ex) (vars : Int) (funcs : Int) (hp : RN [] (rP (rPr dp)) w.heap vp p) (hex : RN [] (rP (rEx dex)) w.heap ve ex) (_hvars : -9223372036854775808 ≤ vars ∧ vars ≤ 9223372036854775807) (_hfuncs : -9223372036854775808 ≤ funcs ∧ funcs ≤ 9223372036854775807) (hs : 0 ≤ vars ∧ vars + (ex.deep : Int) ≤ 2000000000) (hf : 0 ≤ funcs ∧ funcs ≤ ((p.length :Nat):Int)) :
  Calls Tryz.prog 247 #[vp,ve,.int .i64 vars,.int .i64 funcs] w (fun e w' => e = .returned (.bool (wf p funcs ex vars)) ∧ Ext w w') := by
 induction dex using Nat.strongRecOn generalizing w dp vp p ve ex vars funcs
 rename_i dex ih
 refine calls_mk [vp,ve,.int .i64 vars,.int .i64 funcs] 49 Tryz.func247 rfl rfl sM ?_
 have hE0 : Ext w w := Ext.refl w
 have hdk := deep_kids ex
 refine wp_seq (wp_plain _ [0] rfl (lw_tvn 1 rfl (wp_seq (wp_seq (wp_plain _ [0,0,0,0,3,0] rfl (lw_tv 4 rfl (lw_call 253 [] [] [vp,ve,(.int .i64 vars),(.int .i64 funcs)] rfl rfl cf253 zN (c_spec_l02Node _ dp vp (p) dex ve (ex) _ _ (hp.ext (good_rP (good_rPr dp)) hE0) (hex.ext (good_rP (good_rEx dex)) hE0) _hvars _hfuncs oM oM) ?_)))))))
 rintro e1 w1 ⟨rfl,hX1⟩
 refine ⟨_,rfl,hX1,?_⟩
 have hzs1:=hX1.size
 have hE1:=hE0.trans hX1
 refine q_not (!(wfN p funcs vars ex)) rfl rfl zN (lw_nil ?_)
 cases hb2 : (!(wfN p funcs vars ex))
 ·
  refine c_cond_f (by first | rfl | (show Value.bool _ = _; rw [hb2])) (wp_skip (wp_seq (wp_seq (wp_plain _ [0] rfl (lw_tvn 1 rfl (wp_block ?_))))))
  refine c_loop (S := Nat) (fun (k : Nat) => ([(9,(.int .i64 ((k :Nat):Int))),(0,vp),(1,ve),(2,(.int .i64 vars)),(3,(.int .i64 funcs))] : List (Nat × Value))) (fun (k : Nat) (W : World) => Ext w W ∧ k ≤ ex.kids.length ∧ (∀ j,j < k → wf p funcs (ex.kids.getD j Ex.zero) (if ex.kind = 9 ∧ j = 1 then vars + 1 else vars) = true)) (fun (k : Nat) => ex.kids.length - k) 0 ⟨rfl,rfl,rfl,rfl,rfl,trivial⟩ ⟨hE1,sD,(by intro j hj; omega)⟩ ?_
  clear hE0 hX1 hzs1 hE1
  rintro k ρ3 w3 ⟨hE3,hp3_0,hall⟩
  have hzs3 : w.heap.size ≤ w3.heap.size := hE3.size
  refine wp_seq (wp_seq (wp_plain _ [0,0,0,0,2,0,0] rfl (lw_tv 2 rfl (q_nilP (hex.isPtr) rfl zN ?_))))
  obtain ⟨cs4,hr4,hl4⟩ := RN.at (good_rEx _) hex
  obtain ⟨dd4,ve4,hd4,rfl,hx4⟩ := RX.of hr4
  have hln4 := hx4.rn.lenle
  unfold maxLen at hln4
  refine q_fldL (p := ve) 4 fd174_4 rfl (hl4 _ (Chg.of_ext [] hE3)) zN (q_load (p := (padd ve 4)) (.inr rfl) ve4 one53 rfl ((hl4 _ (Chg.of_ext [] hE3)).ld (i := 4) (by simp [exC,fnC])) zN (q_len (v := ve4) u53 rfl hx4.rn.isSl zN ?_))
  by_cases hc5 : ((k :Nat):Int) < ((ex.kids.length :Nat):Int)
  ·
   refine q_lss true rfl rfl (decide_eq_true hc5) zN (lw_nil (c_cond_t rfl (wp_skip (wp_seq (wp_block (wp_seq (wp_plain _ [0,0] rfl ?_)))))))
   have hkd := kd_at (l := ex.kids) (k := k) oM
   refine lw_tvn 2 rfl (wp_seq (wp_seq (wp_plain _ [0,0,0,2,0,0,0,0,0] rfl (lw_tv 1 rfl (q_nilP (hex.isPtr) rfl zN (q_fldL (p := ve) 0 fd174_0 rfl (hl4 _ (Chg.of_ext [] hE3)) zN (q_load (p := (padd ve 0)) (.inr rfl) (.int .i64 ex.kind) one2 rfl ((hl4 _ (Chg.of_ext [] hE3)).ld (i := 0) (by simp [exC,fnC])) zN ?_)))))))
   by_cases hc6 : ex.kind = ((9 :Nat):Int)
   ·
    refine q_eql true rfl rfl (decide_eq_true hc6) zN (lw_tv 2 rfl ?_)
    by_cases hc7 : ((k :Nat):Int) = ((1 :Nat):Int)
    ·
     refine q_eql true rfl rfl (decide_eq_true hc7) (zS (e := 32) rfl rfl rfl) (lw_tvn 1 rfl (c_cond_t rfl (wp_plain _ [0,0,0] rfl (lw_tv 1 rfl (q_add (vars + 1) rfl rfl (w64 oM oM) zN (lw_tvn 1 rfl (wp_seq (wp_plain _ [0,0,0,0,2,0,0,0,0,3,0] rfl (lw_tv 2 rfl (q_nilP (hex.isPtr) rfl zN (q_fldL (p := ve) 4 fd174_4 rfl (hl4 _ (Chg.of_ext [] hE3)) zN (q_load (p := (padd ve 4)) (.inr rfl) ve4 one53 rfl ((hl4 _ (Chg.of_ext [] hE3)).ld (i := 4) (by simp [exC,fnC])) zN (lw_tv 1 rfl ?_)))))))))))))
     refine q_idx (v := ve4) k u53 tiS174 rfl rfl hx4.rn.isSl rfl sD zN (lw_tv 2 rfl ?_)
     refine lw_call 247 [] [] [vp,(eptr ve4 k 5),(.int .i64 (vars + 1)),(.int .i64 funcs)] rfl rfl cf247 zN (ih dd4 oM _ dp vp (p) (eptr ve4 k 5) (ex.kids.getD k Ex.zero) _ _ (hp.ext (good_rP (good_rPr dp)) hE3) (RN.ptr (good_rEx dd4) (by decide) Ex.zero (hx4.rn.ext (good_rdS (good_rEx dd4)) hE3) sD) oM _hfuncs oM oM) ?_
     rintro e8 w8 ⟨rfl,hX8⟩
     refine ⟨_,rfl,hX8,?_⟩
     have hzs8:=hX8.size
     have hE8:=hE3.trans hX8
     refine q_not (!(wf p funcs (ex.kids.getD k Ex.zero) (vars + 1))) rfl rfl zN (lw_nil ?_)
     cases hb9 : (!(wf p funcs (ex.kids.getD k Ex.zero) (vars + 1)))
     ·
      refine c_cond_f (by first | rfl | (show Value.bool _ = _; rw [hb9])) (wp_skip (wp_plain _ [0,0,0] rfl (lw_tv 1 rfl (q_add ((k + 1 :Nat):Int) rfl rfl (w64n oM sD) zN (lw_tvn 1 rfl ?_)))))
      exact ⟨(k + 1),_,rfl,⟨rfl,rfl,rfl,rfl,rfl,trivial⟩,⟨hE8,sD,z247_1⟩,by first | omega | (dsimp only; omega)⟩
     ·
      exact c_cond_t (by first | rfl | (show Value.bool _ = _; rw [hb9])) (wp_seq (wp_plain _ [0] rfl (lw_tvn 1 rfl (wp_ret (b_ret (t_ret (t_ret (b_ret (t_ret (post_ret [8] rfl (.bool false) rfl ⟨z247_0,hE8⟩))))))))))
    ·
     refine q_eql false rfl rfl (decide_eq_false hc7) (zS (e := 32) rfl rfl rfl) (lw_tvn 1 rfl (c_cond_f rfl (wp_skip (wp_seq (wp_plain _ [0,0,0,0,2,0,0,0,0,3,0] rfl (lw_tv 2 rfl (q_nilP (hex.isPtr) rfl zN (q_fldL (p := ve) 4 fd174_4 rfl (hl4 _ (Chg.of_ext [] hE3)) zN (q_load (p := (padd ve 4)) (.inr rfl) ve4 one53 rfl ((hl4 _ (Chg.of_ext [] hE3)).ld (i := 4) (by simp [exC,fnC])) zN (lw_tv 1 rfl ?_))))))))))
     refine q_idx (v := ve4) k u53 tiS174 rfl rfl hx4.rn.isSl rfl sD zN (lw_tv 2 rfl ?_)
     refine lw_call 247 [] [] [vp,(eptr ve4 k 5),(.int .i64 vars),(.int .i64 funcs)] rfl rfl cf247 zN (ih dd4 oM _ dp vp (p) (eptr ve4 k 5) (ex.kids.getD k Ex.zero) _ _ (hp.ext (good_rP (good_rPr dp)) hE3) (RN.ptr (good_rEx dd4) (by decide) Ex.zero (hx4.rn.ext (good_rdS (good_rEx dd4)) hE3) sD) _hvars _hfuncs oM oM) ?_
     rintro e10 w10 ⟨rfl,hX10⟩
     refine ⟨_,rfl,hX10,?_⟩
     have hzs10:=hX10.size
     have hE10:=hE3.trans hX10
     refine q_not (!(wf p funcs (ex.kids.getD k Ex.zero) vars)) rfl rfl zN (lw_nil ?_)
     cases hb11 : (!(wf p funcs (ex.kids.getD k Ex.zero) vars))
     ·
      refine c_cond_f (by first | rfl | (show Value.bool _ = _; rw [hb11])) (wp_skip (wp_plain _ [0,0,0] rfl (lw_tv 1 rfl (q_add ((k + 1 :Nat):Int) rfl rfl (w64n oM sD) zN (lw_tvn 1 rfl ?_)))))
      exact ⟨(k + 1),_,rfl,⟨rfl,rfl,rfl,rfl,rfl,trivial⟩,⟨hE10,sD,z247_1⟩,by first | omega | (dsimp only; omega)⟩
     ·
      exact c_cond_t (by first | rfl | (show Value.bool _ = _; rw [hb11])) (wp_seq (wp_plain _ [0] rfl (lw_tvn 1 rfl (wp_ret (b_ret (t_ret (t_ret (b_ret (t_ret (post_ret [8] rfl (.bool false) rfl ⟨z247_0,hE10⟩))))))))))
   ·
    refine q_eql false rfl rfl (decide_eq_false hc6) zN (lw_tvn 4 rfl (c_cond_f rfl (wp_skip (wp_seq (wp_plain _ [0,0,0,0,2,0,0,0,0,3,0] rfl (lw_tv 2 rfl (q_nilP (hex.isPtr) rfl zN (q_fldL (p := ve) 4 fd174_4 rfl (hl4 _ (Chg.of_ext [] hE3)) zN (q_load (p := (padd ve 4)) (.inr rfl) ve4 one53 rfl ((hl4 _ (Chg.of_ext [] hE3)).ld (i := 4) (by simp [exC,fnC])) zN (lw_tv 1 rfl ?_))))))))))
    refine q_idx (v := ve4) k u53 tiS174 rfl rfl hx4.rn.isSl rfl sD zN (lw_tv 2 rfl ?_)
    refine lw_call 247 [] [] [vp,(eptr ve4 k 5),(.int .i64 vars),(.int .i64 funcs)] rfl rfl cf247 zN (ih dd4 oM _ dp vp (p) (eptr ve4 k 5) (ex.kids.getD k Ex.zero) _ _ (hp.ext (good_rP (good_rPr dp)) hE3) (RN.ptr (good_rEx dd4) (by decide) Ex.zero (hx4.rn.ext (good_rdS (good_rEx dd4)) hE3) sD) _hvars _hfuncs oM oM) ?_
    rintro e12 w12 ⟨rfl,hX12⟩
    refine ⟨_,rfl,hX12,?_⟩
    have hzs12:=hX12.size
    have hE12:=hE3.trans hX12
    refine q_not (!(wf p funcs (ex.kids.getD k Ex.zero) vars)) rfl rfl zN (lw_nil ?_)
    cases hb13 : (!(wf p funcs (ex.kids.getD k Ex.zero) vars))
    ·
     refine c_cond_f (by first | rfl | (show Value.bool _ = _; rw [hb13])) (wp_skip (wp_plain _ [0,0,0] rfl (lw_tv 1 rfl (q_add ((k + 1 :Nat):Int) rfl rfl (w64n oM sD) zN (lw_tvn 1 rfl ?_)))))
     exact ⟨(k + 1),_,rfl,⟨rfl,rfl,rfl,rfl,rfl,trivial⟩,⟨hE12,sD,z247_1⟩,by first | omega | (dsimp only; omega)⟩
    ·
     exact c_cond_t (by first | rfl | (show Value.bool _ = _; rw [hb13])) (wp_seq (wp_plain _ [0] rfl (lw_tvn 1 rfl (wp_ret (b_ret (t_ret (t_ret (b_ret (t_ret (post_ret [8] rfl (.bool false) rfl ⟨z247_0,hE12⟩))))))))))
  ·
   exact q_lss false rfl rfl (decide_eq_false hc5) zN (lw_nil (c_cond_f rfl (wp_exit (t_exit (t_exit (c_exit_here (wp_seq (wp_plain _ [0] rfl (lw_tvn 1 rfl (wp_ret (post_ret [8] rfl (.bool true) rfl ⟨z247_0,hE3⟩)))))))))))
 ·
  exact c_cond_t (by first | rfl | (show Value.bool _ = _; rw [hb2])) (wp_seq (wp_plain _ [0] rfl (lw_tvn 1 rfl (wp_ret (t_ret (post_ret [8] rfl (.bool false) rfl ⟨z247_0,hE1⟩))))))
theorem c_spec_l02Vars (w : World) (vars : Int) (_hvars : -9223372036854775808 ≤ vars ∧ vars ≤ 9223372036854775807)  :
  Calls Tryz.prog 245 #[.int .i64 vars] w (fun e w' => e = .returned (.bool (inB vars 0 412)) ∧ w' = w) := by
 refine calls_mk [.int .i64 vars] 5 Tryz.func245 rfl rfl sM ?_
 have hE0 : w = w := rfl
 exact wp_seq (wp_plain _ [0] rfl (lw_tvn 1 rfl (wp_seq (wp_plain _ [0,0,0] rfl (lw_tv 1 rfl (lw_callq 92 [] [] [(.int .i64 vars),(.int .i64 ((0 :Nat):Int)),(.int .i64 ((412 :Nat):Int))] rfl rfl cf92 zN (.bool (decide (((0 :Nat):Int) ≤ vars) && decide (vars ≤ ((412 :Nat):Int)))) (fun wq => c_spec_l00In wq _ _ _ _hvars oM oM) (lw_tvn 1 rfl (wp_ret (post_ret [2] rfl (.bool (decide (((0 :Nat):Int) ≤ vars) && decide (vars ≤ ((412 :Nat):Int)))) rfl ⟨rfl,hE0⟩)))))))))
theorem z236_0 {p : Prop} (h : p := by first | exact ret_bool (exB_w (by assumption)) | exact ret_bool (exB_t ⟨inB_iff.1 (by assumption), inB_e (by assumption), by omega, by omega⟩) | exact ret_bool ((by assumption : wf p funcs ex vars = true).symm.trans (exB_t ⟨inB_iff.1 (by assumption), inB_e (by assumption), by omega, by omega⟩)) | exact ret_bool (exB_f fun hh => inB_f (by assumption) hh.1) | exact ret_bool (exB_f fun hh => inB_d (by assumption) hh.2.1) | exact ret_bool (exB_f oM)) : p := h
theorem c_spec_l02Expr (w : World) (dp : Nat) (vp : Value) (p : List Fn) (dex : Nat) (ve : Value) (ex : Ex) (vars : Int) (funcs : Int) (hp : RN [] (rP (rPr dp)) w.heap vp p) (hex : RN [] (rP (rEx dex)) w.heap ve ex) (_hvars : -9223372036854775808 ≤ vars ∧ vars ≤ 9223372036854775807) (_hfuncs : -9223372036854775808 ≤ funcs ∧ funcs ≤ 9223372036854775807) (hs : ex.size ≤ 1000000000) :
  Calls Tryz.prog 236 #[vp,ve,.int .i64 vars,.int .i64 funcs] w (fun e w' => e = .returned (.bool (exB p ex vars funcs)) ∧ Ext w w') := by
 refine calls_mk [vp,ve,.int .i64 vars,.int .i64 funcs] 37 Tryz.func236 rfl rfl sM ?_
 have hE0 : Ext w w := Ext.refl w
 have hlp := lftE_pos (e := ex) (x := ((400 :Nat):Int)) oM
 refine wp_seq (wp_plain _ [0] rfl (lw_tvn 1 rfl (wp_seq (wp_plain _ [0,0,0,0,0,0,0,2,0,0,0,0,0,3,0,0,0,0,3,0,0,0,0,0,0,0,3,0,0] rfl (lw_tv 1 rfl (lw_callq 245 [] [] [(.int .i64 vars)] rfl rfl cf245 zN (.bool (inB vars 0 412)) (fun wq => c_spec_l02Vars wq _ _hvars) (lw_tv 1 rfl ?_)))))))
 cases hb2 : (inB vars 0 412)
 ·
  exact lw_tvn 26 rfl (wp_ret (post_ret [8] rfl (.bool false) rfl ⟨z236_0,hE0⟩))
 ·
  refine lw_tv 2 rfl (q_nilP (hp.isPtr) rfl (zS (e := 11) rfl rfl rfl) ?_)
  obtain ⟨cs3,hr3,hl3⟩ := RN.at (good_rPr _) hp
  obtain ⟨ve3,rfl,hx3⟩ := RPr.of hr3
  have hln3 := hx3.lenle
  unfold maxLen at hln3
  refine q_fldL (p := vp) 0 fd26_0 rfl (hl3 _ (Chg.of_ext [] hE0)) (zS (e := 11) rfl rfl rfl) (q_load (p := (padd vp 0)) (.inr rfl) ve3 one24 rfl ((hl3 _ (Chg.of_ext [] hE0)).ld (i := 0) (by simp [exC,fnC])) (zS (e := 11) rfl rfl rfl) (q_len (v := ve3) u24 rfl hx3.isSl (zS (e := 11) rfl rfl rfl) (lw_callq 92 [] [] [(.int .i64 funcs),(.int .i64 ((0 :Nat):Int)),(.int .i64 ((p.length :Nat):Int))] rfl rfl cf92 (zS (e := 11) rfl rfl rfl) (.bool (decide (((0 :Nat):Int) ≤ funcs) && decide (funcs ≤ ((p.length :Nat):Int)))) (fun wq => c_spec_l00In wq _ _ _ _hfuncs oM oM) (lw_tv 2 rfl ?_))))
  cases hb5 : (decide (((0 :Nat):Int) ≤ funcs) && decide (funcs ≤ ((p.length :Nat):Int)))
  ·
   exact lw_tvn 17 rfl (wp_ret (post_ret [8] rfl (.bool false) rfl ⟨z236_0,hE0⟩))
  ·
   refine lw_tv 1 rfl (lw_call 235 [] [] [ve,(.int .i64 ((400 :Nat):Int))] rfl rfl cf235 (zS (e := 20) rfl rfl rfl) (c_spec_l02Left _ dex ve (ex) _ (hex.ext (good_rP (good_rEx dex)) hE0) oM oM oM) ?_)
   rintro e6 w6 ⟨rfl,hX6⟩
   refine ⟨_,rfl,hX6,?_⟩
   have hzs6:=hX6.size
   have hE6:=hE0.trans hX6
   by_cases hc7 : ((0 :Nat):Int) ≤ lftE ex ((400 :Nat):Int)
   ·
    refine q_geq true rfl rfl (decide_eq_true hc7) (zS (e := 20) rfl rfl rfl) (lw_tv 3 rfl (lw_call 246 [] [] [ve] rfl rfl cf246 (zS (e := 25) rfl rfl rfl) (c_spec_l02Depth _ dex ve (ex) (hex.ext (good_rP (good_rEx dex)) hE6) oM) ?_))
    rintro e8 w8 ⟨rfl,hX8⟩
    refine ⟨_,rfl,hX8,?_⟩
    have hzs8:=hX8.size
    have hE8:=hE6.trans hX8
    by_cases hc9 : ((ex.deep :Nat):Int) ≤ ((60 :Nat):Int)
    ·
     refine q_leq true rfl rfl (decide_eq_true hc9) (zS (e := 25) rfl rfl rfl) (lw_tv 6 rfl (lw_call 247 [] [] [vp,ve,(.int .i64 vars),(.int .i64 funcs)] rfl rfl cf247 (zS (e := 30) rfl rfl rfl) (c_spec_l02Tree _ dp vp (p) dex ve (ex) _ _ (hp.ext (good_rP (good_rPr dp)) hE8) (hex.ext (good_rP (good_rEx dex)) hE8) _hvars _hfuncs (by have h1 := inB_iff.1 (by assumption : inB vars 0 412 = true); omega) (by have h2 := inB_e (by assumption : (decide (((0 :Nat):Int) ≤ funcs) && decide (funcs ≤ ((p.length :Nat):Int))) = true); omega)) ?_))
     rintro e10 w10 ⟨rfl,hX10⟩
     refine ⟨_,rfl,hX10,?_⟩
     have hzs10:=hX10.size
     have hE10:=hE8.trans hX10
     exact lw_tvn 2 rfl (wp_ret (post_ret [8] rfl (.bool (wf p funcs ex vars)) rfl ⟨z236_0,hE10⟩))
    ·
     exact q_leq false rfl rfl (decide_eq_false hc9) (zS (e := 25) rfl rfl rfl) (lw_tvn 9 rfl (wp_ret (post_ret [8] rfl (.bool false) rfl ⟨z236_0,hE8⟩)))
   ·
    exact q_geq false rfl rfl (decide_eq_false hc7) (zS (e := 20) rfl rfl rfl) (lw_tvn 14 rfl (wp_ret (post_ret [8] rfl (.bool false) rfl ⟨z236_0,hE6⟩)))
theorem nm_len {s : ByteArray} (h : ¬ (1 ≤ s.size ∧ s.size ≤ 12)) : false = nmB s := by
  cases hh : nmB s with
  | false => rfl
  | true => unfold nmB at hh; simp only [Bool.and_eq_true, decide_eq_true_eq] at hh; exact absurd hh.1 h
theorem z234_0 {p : Prop} (h : p := by first | exact ret_bool (nm_len (fun hh => inB_d (bn_t (by assumption)) ⟨by omega, by omega⟩)) | exact ret_bool (nm_bad (k := 0) oM oM) | exact ret_bool (nm_bad (k := k) oM oM) | exact ret_bool (nm_end hq oM (by rw [decide_eq_true (show 1 ≤ s.size by omega), decide_eq_true (show s.size ≤ 12 by omega)]; rfl))) : p := h
theorem z234_1 {p : Prop} (h : p := by exact allR_succ hq (ch_ok (by (by_cases h0 : k = 0; (rw [h0]; left; omega); omega)))) : p := h
theorem c_spec_IsName (w : World) (s : ByteArray)  (hl : s.size ≤ 1000000000) :
  Calls Tryz.prog 234 #[.string s] w (fun e w' => e = .returned (.bool (nmB s)) ∧ w' = w) := by
 refine calls_mk [.string s] 46 Tryz.func234 rfl rfl sM ?_
 have hE0 : w = w := rfl
 refine wp_seq (wp_plain _ [0] rfl (lw_tvn 1 rfl (wp_seq (wp_seq (wp_plain _ [0,0,0,0,0,0,0,0,0,0,0,0,0,0] rfl (lw_tv 1 rfl (q_lens (s := s) u9 rfl zN (lw_callq 92 [] [] [(.int .i64 ((s.size :Nat):Int)),(.int .i64 ((1 :Nat):Int)),(.int .i64 ((12 :Nat):Int))] rfl rfl cf92 zN (.bool (decide (((1 :Nat):Int) ≤ ((s.size :Nat):Int)) && decide (((s.size :Nat):Int) ≤ ((12 :Nat):Int)))) (fun wq => c_spec_l00In wq _ _ _ oM oM oM) (q_not (!(decide (((1 :Nat):Int) ≤ ((s.size :Nat):Int)) && decide (((s.size :Nat):Int) ≤ ((12 :Nat):Int)))) rfl rfl zN (lw_tv 1 rfl ?_))))))))))
 cases hb2 : (!(decide (((1 :Nat):Int) ≤ ((s.size :Nat):Int)) && decide (((s.size :Nat):Int) ≤ ((12 :Nat):Int))))
 ·
  refine lw_tv 1 rfl ?_
  have hsz := inB_e (bn_f (by assumption) : (decide (((1 :Nat):Int) ≤ ((s.size :Nat):Int)) && decide (((s.size :Nat):Int) ≤ ((12 :Nat):Int))) = true)
  refine q_index (s := s) 0 u9 rfl rfl rfl sD (zS (e := 8) rfl rfl rfl) ?_
  by_cases hc3 : ((sAt s 0 :Nat):Int) < 97
  ·
   exact q_lss true rfl rfl (decide_eq_true hc3) (zS (e := 8) rfl rfl rfl) (lw_tvn 6 rfl (c_cond_t rfl (wp_seq (wp_plain _ [0] rfl (lw_tvn 1 rfl (wp_ret (t_ret (post_ret [2] rfl (.bool false) rfl ⟨z234_0,hE0⟩))))))))
  ·
   refine q_lss false rfl rfl (decide_eq_false hc3) (zS (e := 8) rfl rfl rfl) (lw_tv 3 rfl (q_index (s := s) 0 u9 rfl rfl rfl sD (zS (e := 13) rfl rfl rfl) ?_))
   by_cases hc4 : 122 < ((sAt s 0 :Nat):Int)
   ·
    exact q_gtr true rfl rfl (decide_eq_true hc4) (zS (e := 13) rfl rfl rfl) (lw_tvn 1 rfl (c_cond_t rfl (wp_seq (wp_plain _ [0] rfl (lw_tvn 1 rfl (wp_ret (t_ret (post_ret [2] rfl (.bool false) rfl ⟨z234_0,hE0⟩))))))))
   ·
    refine q_gtr false rfl rfl (decide_eq_false hc4) (zS (e := 13) rfl rfl rfl) (lw_tvn 1 rfl (c_cond_f rfl (wp_skip (wp_seq (wp_seq (wp_plain _ [0] rfl (lw_tvn 1 rfl (wp_block (c_loop (S := Nat) (fun (k : Nat) => ([(3,(.int .i64 ((k :Nat):Int))),(0,(.string s))] : List (Nat × Value))) (fun (k : Nat) (W : World) => W = w ∧ k ≤ s.size ∧ (List.range k).all (chB s) = true) (fun (k : Nat) => s.size - k) 0 ⟨rfl,rfl,trivial⟩ ⟨hE0,sD,(by rfl)⟩ ?_)))))))))
    clear hE0
    rintro k ρ5 w5 ⟨hE5,hp5_0,hq⟩
    refine wp_seq (wp_seq (wp_plain _ [0,0,0,0] rfl (lw_tv 2 rfl (q_lens (s := s) u9 rfl zN ?_))))
    by_cases hc6 : ((k :Nat):Int) < ((s.size :Nat):Int)
    ·
     refine q_lss true rfl rfl (decide_eq_true hc6) zN (lw_nil (c_cond_t rfl (wp_skip (wp_seq (wp_block (wp_seq (wp_plain _ [0,0,0,0,0,0,0,0,0,0,0,0,0,0,0,0,0,0,0,0,0,0] rfl (lw_tv 2 rfl (q_index (s := s) k u9 rfl rfl rfl sD zN ?_)))))))))
     by_cases hc7 : ((sAt s k :Nat):Int) < 97
     ·
      refine q_lss true rfl rfl (decide_eq_true hc7) zN (lw_tv 9 rfl (q_index (s := s) k u9 rfl rfl rfl sD (zS (e := 34) rfl rfl rfl) ?_))
      by_cases hc8 : ((sAt s k :Nat):Int) < 48
      ·
       exact q_lss true rfl rfl (decide_eq_true hc8) (zS (e := 34) rfl rfl rfl) (lw_tvn 7 rfl (c_cond_t rfl (wp_seq (wp_plain _ [0] rfl (lw_tvn 1 rfl (wp_ret (b_ret (t_ret (t_ret (b_ret (t_ret (post_ret [2] rfl (.bool false) rfl ⟨z234_0,hE5⟩))))))))))))
      ·
       refine q_lss false rfl rfl (decide_eq_false hc8) (zS (e := 34) rfl rfl rfl) (lw_tv 3 rfl (q_index (s := s) k u9 rfl rfl rfl sD (zS (e := 39) rfl rfl rfl) ?_))
       by_cases hc9 : 57 < ((sAt s k :Nat):Int)
       ·
        exact q_gtr true rfl rfl (decide_eq_true hc9) (zS (e := 39) rfl rfl rfl) (lw_tvn 2 rfl (c_cond_t rfl (wp_seq (wp_plain _ [0] rfl (lw_tvn 1 rfl (wp_ret (b_ret (t_ret (t_ret (b_ret (t_ret (post_ret [2] rfl (.bool false) rfl ⟨z234_0,hE5⟩))))))))))))
       ·
        refine q_gtr false rfl rfl (decide_eq_false hc9) (zS (e := 39) rfl rfl rfl) (lw_tvn 2 rfl (c_cond_f rfl (wp_skip (wp_plain _ [0,0,0] rfl (lw_tv 1 rfl (q_add ((k + 1 :Nat):Int) rfl rfl (w64n oM sD) zN (lw_tvn 1 rfl ?_)))))))
        exact ⟨(k + 1),_,rfl,⟨rfl,rfl,trivial⟩,⟨hE5,sD,z234_1⟩,by first | omega | (dsimp only; omega)⟩
     ·
      refine q_lss false rfl rfl (decide_eq_false hc7) zN (lw_tv 3 rfl (q_index (s := s) k u9 rfl rfl rfl sD (zS (e := 28) rfl rfl rfl) ?_))
      by_cases hc10 : 122 < ((sAt s k :Nat):Int)
      ·
       refine q_gtr true rfl rfl (decide_eq_true hc10) (zS (e := 28) rfl rfl rfl) (lw_tv 4 rfl (q_index (s := s) k u9 rfl rfl rfl sD (zS (e := 34) rfl rfl rfl) ?_))
       by_cases hc11 : ((sAt s k :Nat):Int) < 48
       ·
        exact q_lss true rfl rfl (decide_eq_true hc11) (zS (e := 34) rfl rfl rfl) (lw_tvn 7 rfl (c_cond_t rfl (wp_seq (wp_plain _ [0] rfl (lw_tvn 1 rfl (wp_ret (b_ret (t_ret (t_ret (b_ret (t_ret (post_ret [2] rfl (.bool false) rfl ⟨z234_0,hE5⟩))))))))))))
       ·
        refine q_lss false rfl rfl (decide_eq_false hc11) (zS (e := 34) rfl rfl rfl) (lw_tv 3 rfl (q_index (s := s) k u9 rfl rfl rfl sD (zS (e := 39) rfl rfl rfl) ?_))
        by_cases hc12 : 57 < ((sAt s k :Nat):Int)
        ·
         exact q_gtr true rfl rfl (decide_eq_true hc12) (zS (e := 39) rfl rfl rfl) (lw_tvn 2 rfl (c_cond_t rfl (wp_seq (wp_plain _ [0] rfl (lw_tvn 1 rfl (wp_ret (b_ret (t_ret (t_ret (b_ret (t_ret (post_ret [2] rfl (.bool false) rfl ⟨z234_0,hE5⟩))))))))))))
        ·
         refine q_gtr false rfl rfl (decide_eq_false hc12) (zS (e := 39) rfl rfl rfl) (lw_tvn 2 rfl (c_cond_f rfl (wp_skip (wp_plain _ [0,0,0] rfl (lw_tv 1 rfl (q_add ((k + 1 :Nat):Int) rfl rfl (w64n oM sD) zN (lw_tvn 1 rfl ?_)))))))
         exact ⟨(k + 1),_,rfl,⟨rfl,rfl,trivial⟩,⟨hE5,sD,z234_1⟩,by first | omega | (dsimp only; omega)⟩
      ·
       refine q_gtr false rfl rfl (decide_eq_false hc10) (zS (e := 28) rfl rfl rfl) (lw_tvn 13 rfl (c_cond_f rfl (wp_skip (wp_plain _ [0,0,0] rfl (lw_tv 1 rfl (q_add ((k + 1 :Nat):Int) rfl rfl (w64n oM sD) zN (lw_tvn 1 rfl ?_)))))))
       exact ⟨(k + 1),_,rfl,⟨rfl,rfl,trivial⟩,⟨hE5,sD,z234_1⟩,by first | omega | (dsimp only; omega)⟩
    ·
     exact q_lss false rfl rfl (decide_eq_false hc6) zN (lw_nil (c_cond_f rfl (wp_exit (t_exit (t_exit (c_exit_here (wp_seq (wp_plain _ [0] rfl (lw_tvn 1 rfl (wp_ret (post_ret [2] rfl (.bool true) rfl ⟨z234_0,hE5⟩)))))))))))
 ·
  exact lw_tvn 9 rfl (c_cond_t rfl (wp_seq (wp_plain _ [0] rfl (lw_tvn 1 rfl (wp_ret (t_ret (post_ret [2] rfl (.bool false) rfl ⟨z234_0,hE0⟩)))))))
end Go.Proofs.YtnokbaiemimhjaaGreat
namespace Go.Proofs.YtnokbaiemimhjaaGreat
open Go Go.RowKit
set_option linter.unusedVariables false
set_option linter.unusedSimpArgs false
set_option maxHeartbeats 4000000
set_option maxRecDepth 100000
attribute [local irreducible] LW
theorem any_step {α : Type} {l : List α} {f : α → Bool} {k : Nat} (d : α) (hk : k < l.length) (h : (l.take k).any f = false) (h2 : f (l.getD k d) = false) : (l.take (k + 1)).any f = false := by
  rw [List.take_succ_eq_append_getElem hk, List.any_append, h]
  have : l.getD k d = l[k] := by simp [hk]
  rw [this] at h2
  simp [h2]
theorem any_hit {α : Type} {l : List α} {f : α → Bool} {k n : Nat} (d : α) (hk : k < n) (hn : n ≤ l.length) (h : f (l.getD k d) = true) : (l.take n).any f = true := by
  rw [List.any_eq_true]
  have hkl : k < l.length := by omega
  have e : l.getD k d = l[k] := by simp [hkl]
  refine ⟨l[k], ?_, by rw [← e]; exact h⟩
  rw [List.mem_take_iff_getElem]
  exact ⟨k, by omega, rfl⟩
theorem left_ok {p : List Fn} {a j : Nat} {x : Int} (hx : x = lfts ((p.getD a Fn.zero).outs.take j) ((400 : Nat) : Int)) (h : 0 ≤ x) (hj : (p.getD a Fn.zero).outs.length ≤ j) : Ex.sizes (p.getD a Fn.zero).outs ≤ 400 := by
  rw [List.take_of_length_le hj] at hx
  rcases lfts_spec (p.getD a Fn.zero).outs ((400 : Nat) : Int) (Int.natCast_nonneg _) with h2 | h2
  · have := h2.2; omega
  · have := h2.1; omega
theorem left_neg {p : List Fn} {a j : Nat} (h : lfts ((p.getD a Fn.zero).outs.take j) ((400 : Nat) : Int) < 0) : fnB p a = false := fn_6 (by
  have h1 := lfts_stop h
  rcases lfts_spec (p.getD a Fn.zero).outs ((400 : Nat) : Int) (Int.natCast_nonneg _) with h2 | h2
  · have := h2.1; have := h2.2; omega
  · have := h2.2; omega)
theorem z203_0 {p : Prop} (h : p := by first | exact ret_bool (fn_1 (bn_t (by assumption))).symm | exact ret_bool (fn_3 (bn_t (by assumption))).symm | exact ret_bool (fn_4 (bn_t (by assumption))).symm | exact ret_bool (fn_2 (any_hit (k := k) Fn.zero oM oM (by assumption))).symm | exact ret_bool (left_neg (j := j + 1) (by rw [hnx, ← hx]; omega)).symm | exact ret_bool (fn_5 (j := j) oM (bn_t (by assumption))).symm | exact ret_bool (fn_ok (bn_f (by assumption)) hqa (bn_f (by assumption)) (bn_f (by assumption)) hqe oM (left_ok hx oM oM)).symm) : p := h
theorem z203_1 {p : Prop} (h : p := by simp [exC, fnC]) : p := h
theorem c_spec_l02Func (w : World) (dp : Nat) (vp : Value) (p : List Fn) (a : Nat) (hp : RN [] (rP (rPr dp)) w.heap vp p) (ha : a < p.length) (hpl : p.length ≤ 1000000) (hz : SzP p) :
  Calls Tryz.prog 203 #[vp,.int .i64 ((a :Nat):Int)] w (fun e w' => e = .returned (.bool (fnB p a)) ∧ Ext w w') := by
 refine calls_mk [vp,.int .i64 ((a :Nat):Int)] 91 Tryz.func203 rfl rfl sM ?_
 have hE0 : Ext w w := Ext.refl w
 have hza := hz a ha
 refine wp_seq (wp_plain _ [0] rfl (lw_tvn 1 rfl (wp_seq (wp_plain _ [0,0,0,2,0,0,0] rfl (lw_tv 1 rfl (q_nilP (hp.isPtr) rfl zN ?_))))))
 obtain ⟨cs1,hr1,hl1⟩ := RN.at (good_rPr _) hp
 obtain ⟨ve1,rfl,hx1⟩ := RPr.of hr1
 have hln1 := hx1.lenle
 unfold maxLen at hln1
 refine q_fldL (p := vp) 0 fd26_0 rfl (hl1 _ (Chg.of_ext [] hE0)) zN (q_load (p := (padd vp 0)) (.inr rfl) ve1 one24 rfl ((hl1 _ (Chg.of_ext [] hE0)).ld (i := 0) z203_1) zN (lw_tv 1 rfl (q_idx (v := ve1) a u24 tiS55 rfl rfl hx1.isSl rfl sD zN (lw_tvn 1 rfl (wp_seq (wp_seq (wp_plain _ [0,0,0,2,0,0,0,0,0,0,2,0,0,0,0,0,0,0,2,0,0,0,0] rfl (lw_tv 1 rfl ?_))))))))
 refine q_nilP (RN.isPtr (RN.ptr (good_rFn dp) (by decide) Fn.zero hx1 sD)) rfl zN ?_
 obtain ⟨cs2,hr2,hl2⟩ := hx1.get (good_rFn dp) Fn.zero (k := a) sD
 obtain ⟨ve2,rfl,hx2⟩ := RF.of hr2
 have hln2 := hx2.rn.lenle
 unfold maxLen at hln2
 refine q_fldL (p := eptr ve1 a 3) 0 fd55_0 rfl (hl2 _ (Chg.of_ext [] hE0)) zN (q_load (p := (padd (eptr ve1 a 3) 0)) (.inr rfl) (.string ((p.getD a Fn.zero).name)) one9 rfl ((hl2 _ (Chg.of_ext [] hE0)).ld (i := 0) z203_1) zN (lw_callq 234 [] [] [(.string ((p.getD a Fn.zero).name))] rfl rfl cf234 zN (.bool (nmB ((p.getD a Fn.zero).name))) (fun wq => c_spec_IsName wq ((p.getD a Fn.zero).name) oM) (q_not (!(nmB ((p.getD a Fn.zero).name))) rfl rfl zN (lw_tv 1 rfl ?_))))
 cases hb4 : (!(nmB ((p.getD a Fn.zero).name)))
 ·
  refine lw_tv 1 rfl (q_nilP (RN.isPtr (RN.ptr (good_rFn dp) (by decide) Fn.zero hx1 sD)) rfl (zS (e := 21) rfl rfl rfl) (q_fldL (p := eptr ve1 a 3) 1 fd55_1 rfl (hl2 _ (Chg.of_ext [] hE0)) (zS (e := 21) rfl rfl rfl) (q_load (p := (padd (eptr ve1 a 3) 1)) (.inr rfl) (.int .i64 ((p.getD a Fn.zero).params)) one2 rfl ((hl2 _ (Chg.of_ext [] hE0)).ld (i := 1) z203_1) (zS (e := 21) rfl rfl rfl) ?_)))
  refine lw_callq 92 [] [] [(.int .i64 ((p.getD a Fn.zero).params)),(.int .i64 ((0 :Nat):Int)),(.int .i64 ((12 :Nat):Int))] rfl rfl cf92 (zS (e := 21) rfl rfl rfl) (.bool (decide (((0 :Nat):Int) ≤ ((p.getD a Fn.zero).params)) && decide (((p.getD a Fn.zero).params) ≤ ((12 :Nat):Int)))) (fun wq => c_spec_l00In wq _ _ _ hx2.rng oM oM) (q_not (!(decide (((0 :Nat):Int) ≤ ((p.getD a Fn.zero).params)) && decide (((p.getD a Fn.zero).params) ≤ ((12 :Nat):Int)))) rfl rfl (zS (e := 21) rfl rfl rfl) (lw_tv 2 rfl ?_))
  cases hb6 : (!(decide (((0 :Nat):Int) ≤ ((p.getD a Fn.zero).params)) && decide (((p.getD a Fn.zero).params) ≤ ((12 :Nat):Int))))
  ·
   refine lw_tv 1 rfl (q_nilP (RN.isPtr (RN.ptr (good_rFn dp) (by decide) Fn.zero hx1 sD)) rfl (zS (e := 29) rfl rfl rfl) (q_fldL (p := eptr ve1 a 3) 2 fd55_2 rfl (hl2 _ (Chg.of_ext [] hE0)) (zS (e := 29) rfl rfl rfl) (q_load (p := (padd (eptr ve1 a 3) 2)) (.inr rfl) ve2 one53 rfl ((hl2 _ (Chg.of_ext [] hE0)).ld (i := 2) z203_1) (zS (e := 29) rfl rfl rfl) (q_len (v := ve2) u53 rfl hx2.rn.isSl (zS (e := 29) rfl rfl rfl) ?_))))
   refine lw_callq 92 [] [] [(.int .i64 ((((p.getD a Fn.zero).outs).length :Nat):Int)),(.int .i64 ((1 :Nat):Int)),(.int .i64 ((12 :Nat):Int))] rfl rfl cf92 (zS (e := 29) rfl rfl rfl) (.bool (decide (((1 :Nat):Int) ≤ ((((p.getD a Fn.zero).outs).length :Nat):Int)) && decide (((((p.getD a Fn.zero).outs).length :Nat):Int) ≤ ((12 :Nat):Int)))) (fun wq => c_spec_l00In wq _ _ _ oM oM oM) (q_not (!(decide (((1 :Nat):Int) ≤ ((((p.getD a Fn.zero).outs).length :Nat):Int)) && decide (((((p.getD a Fn.zero).outs).length :Nat):Int) ≤ ((12 :Nat):Int)))) rfl rfl (zS (e := 29) rfl rfl rfl) (lw_tvn 1 rfl ?_))
   cases hb8 : (!(decide (((1 :Nat):Int) ≤ ((((p.getD a Fn.zero).outs).length :Nat):Int)) && decide (((((p.getD a Fn.zero).outs).length :Nat):Int) ≤ ((12 :Nat):Int))))
   ·
    refine c_cond_f (by first | rfl | (show Value.bool _ = _; rw [hb8])) (wp_skip (wp_seq (wp_seq (wp_plain _ [0] rfl (lw_tvn 1 rfl (wp_block ?_))))))
    refine c_loop (S := Nat) (fun (k : Nat) => ([(6,(.int .i64 ((k :Nat):Int))),(0,vp),(1,(.int .i64 ((a :Nat):Int))),(5,(eptr ve1 a 3))] : List (Nat × Value))) (fun (k : Nat) (W : World) => Ext w W ∧ k ≤ a ∧ (p.take k).any (fun g => strE g.name (p.getD a Fn.zero).name) = false) (fun (k : Nat) => a - k) 0 ⟨rfl,rfl,rfl,rfl,trivial⟩ ⟨hE0,sD,(by rfl)⟩ ?_
    clear hE0 hln1 hln2
    rintro k ρ9 w9 ⟨hE9,hp9_0,hq⟩
    have hzs9 : w.heap.size ≤ w9.heap.size := hE9.size
    refine wp_seq (wp_seq (wp_plain _ [0,0,0] rfl (lw_tv 2 rfl ?_)))
    by_cases hc10 : ((k :Nat):Int) < ((a :Nat):Int)
    ·
     refine q_lss true rfl rfl (decide_eq_true hc10) zN (lw_nil (c_cond_t rfl (wp_skip (wp_seq (wp_block (wp_seq (wp_draw _ [0,0,0,1,0,0,0,1,0,0,0,1,0] mixed (by kernel_rfl) (lw_tv 1 rfl (q_nilP (hp.isPtr) rfl zN (q_fldL (p := vp) 0 fd26_0 rfl (hl1 _ (Chg.of_ext [] hE9.drew)) zN (q_load (p := (padd vp 0)) (.inl rfl) ve1 one24 rfl ((hl1 _ (Chg.of_ext [] hE9.drew)).ld (i := 0) z203_1) zN (lw_tv 1 rfl ?_))))))))))))
     refine q_idx (v := ve1) k u24 tiS55 rfl rfl hx1.isSl rfl sD zN ?_
     obtain ⟨cs11,hr11,hl11⟩ := hx1.get (good_rFn dp) Fn.zero (k := k) sD
     obtain ⟨ve11,rfl,hx11⟩ := RF.of hr11
     have hln11 := hx11.rn.lenle
     unfold maxLen at hln11
     refine q_fldL (p := eptr ve1 k 3) 0 fd55_0 rfl (hl11 _ (Chg.of_ext [] hE9.drew)) zN (q_load (p := (padd (eptr ve1 k 3) 0)) (.inl rfl) (.string ((p.getD k Fn.zero).name)) one9 rfl ((hl11 _ (Chg.of_ext [] hE9.drew)).ld (i := 0) z203_1) zN (lw_tv 1 rfl (q_nilP (RN.isPtr (RN.ptr (good_rFn dp) (by decide) Fn.zero hx1 sD)) rfl zN (q_fldL (p := eptr ve1 a 3) 0 fd55_0 rfl (hl2 _ (Chg.of_ext [] hE9.drew)) zN ?_))))
     refine q_load (p := (padd (eptr ve1 a 3) 0)) (.inl rfl) (.string ((p.getD a Fn.zero).name)) one9 rfl ((hl2 _ (Chg.of_ext [] hE9.drew)).ld (i := 0) z203_1) zN ?_
     cases hc12 : strE ((p.getD k Fn.zero).name) ((p.getD a Fn.zero).name)
     ·
      refine q_eqls false u9 rfl rfl hc12 zN (lw_nil (c_cond_f rfl (wp_skip (wp_plain _ [0,0,0] rfl (lw_tv 1 rfl (q_add ((k + 1 :Nat):Int) rfl rfl (w64n oM sD) zN (lw_tvn 1 rfl ?_)))))))
      exact ⟨(k + 1),_,rfl,⟨rfl,rfl,rfl,rfl,trivial⟩,⟨hE9.drew,sD,(by exact any_step Fn.zero oM hq (by assumption))⟩,by first | omega | (dsimp only; omega)⟩
     ·
      exact q_eqls true u9 rfl rfl hc12 zN (lw_nil (c_cond_t rfl (wp_seq (wp_plain _ [0] rfl (lw_tvn 1 rfl (wp_ret (b_ret (t_ret (t_ret (b_ret (t_ret (post_ret [4] rfl (.bool false) rfl ⟨z203_0,hE9.drew⟩))))))))))))
    ·
     refine q_lss false rfl rfl (decide_eq_false hc10) zN (lw_nil (c_cond_f rfl (wp_exit (t_exit (t_exit (c_exit_here (wp_seq (wp_plain _ [0] rfl ?_))))))))
     have hka : k = a := by omega
     rw [hka] at hq
     have hqa := hq
     refine lw_tvn 1 rfl (wp_seq (wp_seq (wp_plain _ [0] rfl (lw_tvn 1 rfl (wp_block ?_)))))
     refine c_loop (S := Nat × Int) (fun (⟨j,x⟩ : Nat × Int) => ([(7,(.int .i64 x)),(8,(.int .i64 ((j :Nat):Int))),(0,vp),(1,(.int .i64 ((a :Nat):Int))),(5,(eptr ve1 a 3))] : List (Nat × Value))) (fun (⟨j,x⟩ : Nat × Int) (W : World) => Ext w W ∧ j ≤ (p.getD a Fn.zero).outs.length ∧ x = lfts ((p.getD a Fn.zero).outs.take j) ((400 :Nat):Int) ∧ (0 ≤ x ∧ x ≤ 400) ∧ (List.range j).all (fun j => exB p ((p.getD a Fn.zero).outs.getD j Ex.zero) (p.getD a Fn.zero).params ((a :Nat):Int)) = true) (fun (⟨j,x⟩ : Nat × Int) => (p.getD a Fn.zero).outs.length - j) (0,((400 :Nat):Int)) ⟨rfl,rfl,rfl,rfl,rfl,trivial⟩ ⟨hE9,sD,(by rw [List.take_zero,lfts]),oM,(by rfl)⟩ ?_
     clear hE9 hzs9
     rintro ⟨j,x⟩ ρ13 w13 ⟨hE13,hp13_0,hx,hp13_2,hqe⟩
     have hzs13 : w.heap.size ≤ w13.heap.size := hE13.size
     refine wp_seq (wp_seq (wp_plain _ [0,0,0,0,2,0,0] rfl (lw_tv 2 rfl (q_nilP (RN.isPtr (RN.ptr (good_rFn dp) (by decide) Fn.zero hx1 sD)) rfl zN (q_fldL (p := eptr ve1 a 3) 2 fd55_2 rfl (hl2 _ (Chg.of_ext [] hE13)) zN (q_load (p := (padd (eptr ve1 a 3) 2)) (.inr rfl) ve2 one53 rfl ((hl2 _ (Chg.of_ext [] hE13)).ld (i := 2) z203_1) zN (q_len (v := ve2) u53 rfl hx2.rn.isSl zN ?_)))))))
     by_cases hc14 : ((j :Nat):Int) < ((((p.getD a Fn.zero).outs).length :Nat):Int)
     ·
      refine q_lss true rfl rfl (decide_eq_true hc14) zN (lw_nil (c_cond_t rfl (wp_skip (wp_seq (wp_block (wp_seq (wp_plain _ [0,0,0,2,0,0,0,3,0] rfl ?_)))))))
      have hst := sizes_step (l := (p.getD a Fn.zero).outs) (k := j) oM
      have hle := sizes_take (p.getD a Fn.zero).outs (j + 1)
      have hnx := lfts_step (l := (p.getD a Fn.zero).outs) (k := j) (x := ((400 :Nat):Int)) oM oM
      have hnr := lftE_rng (e := (p.getD a Fn.zero).outs.getD j Ex.zero) (x := x) oM
      refine lw_tv 1 rfl (q_nilP (RN.isPtr (RN.ptr (good_rFn dp) (by decide) Fn.zero hx1 sD)) rfl zN (q_fldL (p := eptr ve1 a 3) 2 fd55_2 rfl (hl2 _ (Chg.of_ext [] hE13)) zN (q_load (p := (padd (eptr ve1 a 3) 2)) (.inr rfl) ve2 one53 rfl ((hl2 _ (Chg.of_ext [] hE13)).ld (i := 2) z203_1) zN (lw_tv 1 rfl ?_))))
      refine q_idx (v := ve2) j u53 tiS174 rfl rfl hx2.rn.isSl rfl sD zN (lw_tv 1 rfl ?_)
      refine lw_call 235 [] [] [(eptr ve2 j 5),(.int .i64 x)] rfl rfl cf235 zN (c_spec_l02Left _ dp (eptr ve2 j 5) (((p.getD a Fn.zero).outs).getD j Ex.zero) _ (RN.ptr (good_rEx dp) (by decide) Ex.zero (hx2.rn.ext (good_rdS (good_rEx dp)) hE13) sD) oM oM oM) ?_
      rintro e15 w15 ⟨rfl,hX15⟩
      refine ⟨_,rfl,hX15,?_⟩
      have hzs15:=hX15.size
      have hE15:=hE13.trans hX15
      refine lw_tvn 1 rfl (wp_seq (wp_draw _ [0,0,0,0,0,0,0,1,0,0,0,0,0,1,0,3,0,0] mixed (by kernel_rfl) (lw_tv 1 rfl ?_)))
      by_cases hc16 : lftE (((p.getD a Fn.zero).outs).getD j Ex.zero) x < ((0 :Nat):Int)
      ·
       exact q_lss true rfl rfl (decide_eq_true hc16) zN (lw_tvn 16 rfl (c_cond_t rfl (wp_seq (wp_plain _ [0] rfl (lw_tvn 1 rfl (wp_ret (b_ret (t_ret (t_ret (b_ret (t_ret (post_ret [4] rfl (.bool false) rfl ⟨z203_0,hE15.drew⟩))))))))))))
      ·
       refine q_lss false rfl rfl (decide_eq_false hc16) zN (lw_tv 3 rfl (q_nilP (RN.isPtr (RN.ptr (good_rFn dp) (by decide) Fn.zero hx1 sD)) rfl (zS (e := 75) rfl rfl rfl) (q_fldL (p := eptr ve1 a 3) 2 fd55_2 rfl (hl2 _ (Chg.of_ext [] hE15.drew)) (zS (e := 75) rfl rfl rfl) (q_load (p := (padd (eptr ve1 a 3) 2)) (.inl rfl) ve2 one53 rfl ((hl2 _ (Chg.of_ext [] hE15.drew)).ld (i := 2) z203_1) (zS (e := 75) rfl rfl rfl) (lw_tv 1 rfl ?_)))))
       refine q_idx (v := ve2) j u53 tiS174 rfl rfl hx2.rn.isSl rfl sD (zS (e := 75) rfl rfl rfl) (lw_tv 1 rfl ?_)
       refine q_nilP (RN.isPtr (RN.ptr (good_rFn dp) (by decide) Fn.zero hx1 sD)) rfl (zS (e := 75) rfl rfl rfl) (q_fldL (p := eptr ve1 a 3) 1 fd55_1 rfl (hl2 _ (Chg.of_ext [] hE15.drew)) (zS (e := 75) rfl rfl rfl) (q_load (p := (padd (eptr ve1 a 3) 1)) (.inl rfl) (.int .i64 ((p.getD a Fn.zero).params)) one2 rfl ((hl2 _ (Chg.of_ext [] hE15.drew)).ld (i := 1) z203_1) (zS (e := 75) rfl rfl rfl) (lw_tv 1 rfl ?_)))
       refine lw_call 236 [] [] [vp,(eptr ve2 j 5),(.int .i64 ((p.getD a Fn.zero).params)),(.int .i64 ((a :Nat):Int))] rfl rfl cf236 (zS (e := 75) rfl rfl rfl) (c_spec_l02Expr _ dp vp (p) dp (eptr ve2 j 5) (((p.getD a Fn.zero).outs).getD j Ex.zero) _ _ (hp.ext (good_rP (good_rPr dp)) hE15.drew) (RN.ptr (good_rEx dp) (by decide) Ex.zero (hx2.rn.ext (good_rdS (good_rEx dp)) hE15.drew) sD) hx2.rng oM oM) ?_
       rintro e17 w17 ⟨rfl,hX17⟩
       refine ⟨_,rfl,hX17,?_⟩
       replace hX17 := hX17.of_drew
       have hzs17:=hX17.size
       have hE17:=hE15.trans hX17
       refine q_not (!(exB p (((p.getD a Fn.zero).outs).getD j Ex.zero) ((p.getD a Fn.zero).params) ((a :Nat):Int))) rfl rfl (zS (e := 75) rfl rfl rfl) (lw_tvn 1 rfl ?_)
       cases hb18 : (!(exB p (((p.getD a Fn.zero).outs).getD j Ex.zero) ((p.getD a Fn.zero).params) ((a :Nat):Int)))
       ·
        refine c_cond_f (by first | rfl | (show Value.bool _ = _; rw [hb18])) (wp_skip (wp_plain _ [0,0,0] rfl (lw_tv 1 rfl (q_add ((j + 1 :Nat):Int) rfl rfl (w64n oM sD) zN (lw_tvn 1 rfl ?_)))))
        exact ⟨((j + 1),(lftE (((p.getD a Fn.zero).outs).getD j Ex.zero) x)),_,rfl,⟨rfl,rfl,rfl,rfl,rfl,trivial⟩,⟨hE17,sD,(by rw [hnx,← hx]),oM,(by exact allR_succ hqe (bn_f (by assumption)))⟩,by first | omega | (dsimp only; omega)⟩
       ·
        exact c_cond_t (by first | rfl | (show Value.bool _ = _; rw [hb18])) (wp_seq (wp_plain _ [0] rfl (lw_tvn 1 rfl (wp_ret (b_ret (t_ret (t_ret (b_ret (t_ret (post_ret [4] rfl (.bool false) rfl ⟨z203_0,hE17⟩))))))))))
     ·
      exact q_lss false rfl rfl (decide_eq_false hc14) zN (lw_nil (c_cond_f rfl (wp_exit (t_exit (t_exit (c_exit_here (wp_seq (wp_plain _ [0] rfl (lw_tvn 1 rfl (wp_ret (post_ret [4] rfl (.bool true) rfl ⟨z203_0,hE13⟩)))))))))))
   ·
    exact c_cond_t (by first | rfl | (show Value.bool _ = _; rw [hb8])) (wp_seq (wp_plain _ [0] rfl (lw_tvn 1 rfl (wp_ret (t_ret (post_ret [4] rfl (.bool false) rfl ⟨z203_0,hE0⟩))))))
  ·
   exact lw_tvn 8 rfl (c_cond_t rfl (wp_seq (wp_plain _ [0] rfl (lw_tvn 1 rfl (wp_ret (t_ret (post_ret [4] rfl (.bool false) rfl ⟨z203_0,hE0⟩)))))))
 ·
  exact lw_tvn 16 rfl (c_cond_t rfl (wp_seq (wp_plain _ [0] rfl (lw_tvn 1 rfl (wp_ret (t_ret (post_ret [4] rfl (.bool false) rfl ⟨z203_0,hE0⟩)))))))
theorem z157_0 {p : Prop} (h : p := by first | exact ret_bool (ok_big oM) | exact ret_bool (ok_end oM oM oM hq) | exact ret_bool (ok_bad (k := k) oM (bn_t (by assumption)))) : p := h
theorem c_spec_l02Ok (w : World) (dp : Nat) (vp : Value) (p : List Fn) (hp : RN [] (rP (rPr dp)) w.heap vp p) (hz : SzP p) :
  Calls Tryz.prog 157 #[vp] w (fun e w' => e = .returned (.bool (okP p)) ∧ Ext w w') := by
 refine calls_mk [vp] 23 Tryz.func157 rfl rfl sM ?_
 have hE0 : Ext w w := Ext.refl w
 refine wp_seq (wp_plain _ [0] rfl (lw_tvn 1 rfl (wp_seq (wp_seq (wp_plain _ [0,0,0,2,0,0] rfl (lw_tv 1 rfl (q_nilP (hp.isPtr) rfl zN ?_)))))))
 obtain ⟨cs1,hr1,hl1⟩ := RN.at (good_rPr _) hp
 obtain ⟨ve1,rfl,hx1⟩ := RPr.of hr1
 have hln1 := hx1.lenle
 unfold maxLen at hln1
 refine q_fldL (p := vp) 0 fd26_0 rfl (hl1 _ (Chg.of_ext [] hE0)) zN (q_load (p := (padd vp 0)) (.inr rfl) ve1 one24 rfl ((hl1 _ (Chg.of_ext [] hE0)).ld (i := 0) (by simp [exC,fnC])) zN (q_len (v := ve1) u24 rfl hx1.isSl zN ?_))
 by_cases hc2 : ((16 :Nat):Int) < ((p.length :Nat):Int)
 ·
  exact q_gtr true rfl rfl (decide_eq_true hc2) zN (lw_nil (c_cond_t rfl (wp_seq (wp_plain _ [0] rfl (lw_tvn 1 rfl (wp_ret (t_ret (post_ret [2] rfl (.bool false) rfl ⟨z157_0,hE0⟩))))))))
 ·
  refine q_gtr false rfl rfl (decide_eq_false hc2) zN (lw_nil (c_cond_f rfl (wp_skip (wp_seq (wp_seq (wp_plain _ [0] rfl (lw_tvn 1 rfl (wp_block (c_loop (S := Nat) (fun (k : Nat) => ([(3,(.int .i64 ((k :Nat):Int))),(0,vp)] : List (Nat × Value))) (fun (k : Nat) (W : World) => Ext w W ∧ k ≤ p.length ∧ (List.range k).all (fnB p) = true) (fun (k : Nat) => p.length - k) 0 ⟨rfl,rfl,trivial⟩ ⟨hE0,sD,(by rfl)⟩ ?_)))))))))
  clear hE0 hln1
  rintro k ρ3 w3 ⟨hE3,hp3_0,hq⟩
  have hzs3 : w.heap.size ≤ w3.heap.size := hE3.size
  refine wp_seq (wp_seq (wp_plain _ [0,0,0,0,2,0,0] rfl (lw_tv 2 rfl (q_nilP (hp.isPtr) rfl zN (q_fldL (p := vp) 0 fd26_0 rfl (hl1 _ (Chg.of_ext [] hE3)) zN (q_load (p := (padd vp 0)) (.inr rfl) ve1 one24 rfl ((hl1 _ (Chg.of_ext [] hE3)).ld (i := 0) (by simp [exC,fnC])) zN (q_len (v := ve1) u24 rfl hx1.isSl zN ?_)))))))
  by_cases hc4 : ((k :Nat):Int) < ((p.length :Nat):Int)
  ·
   refine q_lss true rfl rfl (decide_eq_true hc4) zN (lw_nil (c_cond_t rfl (wp_skip (wp_seq (wp_block (wp_seq (wp_plain _ [0,0,3,0] rfl (lw_tv 2 rfl (lw_call 203 [] [] [vp,(.int .i64 ((k :Nat):Int))] rfl rfl cf203 zN (c_spec_l02Func _ dp vp (p) (k) (hp.ext (good_rP (good_rPr dp)) hE3) oM oM (by exact hz)) ?_)))))))))
   rintro e5 w5 ⟨rfl,hX5⟩
   refine ⟨_,rfl,hX5,?_⟩
   have hzs5:=hX5.size
   have hE5:=hE3.trans hX5
   refine q_not (!(fnB p k)) rfl rfl zN (lw_nil ?_)
   cases hb6 : (!(fnB p k))
   ·
    refine c_cond_f (by first | rfl | (show Value.bool _ = _; rw [hb6])) (wp_skip (wp_plain _ [0,0,0] rfl (lw_tv 1 rfl (q_add ((k + 1 :Nat):Int) rfl rfl (w64n oM sD) zN (lw_tvn 1 rfl ?_)))))
    exact ⟨(k + 1),_,rfl,⟨rfl,rfl,trivial⟩,⟨hE5,sD,(by exact allR_succ hq (bn_f (by assumption)))⟩,by first | omega | (dsimp only; omega)⟩
   ·
    exact c_cond_t (by first | rfl | (show Value.bool _ = _; rw [hb6])) (wp_seq (wp_plain _ [0] rfl (lw_tvn 1 rfl (wp_ret (b_ret (t_ret (t_ret (b_ret (t_ret (post_ret [2] rfl (.bool false) rfl ⟨z157_0,hE5⟩))))))))))
  ·
   exact q_lss false rfl rfl (decide_eq_false hc4) zN (lw_nil (c_cond_f rfl (wp_exit (t_exit (t_exit (c_exit_here (wp_seq (wp_plain _ [0] rfl (lw_tvn 1 rfl (wp_ret (post_ret [2] rfl (.bool true) rfl ⟨z157_0,hE3⟩)))))))))))
theorem z91_0 {p : Prop} (h : p := by first | exact ret_int (isF_1 (bn_t (by assumption))) | exact ret_int (isF_2 (bn_f (by assumption)) (inB_d (bn_t (by assumption)))) | exact ret_int (isF_3 (bn_f (by assumption)) (inB_e (bn_f (by assumption))))) : p := h
theorem c_spec_l02Asked (w : World) (dp : Nat) (vp : Value) (p : List Fn) (f : Int) (hp : RN [] (rP (rPr dp)) w.heap vp p) (_hf : -9223372036854775808 ≤ f ∧ f ≤ 9223372036854775807) (hz : SzP p) :
  Calls Tryz.prog 91 #[vp,.int .i64 f] w (fun e w' => e = .returned (.int .i64 (isF p f)) ∧ Ext w w') := by
 refine calls_mk [vp,.int .i64 f] 17 Tryz.func91 rfl rfl sM ?_
 have hE0 : Ext w w := Ext.refl w
 refine wp_seq (wp_plain _ [0] rfl (lw_tvn 1 rfl (wp_seq (wp_seq (wp_plain _ [0,3,0] rfl (lw_tv 1 rfl (lw_call 157 [] [] [vp] rfl rfl cf157 zN (c_spec_l02Ok _ dp vp (p) (hp.ext (good_rP (good_rPr dp)) hE0) (by exact hz)) ?_)))))))
 rintro e1 w1 ⟨rfl,hX1⟩
 refine ⟨_,rfl,hX1,?_⟩
 have hzs1:=hX1.size
 have hE1:=hE0.trans hX1
 refine q_not (!(okP p)) rfl rfl zN (lw_nil ?_)
 cases hb2 : (!(okP p))
 ·
  refine c_cond_f (by first | rfl | (show Value.bool _ = _; rw [hb2])) (wp_skip (wp_seq (wp_seq (wp_plain _ [0,0,0,0,2,0,0,0,0] rfl (lw_tv 2 rfl (q_nilP (hp.isPtr) rfl zN ?_))))))
  obtain ⟨cs3,hr3,hl3⟩ := RN.at (good_rPr _) hp
  obtain ⟨ve3,rfl,hx3⟩ := RPr.of hr3
  have hln3 := hx3.lenle
  unfold maxLen at hln3
  refine q_fldL (p := vp) 0 fd26_0 rfl (hl3 _ (Chg.of_ext [] hE1)) zN (q_load (p := (padd vp 0)) (.inr rfl) ve3 one24 rfl ((hl3 _ (Chg.of_ext [] hE1)).ld (i := 0) (by simp [exC,fnC])) zN (q_len (v := ve3) u24 rfl hx3.isSl zN (q_sub (((p.length :Nat):Int) - 1) rfl rfl (w64 oM oM) zN (lw_callq 92 [] [] [(.int .i64 f),(.int .i64 ((0 :Nat):Int)),(.int .i64 (((p.length :Nat):Int) - 1))] rfl rfl cf92 zN (.bool (decide (((0 :Nat):Int) ≤ f) && decide (f ≤ (((p.length :Nat):Int) - 1)))) (fun wq => c_spec_l00In wq _ _ _ _hf oM oM) (q_not (!(decide (((0 :Nat):Int) ≤ f) && decide (f ≤ (((p.length :Nat):Int) - 1)))) rfl rfl zN (lw_nil ?_))))))
  cases hb5 : (!(decide (((0 :Nat):Int) ≤ f) && decide (f ≤ (((p.length :Nat):Int) - 1))))
  ·
   exact c_cond_f (by first | rfl | (show Value.bool _ = _; rw [hb5])) (wp_skip (wp_seq (wp_plain _ [0] rfl (lw_tvn 1 rfl (wp_ret (post_ret [4] rfl (.int .i64 ((0 :Nat):Int)) rfl ⟨z91_0,hE1⟩))))))
  ·
   exact c_cond_t (by first | rfl | (show Value.bool _ = _; rw [hb5])) (wp_seq (wp_plain _ [0] rfl (lw_tvn 1 rfl (wp_ret (t_ret (post_ret [4] rfl (.int .i64 ((2 :Nat):Int)) rfl ⟨z91_0,hE1⟩))))))
 ·
  exact c_cond_t (by first | rfl | (show Value.bool _ = _; rw [hb2])) (wp_seq (wp_plain _ [0] rfl (lw_tvn 1 rfl (wp_ret (t_ret (post_ret [4] rfl (.int .i64 ((1 :Nat):Int)) rfl ⟨z91_0,hE1⟩))))))
end Go.Proofs.YtnokbaiemimhjaaGreat
namespace Go.Proofs.YtnokbaiemimhjaaGreat
open Go Go.RowKit
set_option linter.unusedVariables false
set_option linter.unusedSimpArgs false
set_option maxHeartbeats 4000000
set_option maxRecDepth 100000
attribute [local irreducible] LW
theorem c_spec_l01Const (w : World) (x : Int) (K : Nat) (_hx : -9223372036854775808 ≤ x ∧ x ≤ 9223372036854775807) (_hK : K ≤ 1000000000000) (hK : K ≤ 1000000000) :
  Calls Tryz.prog 122 #[.int .i64 x,.int .i64 ((K :Nat):Int)] w (fun e w' => ∃ v0 : Value,e = .returned (v0) ∧ Ext w w' ∧ Fr (owL rI 2) w.heap.size w'.heap.size w'.heap v0 (cst K x)) := by
 refine calls_mk [.int .i64 x,.int .i64 ((K :Nat):Int)] 14 Tryz.func122 rfl rfl sM ?_
 have hE0 : Ext w w := Ext.refl w
 refine wp_seq (wp_plain _ [0] rfl (lw_tvn 1 rfl (wp_seq (wp_plain _ [0,3,0] rfl (lw_tv 1 rfl (r_make (n := K) u27 ti2 rfl rfl rfl sD zN fun v1 w1 hX1 hz1 hO1 => ?_))))))
 have hzs1:=hX1.size
 have hE1:=hE0.trans hX1
 refine lw_tvn 1 rfl (wp_seq (wp_seq (wp_plain _ [0,0] rfl (lw_tv 1 rfl ?_))))
 by_cases hc2 : ((0 :Nat):Int) < ((K :Nat):Int)
 ·
  refine q_gtr true rfl rfl (decide_eq_true hc2) zN (lw_nil (c_cond_t rfl (wp_plain _ [0,0,0,4] rfl (lw_tv 2 rfl (q_idx (v := v1) 0 u27 ti2 rfl rfl hO1.isSl rfl sD zN ?_)))))
  refine e_setI (v := v1) (w := w1) sz2 rfl rfl _hx hO1 sD zN fun w3 F3 hC3 hz3 hF3 hO3 => ?_
  have hE3 : Ext w w3 := hC3.below hE1 (fun c hc => Nat.le_trans (Nat.le_refl _) (hF3 c hc).1) hE1.size
  have hzs3:=hC3.size
  exact lw_nil (wp_seq (wp_plain _ [0,0] rfl (lw_tvn 2 rfl (wp_ret (post_ret [4] rfl v1 rfl ⟨v1,rfl,hE3,(by exact hO3.up o1)⟩)))))
 ·
  exact q_gtr false rfl rfl (decide_eq_false hc2) zN (lw_nil (c_cond_f rfl (wp_skip (wp_seq (wp_plain _ [0,0] rfl (lw_tvn 2 rfl (wp_ret (post_ret [4] rfl v1 rfl ⟨v1,rfl,hE1,(by have h := hO1.up o1; obtain rfl : K = 0 := oM; exact h)⟩))))))))
theorem scl_eq (a : List Int) (y : Int) : scl a y = sclS a y := by
  unfold scl sclS
  exact leq_done (d := 0) (k := a.length) (fun r hr => by rw [map_getD (d := 0) hr, tab_get _ hr]) (by simp) (by simp)
theorem z224_0 {p : Prop} (h : p := by first | omega | assumption | (simp only [List.length_nil, List.length_cons, List.length_append, List.length_set, List.length_replicate, tab_len]; omega) | (simp [List.length_nil, List.length_cons, List.length_append, List.length_set, List.length_replicate, tab_len]; done) | (simp [List.length_nil, List.length_cons, List.length_append, List.length_set, List.length_replicate, tab_len]; omega)) : p := h
theorem c_spec_l01Add (w : World) (va : Value) (a : List Int) (vb : Value) (b : List Int) (ha : Rd (rdL rI) w.heap va a) (hb : Rd (rdL rI) w.heap vb b) (hla : a.length ≤ 1000000000000) (hl : a.length ≤ b.length) :
  Calls Tryz.prog 224 #[va,vb] w (fun e w' => ∃ v0 : Value,e = .returned (v0) ∧ Ext w w' ∧ Fr (owL rI 2) w.heap.size w'.heap.size w'.heap v0 (addS a b)) := by
 refine calls_mk [va,vb] 27 Tryz.func224 rfl rfl sM ?_
 have hE0 : Ext w w := Ext.refl w
 have hl_va := ha.lenle
 have hl_vb := hb.lenle
 refine wp_seq (wp_plain _ [0] rfl (lw_tvn 1 rfl (wp_seq (wp_plain _ [3,0] rfl (r_nil (rI) good_rI u27 ti2 zN fun v1 w1 hX1 hz1 hO1 => ?_)))))
 have hzs1:=hX1.size
 have hE1:=hE0.trans hX1
 refine lw_tvn 1 rfl (wp_seq (wp_seq (wp_plain _ [0] rfl (lw_tvn 1 rfl (wp_block ?_)))))
 refine c_loop (S := Nat × Value) (fun (⟨k,vo⟩ : Nat × Value) => ([(5,vo),(6,(.int .i64 ((k :Nat):Int))),(0,va),(1,vb)] : List (Nat × Value))) (fun (⟨k,vo⟩ : Nat × Value) (W : World) => Ext w W ∧ Fr (owL rI 2) w.heap.size W.heap.size W.heap vo (tab k (fun t => md (a.getD t 0 + b.getD t 0))) ∧ k ≤ a.length) (fun (⟨k,vo⟩ : Nat × Value) => a.length - k) (0,v1) ⟨rfl,rfl,rfl,rfl,trivial⟩ ⟨hE1,(by exact hO1.up o1),z224_0⟩ ?_
 clear hE0 hO1 hz1 hX1 hzs1 hE1
 rintro ⟨k,vo⟩ ρ2 w2 ⟨hE2,hL2_0,hp2_0⟩
 have hzs2 : w.heap.size ≤ w2.heap.size := hE2.size
 refine wp_seq (wp_seq (wp_plain _ [0,0,0,0] rfl (lw_tv 2 rfl (q_len (v := va) u27 rfl ha.isSl zN ?_))))
 by_cases hc3 : ((k :Nat):Int) < ((a.length :Nat):Int)
 ·
  refine q_lss true rfl rfl (decide_eq_true hc3) zN (lw_nil (c_cond_t rfl (wp_skip (wp_seq (wp_block (wp_draw _ [0,0,0,0,1,0,0,0,1,0,3,4,0] mixed (by kernel_rfl) (lw_tv 3 rfl (q_idx (v := va) k u27 ti2 rfl rfl ha.isSl rfl z224_0 zN ?_))))))))
  refine q_load (p := eptr va k 1) (.inl rfl) (.int .i64 (a.getD k 0)) one2 rfl (ldH_ext hE2.drew (ha.getI z224_0).1) zN (lw_tv 2 rfl ?_)
  refine q_idx (v := vb) k u27 ti2 rfl rfl hb.isSl rfl z224_0 zN ?_
  refine q_load (p := eptr vb k 1) (.inl rfl) (.int .i64 (b.getD k 0)) one2 rfl (ldH_ext hE2.drew (hb.getI z224_0).1) zN ?_
  refine lw_callq 75 [] [] [(.int .i64 (a.getD k 0)),(.int .i64 (b.getD k 0))] rfl rfl cf75 zN (.int .i64 (md ((a.getD k 0) + (b.getD k 0)))) (fun wq => c_spec_Plus wq _ _ (ha.getI z224_0).2 (hb.getI z224_0).2) ?_
  refine r_one (u := (.int .i64 (md ((a.getD k 0) + (b.getD k 0))))) (B := w2.heap.size) good_rI u27 ti2 rfl rfl (frI w2.heap.size w2.heap.size _ _ (md_rng _)) (Nat.le_refl _) zN fun v5 w5 hX5 hz5 hO5 => ?_
  replace hX5 := hX5.of_drew
  have hzs5:=hX5.size
  have hE5:=hE2.trans hX5
  have hL2_0x5 := hL2_0.ext (o1) hX5
  refine e_appI (v := vo) (a := v5) u27 ti2 rfl rfl rfl hL2_0x5 hE5.size hO5.rd1 z224_0 (by unfold maxLen; first | omega | assumption | (simp [tab_len]; done) | (simp [tab_len]; omega)) zN fun v6 w6 F6 hC6 hF6 hO6 => ?_
  have hE6 : Ext w w6 := hC6.below hE5 (fun c hc => Nat.le_trans (Nat.le_refl _) (hF6 c hc).1) hE5.size
  have hzs6:=hC6.size
  have hF7 := hO5.chg (o1) hC6 (fun c hc => by have := hF6 c hc; omega)
  refine lw_tvn 1 rfl (wp_plain _ [0,0,0] rfl (lw_tv 1 rfl (q_add ((k + 1 :Nat):Int) rfl rfl (w64n oM z224_0) zN (lw_tvn 1 rfl ?_))))
  exact ⟨((k + 1),v6),_,rfl,⟨rfl,rfl,rfl,rfl,trivial⟩,⟨hE6,(by rw [tab_succ]; exact hO6.up o1),z224_0⟩,by first | omega | (dsimp only; omega)⟩
 ·
  exact q_lss false rfl rfl (decide_eq_false hc3) zN (lw_nil (c_cond_f rfl (wp_exit (t_exit (t_exit (c_exit_here (wp_seq (wp_plain _ [0,0] rfl (lw_tvn 2 rfl (wp_ret (post_ret [4] rfl vo rfl ⟨vo,rfl,hE2,(by have h := hL2_0.up o1; rw [show k = a.length from by omega] at h; exact h)⟩)))))))))))
theorem c_spec_l01Sub (w : World) (va : Value) (a : List Int) (vb : Value) (b : List Int) (ha : Rd (rdL rI) w.heap va a) (hb : Rd (rdL rI) w.heap vb b) (hla : a.length ≤ 1000000000000) (hlb : b.length ≤ 1000000000000) (hl : a.length ≤ b.length) :
  Calls Tryz.prog 225 #[va,vb] w (fun e w' => ∃ v0 : Value,e = .returned (v0) ∧ Ext w w' ∧ Fr (owL rI 2) w.heap.size w'.heap.size w'.heap v0 (redS a b)) := by
 refine calls_mk [va,vb] 9 Tryz.func225 rfl rfl sM ?_
 have hE0 : Ext w w := Ext.refl w
 have hl_va := ha.lenle
 have hl_vb := hb.lenle
 refine wp_seq (wp_plain _ [0] rfl (lw_tvn 1 rfl (wp_seq (wp_plain _ [0,0,3,3,0] rfl (lw_tv 2 rfl (lw_call 176 [] [] [vb,(.int .i64 ((1000002 :Nat):Int))] rfl rfl cf176 zN (c_spec_l01Scale _ _ _ _ (hb.ext g1 hE0) oM (by exact hlb)) ?_))))))
 rintro e1 w1 ⟨v1_0,rfl,hX1,hO1_0⟩
 refine ⟨_,rfl,hX1,?_⟩
 have hzs1:=hX1.size
 have hE1:=hE0.trans hX1
 refine lw_call 224 [] [] [va,v1_0] rfl rfl cf224 zN (c_spec_l01Add _ _ _ _ _ (ha.ext g1 hE1) hO1_0.rd1 (by exact hla) (by unfold scl; simp; omega)) ?_
 rintro e2 w2 ⟨v2_0,rfl,hX2,hO2_0⟩
 refine ⟨_,rfl,hX2,?_⟩
 have hzs2:=hX2.size
 have hE2:=hE1.trans hX2
 have hO1_0x2 := hO1_0.ext (o1) hX2
 exact lw_tvn 1 rfl (wp_ret (post_ret [4] rfl v2_0 rfl ⟨v2_0,rfl,hE2,(by rw [← red_eq hl,← scl_eq]; exact (hO2_0.up o1).low hE1.size)⟩))
theorem z226_0 {p : Prop} (h : p := by first | omega | assumption | (simp only [List.length_nil, List.length_cons, List.length_append, List.length_set, List.length_replicate, tab_len]; omega) | (simp [List.length_nil, List.length_cons, List.length_append, List.length_set, List.length_replicate, tab_len]; done) | (simp [List.length_nil, List.length_cons, List.length_append, List.length_set, List.length_replicate, tab_len]; omega)) : p := h
theorem c_spec_l01Mul (w : World) (va : Value) (a : List Int) (vb : Value) (b : List Int) (ha : Rd (rdL rI) w.heap va a) (hb : Rd (rdL rI) w.heap vb b) (hla : a.length ≤ 1000000000000) (hl : a.length ≤ b.length) :
  Calls Tryz.prog 226 #[va,vb] w (fun e w' => ∃ v0 : Value,e = .returned (v0) ∧ Ext w w' ∧ Fr (owL rI 2) w.heap.size w'.heap.size w'.heap v0 (proS a b)) := by
 refine calls_mk [va,vb] 39 Tryz.func226 rfl rfl sM ?_
 have hE0 : Ext w w := Ext.refl w
 have hl_va := ha.lenle
 have hl_vb := hb.lenle
 refine wp_seq (wp_plain _ [0] rfl (lw_tvn 1 rfl (wp_seq (wp_plain _ [3,0] rfl (r_nil (rI) good_rI u27 ti2 zN fun v1 w1 hX1 hz1 hO1 => ?_)))))
 have hzs1:=hX1.size
 have hE1:=hE0.trans hX1
 refine lw_tvn 1 rfl (wp_seq (wp_seq (wp_plain _ [0] rfl (lw_tvn 1 rfl (wp_block ?_)))))
 refine c_loop (S := Nat × Value) (fun (⟨k,vo⟩ : Nat × Value) => ([(5,vo),(6,(.int .i64 ((k :Nat):Int))),(0,va),(1,vb)] : List (Nat × Value))) (fun (⟨k,vo⟩ : Nat × Value) (W : World) => Ext w W ∧ Fr (owL rI 2) w.heap.size W.heap.size W.heap vo (tab k (fun t => prk a b t (t + 1))) ∧ k ≤ a.length) (fun (⟨k,vo⟩ : Nat × Value) => a.length - k) (0,v1) ⟨rfl,rfl,rfl,rfl,trivial⟩ ⟨hE1,(by exact hO1.up o1),z226_0⟩ ?_
 clear hE0 hO1 hz1 hX1 hzs1 hE1
 rintro ⟨k,vo⟩ ρ2 w2 ⟨hE2,hL2_0,hp2_0⟩
 have hzs2 : w.heap.size ≤ w2.heap.size := hE2.size
 refine wp_seq (wp_seq (wp_plain _ [0,0,0,0] rfl (lw_tv 2 rfl (q_len (v := va) u27 rfl ha.isSl zN ?_))))
 by_cases hc3 : ((k :Nat):Int) < ((a.length :Nat):Int)
 ·
  refine q_lss true rfl rfl (decide_eq_true hc3) zN (lw_nil (c_cond_t rfl (wp_skip (wp_seq (wp_block (wp_seq (wp_plain _ [0] rfl (lw_tvn 1 rfl (wp_seq (wp_seq (wp_plain _ [0] rfl (lw_tvn 1 rfl (wp_block ?_)))))))))))))
  refine c_loop (S := Nat × Int) (fun (⟨i,s⟩ : Nat × Int) => ([(7,(.int .i64 s)),(8,(.int .i64 ((i :Nat):Int))),(0,va),(1,vb),(5,vo),(6,(.int .i64 ((k :Nat):Int)))] : List (Nat × Value))) (fun (⟨i,s⟩ : Nat × Int) (W : World) => Ext w W ∧ Fr (owL rI 2) w.heap.size W.heap.size W.heap vo (tab k (fun t => prk a b t (t + 1))) ∧ i ≤ k + 1 ∧ s = prk a b k i ∧ (0 ≤ s ∧ s < 1000003)) (fun (⟨i,s⟩ : Nat × Int) => k + 1 - i) (0,((0 :Nat):Int)) ⟨rfl,rfl,rfl,rfl,rfl,rfl,trivial⟩ ⟨hE2,hL2_0.up o1,z226_0,(by rfl),oM⟩ ?_
  clear hL2_0 hE2 hzs2
  rintro ⟨i,s⟩ ρ4 w4 ⟨hE4,hL4_0,hp4_0,hs,hsr⟩
  have hzs4 : w.heap.size ≤ w4.heap.size := hE4.size
  refine wp_seq (wp_seq (wp_plain _ [0,0,0] rfl (lw_tv 2 rfl ?_)))
  by_cases hc5 : ((i :Nat):Int) ≤ ((k :Nat):Int)
  ·
   refine q_leq true rfl rfl (decide_eq_true hc5) zN (lw_nil (c_cond_t rfl (wp_skip (wp_seq (wp_block (wp_draw _ [0,0,0,0,1,0,0,0,0,0,1,0,0,0] mixed (by kernel_rfl) (lw_tv 3 rfl (q_idx (v := va) i u27 ti2 rfl rfl ha.isSl rfl z226_0 zN ?_))))))))
   refine q_load (p := eptr va i 1) (.inl rfl) (.int .i64 (a.getD i 0)) one2 rfl (ldH_ext hE4.drew (ha.getI z226_0).1) zN (lw_tv 3 rfl (q_sub ((k - i :Nat):Int) rfl rfl (by rw [w64 oM oM]; omega) zN ?_))
   refine q_idx (v := vb) (k - i) u27 ti2 rfl rfl hb.isSl rfl z226_0 zN ?_
   refine q_load (p := eptr vb (k - i) 1) (.inl rfl) (.int .i64 (b.getD (k - i) 0)) one2 rfl (ldH_ext hE4.drew (hb.getI z226_0).1) zN ?_
   refine lw_callq 76 [] [] [(.int .i64 (a.getD i 0)),(.int .i64 (b.getD (k - i) 0))] rfl rfl cf76 zN (.int .i64 (md ((a.getD i 0) * (b.getD (k - i) 0)))) (fun wq => c_spec_Times wq _ _ (ha.getI z226_0).2 (hb.getI z226_0).2) ?_
   refine lw_callq 75 [] [] [(.int .i64 s),(.int .i64 (md ((a.getD i 0) * (b.getD (k - i) 0))))] rfl rfl cf75 zN (.int .i64 (md (s + (md ((a.getD i 0) * (b.getD (k - i) 0)))))) (fun wq => c_spec_Plus wq _ _ oM (md_rng _)) (lw_tvn 1 rfl (wp_plain _ [0,0,0] rfl (lw_tv 1 rfl (q_add ((i + 1 :Nat):Int) rfl rfl (w64n oM z226_0) zN (lw_tvn 1 rfl ?_)))))
   exact ⟨((i + 1),(md (s + (md ((a.getD i 0) * (b.getD (k - i) 0)))))),_,rfl,⟨rfl,rfl,rfl,rfl,rfl,rfl,trivial⟩,⟨hE4.drew,hL4_0.up o1,z226_0,(by rw [md_addr,hs]; rfl),(by exact md_num _)⟩,by first | omega | (dsimp only; omega)⟩
  ·
   refine q_leq false rfl rfl (decide_eq_false hc5) zN (lw_nil (c_cond_f rfl (wp_exit (t_exit (t_exit (c_exit_here (wp_plain _ [0,0,3,4,0] rfl (lw_tv 2 rfl (r_one (u := (.int .i64 s)) (B := w4.heap.size) good_rI u27 ti2 rfl rfl (frI w4.heap.size w4.heap.size _ _ oM) (Nat.le_refl _) zN fun v8 w8 hX8 hz8 hO8 => ?_)))))))))
   have hzs8:=hX8.size
   have hE8:=hE4.trans hX8
   have hL4_0x8 := hL4_0.ext (o1) hX8
   refine e_appI (v := vo) (a := v8) u27 ti2 rfl rfl rfl hL4_0x8 hE8.size hO8.rd1 z226_0 (by unfold maxLen; first | omega | assumption | (simp [tab_len]; done) | (simp [tab_len]; omega)) zN fun v9 w9 F9 hC9 hF9 hO9 => ?_
   have hE9 : Ext w w9 := hC9.below hE8 (fun c hc => Nat.le_trans (Nat.le_refl _) (hF9 c hc).1) hE8.size
   have hzs9:=hC9.size
   have hF10 := hO8.chg (o1) hC9 (fun c hc => by have := hF9 c hc; omega)
   refine lw_tvn 1 rfl (wp_plain _ [0,0,0] rfl (lw_tv 1 rfl (q_add ((k + 1 :Nat):Int) rfl rfl (w64n oM z226_0) zN (lw_tvn 1 rfl ?_))))
   exact ⟨((k + 1),v9),_,rfl,⟨rfl,rfl,rfl,rfl,trivial⟩,⟨hE9,(by rw [tab_succ]; have h := hO9.up o1; rw [hs,show i = k + 1 from by omega] at h; exact h),z226_0⟩,by first | omega | (dsimp only; omega)⟩
 ·
  exact q_lss false rfl rfl (decide_eq_false hc3) zN (lw_nil (c_cond_f rfl (wp_exit (t_exit (t_exit (c_exit_here (wp_seq (wp_plain _ [0,0] rfl (lw_tvn 2 rfl (wp_ret (post_ret [4] rfl vo rfl ⟨vo,rfl,hE2,(by have h := hL2_0.up o1; rw [show k = a.length from by omega] at h; exact h)⟩)))))))))))
theorem z227_0 {p : Prop} (h : p := by first | omega | assumption | (simp only [List.length_nil, List.length_cons, List.length_append, List.length_set, List.length_replicate, quL_len]; omega) | (simp [List.length_nil, List.length_cons, List.length_append, List.length_set, List.length_replicate, quL_len]; done) | (simp [List.length_nil, List.length_cons, List.length_append, List.length_set, List.length_replicate, quL_len]; omega)) : p := h
theorem c_spec_l01Div (w : World) (va : Value) (a : List Int) (vb : Value) (b : List Int) (ha : Rd (rdL rI) w.heap va a) (hb : Rd (rdL rI) w.heap vb b) (hla : a.length ≤ 1000000000000) (hl : a.length ≤ b.length) (h1 : 0 < b.length) (hqa : allN a = true) :
  Calls Tryz.prog 227 #[va,vb] w (fun e w' => ∃ v0 : Value,e = .returned (v0) ∧ Ext w w' ∧ Fr (owL rI 2) w.heap.size w'.heap.size w'.heap v0 (quoS a b)) := by
 refine calls_mk [va,vb] 50 Tryz.func227 rfl rfl sM ?_
 have hE0 : Ext w w := Ext.refl w
 have hl_va := ha.lenle
 have hl_vb := hb.lenle
 refine wp_seq (wp_plain _ [0] rfl (lw_tvn 1 rfl (wp_seq (wp_plain _ [3,0] rfl (r_nil (rI) good_rI u27 ti2 zN fun v1 w1 hX1 hz1 hO1 => ?_)))))
 have hzs1:=hX1.size
 have hE1:=hE0.trans hX1
 refine lw_tvn 1 rfl (wp_seq (wp_plain _ [0,0,2,0,0] rfl (lw_tv 1 rfl (q_idx (v := vb) 0 u27 ti2 rfl rfl hb.isSl rfl z227_0 zN ?_))))
 refine q_load (p := eptr vb 0 1) (.inr rfl) (.int .i64 (b.getD 0 0)) one2 rfl (ldH_ext hE1 (hb.getI z227_0).1) zN ?_
 refine lw_callq 175 [] [] [(.int .i64 (b.getD 0 0))] rfl rfl cf175 zN (.int .i64 (inv (b.getD 0 0))) (fun wq => c_spec_l01Inv wq _ (hb.getI z227_0).2) (lw_tvn 1 rfl (wp_seq (wp_seq (wp_plain _ [0] rfl (lw_tvn 1 rfl (wp_block ?_))))))
 refine c_loop (S := Nat × Value) (fun (⟨k,vo⟩ : Nat × Value) => ([(5,vo),(7,(.int .i64 ((k :Nat):Int))),(0,va),(1,vb),(6,(.int .i64 (inv (b.getD 0 0))))] : List (Nat × Value))) (fun (⟨k,vo⟩ : Nat × Value) (W : World) => Ext w W ∧ Fr (owL rI 2) w.heap.size W.heap.size W.heap vo (quL a b k) ∧ k ≤ a.length) (fun (⟨k,vo⟩ : Nat × Value) => a.length - k) (0,v1) ⟨rfl,rfl,rfl,rfl,rfl,trivial⟩ ⟨hE1,(by exact hO1.up o1),z227_0⟩ ?_
 clear hE0 hO1 hz1 hX1 hzs1 hE1
 rintro ⟨k,vo⟩ ρ3 w3 ⟨hE3,hL3_0,hp3_0⟩
 have hzs3 : w.heap.size ≤ w3.heap.size := hE3.size
 refine wp_seq (wp_seq (wp_plain _ [0,0,0,0] rfl (lw_tv 2 rfl (q_len (v := va) u27 rfl ha.isSl zN ?_))))
 by_cases hc4 : ((k :Nat):Int) < ((a.length :Nat):Int)
 ·
  refine q_lss true rfl rfl (decide_eq_true hc4) zN (lw_nil (c_cond_t rfl (wp_skip (wp_seq (wp_block (wp_seq (wp_plain _ [0,0,0,2,0] rfl (lw_tv 2 rfl (q_idx (v := va) k u27 ti2 rfl rfl ha.isSl rfl z227_0 zN ?_)))))))))
  refine q_load (p := eptr va k 1) (.inr rfl) (.int .i64 (a.getD k 0)) one2 rfl (ldH_ext hE3 (ha.getI z227_0).1) zN (lw_tvn 1 rfl (wp_seq (wp_seq (wp_plain _ [0] rfl (lw_tvn 1 rfl (wp_block ?_))))))
  refine c_loop (S := Nat × Int) (fun (⟨i,t⟩ : Nat × Int) => ([(8,(.int .i64 t)),(9,(.int .i64 ((i :Nat):Int))),(0,va),(1,vb),(5,vo),(6,(.int .i64 (inv (b.getD 0 0)))),(7,(.int .i64 ((k :Nat):Int)))] : List (Nat × Value))) (fun (⟨i,t⟩ : Nat × Int) (W : World) => Ext w W ∧ Fr (owL rI 2) w.heap.size W.heap.size W.heap vo (quL a b k) ∧ i ≤ k ∧ t = qrk a b (quL a b k) k i ∧ (0 ≤ t ∧ t < 1000003)) (fun (⟨i,t⟩ : Nat × Int) => k - i) (0,(a.getD k 0)) ⟨rfl,rfl,rfl,rfl,rfl,rfl,rfl,trivial⟩ ⟨hE3,hL3_0.up o1,z227_0,(by rfl),(by exact allN_get hqa k)⟩ ?_
  clear hL3_0 hE3 hzs3
  rintro ⟨i,t⟩ ρ5 w5 ⟨hE5,hL5_0,hp5_0,ht,htr⟩
  have hzs5 : w.heap.size ≤ w5.heap.size := hE5.size
  refine wp_seq (wp_seq (wp_plain _ [0,0,0] rfl (lw_tv 2 rfl ?_)))
  by_cases hc6 : ((i :Nat):Int) < ((k :Nat):Int)
  ·
   refine q_lss true rfl rfl (decide_eq_true hc6) zN (lw_nil (c_cond_t rfl (wp_skip (wp_seq (wp_block (wp_draw _ [0,0,0,0,1,0,0,0,0,0,1,0,0,0] mixed (by kernel_rfl) ?_))))))
   have hmn := md_num ((quL a b k).getD i 0 * b.getD (k - i) 0)
   refine lw_tv 3 rfl (q_idx (v := vo) i u27 ti2 rfl rfl hL5_0.isSl rfl z227_0 zN ?_)
   refine q_load (p := eptr vo i 1) (.inl rfl) (.int .i64 ((quL a b k).getD i 0)) one2 rfl (hL5_0.rd1.getI z227_0).1 zN (lw_tv 3 rfl (q_sub ((k - i :Nat):Int) rfl rfl (by rw [w64 oM oM]; omega) zN ?_))
   refine q_idx (v := vb) (k - i) u27 ti2 rfl rfl hb.isSl rfl z227_0 zN ?_
   refine q_load (p := eptr vb (k - i) 1) (.inl rfl) (.int .i64 (b.getD (k - i) 0)) one2 rfl (ldH_ext hE5.drew (hb.getI z227_0).1) zN ?_
   refine lw_callq 76 [] [] [(.int .i64 ((quL a b k).getD i 0)),(.int .i64 (b.getD (k - i) 0))] rfl rfl cf76 zN (.int .i64 (md (((quL a b k).getD i 0) * (b.getD (k - i) 0)))) (fun wq => c_spec_Times wq _ _ (hL5_0.rd1.getI z227_0).2 (hb.getI z227_0).2) ?_
   refine lw_callq 124 [] [] [(.int .i64 t),(.int .i64 (md (((quL a b k).getD i 0) * (b.getD (k - i) 0))))] rfl rfl cf124 zN (.int .i64 (md (t - (md (((quL a b k).getD i 0) * (b.getD (k - i) 0)))))) (fun wq => c_spec_l01Minus wq _ _ oM (md_rng _) oM) (lw_tvn 1 rfl (wp_plain _ [0,0,0] rfl (lw_tv 1 rfl (q_add ((i + 1 :Nat):Int) rfl rfl (w64n oM z227_0) zN (lw_tvn 1 rfl ?_)))))
   exact ⟨((i + 1),(md (t - (md (((quL a b k).getD i 0) * (b.getD (k - i) 0)))))),_,rfl,⟨rfl,rfl,rfl,rfl,rfl,rfl,rfl,trivial⟩,⟨hE5.drew,hL5_0.up o1,z227_0,(by rw [md_subr,ht]; rfl),(by exact md_num _)⟩,by first | omega | (dsimp only; omega)⟩
  ·
   refine q_lss false rfl rfl (decide_eq_false hc6) zN (lw_nil (c_cond_f rfl (wp_exit (t_exit (t_exit (c_exit_here (wp_plain _ [0,0,0,0,3,4,0] rfl (lw_tv 3 rfl (lw_callq 76 [] [] [(.int .i64 t),(.int .i64 (inv (b.getD 0 0)))] rfl rfl cf76 zN (.int .i64 (md (t * (inv (b.getD 0 0))))) (fun wq => c_spec_Times wq _ _ oM (inv_rng _)) (r_one (u := (.int .i64 (md (t * (inv (b.getD 0 0)))))) (B := w5.heap.size) good_rI u27 ti2 rfl rfl (frI w5.heap.size w5.heap.size _ _ (md_rng _)) (Nat.le_refl _) zN fun v10 w10 hX10 hz10 hO10 => ?_))))))))))
   have hzs10:=hX10.size
   have hE10:=hE5.trans hX10
   have hL5_0x10 := hL5_0.ext (o1) hX10
   refine e_appI (v := vo) (a := v10) u27 ti2 rfl rfl rfl hL5_0x10 hE10.size hO10.rd1 z227_0 (by unfold maxLen; first | omega | assumption | (simp [quL_len]; done) | (simp [quL_len]; omega)) zN fun v11 w11 F11 hC11 hF11 hO11 => ?_
   have hE11 : Ext w w11 := hC11.below hE10 (fun c hc => Nat.le_trans (Nat.le_refl _) (hF11 c hc).1) hE10.size
   have hzs11:=hC11.size
   have hF12 := hO10.chg (o1) hC11 (fun c hc => by have := hF11 c hc; omega)
   refine lw_tvn 1 rfl (wp_plain _ [0,0,0] rfl (lw_tv 1 rfl (q_add ((k + 1 :Nat):Int) rfl rfl (w64n oM z227_0) zN (lw_tvn 1 rfl ?_))))
   exact ⟨((k + 1),v11),_,rfl,⟨rfl,rfl,rfl,rfl,rfl,trivial⟩,⟨hE11,(by have h := hO11.up o1; rw [ht,show i = k from by omega] at h; exact h),z227_0⟩,by first | omega | (dsimp only; omega)⟩
 ·
  exact q_lss false rfl rfl (decide_eq_false hc4) zN (lw_nil (c_cond_f rfl (wp_exit (t_exit (t_exit (c_exit_here (wp_seq (wp_plain _ [0,0] rfl (lw_tvn 2 rfl (wp_ret (post_ret [4] rfl vo rfl ⟨vo,rfl,hE3,(by have h := hL3_0.up o1; rw [show k = a.length from by omega] at h; exact h)⟩)))))))))))
end Go.Proofs.YtnokbaiemimhjaaGreat
