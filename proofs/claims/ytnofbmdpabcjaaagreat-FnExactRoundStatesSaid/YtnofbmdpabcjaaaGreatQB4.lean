/- Vb, Vg, Vh, Vm: texts of this claim, joined; what the claim does not come to is left out. -/
import Derived.Test.YtnofbmdpabcjaaaGreatQB3
import Derived.Test.YtnofbmdpabcjaaaGreatProg
set_option linter.unusedVariables false
set_option linter.unusedSimpArgs false
namespace Go.Proofs.YtnofbmdpabcjaaaGreat
open Go Go.RowKit
set_option linter.unusedVariables false
set_option linter.unusedSimpArgs false
attribute [local irreducible] LW
theorem not_f {b : Bool} (h : (!b) = false) : b = true := by cases b <;> simp_all
theorem not_t {b : Bool} (h : (!b) = true) : b = false := by cases b <;> simp_all
theorem wf_ret {p : List Fn} {funcs vars : Int} {e : Ex} {b : Bool} (h : e.kids.length = 0 ∨ b = false) (hb : wfN p funcs vars e = b) : Ending.returned (.bool b) = .returned (.bool (wf p funcs e vars)) := by
  rcases h with h | h
  · rw [wf_leaf h, hb]
  · subst h; rw [← wf_bad hb]
set_option maxHeartbeats 4000000 in
set_option maxRecDepth 100000 in
theorem c_impl_checker_isFormed (w : World) (dp : Nat) (vp : Value) (p : List Fn) (funcs : Int) (dex : Nat) (ve : Value) (ex : Ex) (vars : Int) (hp : RP [] dp w.heap vp p) (_hfuncs : -9223372036854775808 ≤ funcs ∧ funcs ≤ 9223372036854775807) (hex : RX [] dex w.heap ve ex) (_hvars : -9223372036854775808 ≤ vars ∧ vars ≤ 9223372036854775807) (hs : 0 ≤ vars ∧ vars + (ex.deep : Int) ≤ 2000000000) (hf : 0 ≤ funcs ∧ funcs ≤ (p.length : Int)) :
  Calls Tryz.prog 144 #[(.agg #[vp,(.int .i64 funcs)]),(.agg #[(.int .i64 ex.kind),(.int .i64 ex.num),(.int .i64 ex.pick),(.int .i64 ex.count),ve]),.int .i64 vars] w (fun e w' => e = .returned (.bool (wf p funcs ex vars)) ∧ Ext w w') := by
 induction dex using Nat.strongRecOn generalizing w dp vp p funcs ve ex vars
 rename_i dex ih
 refine calls_mk [(.agg #[vp,(.int .i64 funcs)]),(.agg #[(.int .i64 ex.kind),(.int .i64 ex.num),(.int .i64 ex.pick),(.int .i64 ex.count),ve]),.int .i64 vars] 177 Tryz.func144 rfl rfl (by simp) ?_
 have hE0 : Ext w w := Ext.refl w
 have hl_vp := hp.lenle
 unfold maxLen at hl_vp
 have hl_ve := hex.rn.lenle
 unfold maxLen at hl_ve
 have hdk := deep_kids ex
 refine wp_seq ?_
 refine wp_plain _ [3,3,0] rfl ?_
 refine r_boxA (cs := #[vp,(.int .i64 funcs)]) rfl zN ?_
 intro w1 hX1 hz1 hB1
 have hzs1:=hX1.size
 have hE1:=hE0.trans hX1
 replace hB1 : BX w1.heap w.heap.size [vp,(.int .i64 funcs)] := hB1
 have hq3 := hB1.lt
 refine r_boxA (cs := #[(.int .i64 ex.kind),(.int .i64 ex.num),(.int .i64 ex.pick),(.int .i64 ex.count),ve]) rfl zN ?_
 intro w2 hX2 hz2 hB2
 have hzs2:=hX2.size
 have hE2:=hE1.trans hX2
 have hB1x2 := hB1.ext hX2
 replace hB2 : BX w2.heap w1.heap.size [(.int .i64 ex.kind),(.int .i64 ex.num),(.int .i64 ex.pick),(.int .i64 ex.count),ve] := hB2
 refine q_assign (.bool false) rfl zN ?_
 refine lw_nil ?_
 refine wp_seq ?_
 refine wp_plain _ [0,2,0,0] rfl ?_
 refine q_fldP (p := (.pointer (some ⟨w1.heap.size,0,none⟩))) (b := w1.heap.size) (o := 0) 4 fd94_4 rfl rfl zN ?_
 refine q_load (p := (padd (.pointer (some ⟨w1.heap.size,0,none⟩)) 4)) (.inr rfl) ve one78 rfl (hB2.ldp (i := 4) (by simp)) zN ?_
 refine q_len (v := ve) u78 rfl hex.rn.isSl zN ?_
 refine q_assign (.int .i64 ((ex.kids.length :Nat):Int)) rfl zN ?_
 refine lw_nil ?_
 refine wp_seq (c_cut (S := Bool) (fun (pl : Bool) => ([(8,(.bool pl)),(2,(.int .i64 vars)),(3,(.pointer (some ⟨w.heap.size,0,none⟩))),(4,(.pointer (some ⟨w1.heap.size,0,none⟩))),(7,(.int .i64 ((ex.kids.length :Nat):Int)))] : List (Nat × Value))) (fun (pl : Bool) (W : World) => Ext w W ∧ BX W.heap w.heap.size [vp,(.int .i64 funcs)] ∧ BX W.heap w1.heap.size [(.int .i64 ex.kind),(.int .i64 ex.num),(.int .i64 ex.pick),(.int .i64 ex.count),ve] ∧ pl = plainB ex) ?_ ?_)
 ·
  refine wp_plain _ [0,2,0,0,0,2,0,0,0] rfl ?_
  refine q_fldP (p := (.pointer (some ⟨w1.heap.size,0,none⟩))) (b := w1.heap.size) (o := 0) 2 fd94_2 rfl rfl zN ?_
  refine q_load (p := (padd (.pointer (some ⟨w1.heap.size,0,none⟩)) 2)) (.inr rfl) (.int .i64 ex.pick) one2 rfl (hB2.ldp (i := 2) (by simp)) zN ?_
  by_cases hc5 : ex.pick = ((0 :Nat):Int)
  ·
   refine q_eql true rfl rfl (decide_eq_true hc5) zN ?_
   refine q_move (.bool true) rfl zN ?_
   refine q_fldP (p := (.pointer (some ⟨w1.heap.size,0,none⟩))) (b := w1.heap.size) (o := 0) 3 fd94_3 rfl rfl (zS (e := 19) rfl rfl rfl) ?_
   refine q_load (p := (padd (.pointer (some ⟨w1.heap.size,0,none⟩)) 3)) (.inr rfl) (.int .i64 ex.count) one2 rfl (hB2.ldp (i := 3) (by simp)) (zS (e := 19) rfl rfl rfl) ?_
   refine q_eql (decide (ex.count = ((0 :Nat):Int))) rfl rfl rfl (zS (e := 19) rfl rfl rfl) ?_
   refine q_pick true (.bool (decide (ex.count = ((0 :Nat):Int)))) rfl rfl zN ?_
   refine q_assign (.bool (decide (ex.count = ((0 :Nat):Int)))) rfl zN ?_
   refine lw_nil ?_
   exact ⟨(decide (ex.count = ((0 :Nat):Int))),_,rfl,⟨rfl,rfl,rfl,rfl,rfl,trivial⟩,⟨hE2,hB1x2,hB2,(by unfold plainB; first | (simp [*]; done) | (simp [*]; intros; omega) | (simp [*]; omega))⟩⟩
  ·
   refine q_eql false rfl rfl (decide_eq_false hc5) zN ?_
   refine q_move (.bool false) rfl zN ?_
   refine lw_skip (e := 19) (c := false) rfl rfl rfl rfl ?_
   refine lw_skip (e := 19) (c := false) rfl rfl rfl rfl ?_
   refine lw_skip (e := 19) (c := false) rfl rfl rfl rfl ?_
   refine q_pick false (.bool false) rfl rfl zN ?_
   refine q_assign (.bool false) rfl zN ?_
   refine lw_nil ?_
   exact ⟨false,_,rfl,⟨rfl,rfl,rfl,rfl,rfl,trivial⟩,⟨hE2,hB1x2,hB2,(by unfold plainB; first | (simp [*]; done) | (simp [*]; intros; omega) | (simp [*]; omega))⟩⟩
 ·
  clear hE0 hz1 hX1 hzs1 hE1 hz2 hX2 hzs2 hE2
  rintro pl ρ4 w4 ⟨hE4,hL4_0,hL4_1,hpl⟩
  have hzs4 : w.heap.size ≤ w4.heap.size := hE4.size
  have hq6 := hL4_0.lt
  have hq7 := hL4_1.lt
  refine wp_seq (c_cut (S := Unit) (fun (u : Unit) => ([(2,(.int .i64 vars)),(3,(.pointer (some ⟨w.heap.size,0,none⟩))),(4,(.pointer (some ⟨w1.heap.size,0,none⟩)))] : List (Nat × Value))) (fun (u : Unit) (W : World) => Ext w W ∧ BX W.heap w.heap.size [vp,(.int .i64 funcs)] ∧ BX W.heap w1.heap.size [(.int .i64 ex.kind),(.int .i64 ex.num),(.int .i64 ex.pick),(.int .i64 ex.count),ve] ∧ wfN p funcs vars ex = true) ?_ ?_)
  ·
   refine wp_seq ?_
   refine wp_plain _ [0,2] rfl ?_
   refine q_fldP (p := (.pointer (some ⟨w1.heap.size,0,none⟩))) (b := w1.heap.size) (o := 0) 0 fd94_0 rfl rfl zN ?_
   refine q_load (p := (padd (.pointer (some ⟨w1.heap.size,0,none⟩)) 0)) (.inr rfl) (.int .i64 ex.kind) one2 rfl (hL4_1.ldp (i := 0) (by simp)) zN ?_
   refine lw_nil ?_
   refine wp_block ?_
   refine wp_seq ?_
   refine wp_plain _ [0,0] rfl ?_
   by_cases hc9 : ex.kind = ((1 :Nat):Int)
   ·
    refine q_eql true rfl rfl (decide_eq_true hc9) zN ?_
    refine q_assign (.bool true) rfl zN ?_
    refine lw_nil ?_
    refine c_cond_t rfl ?_
    refine wp_seq ?_
    refine wp_plain _ [0,0,0,0,0,0,0,2,0,0,0] rfl ?_
    refine q_move (.bool pl) rfl zN ?_
    refine q_move (.bool pl) rfl zN ?_
    cases hb10 : pl
    ·
     refine lw_skip (e := 29) (c := false) rfl rfl rfl rfl ?_
     refine lw_skip (e := 29) (c := false) rfl rfl rfl rfl ?_
     refine q_pick false (.bool false) rfl rfl zN ?_
     refine q_move (.bool false) rfl zN ?_
     refine lw_skip (e := 33) (c := false) rfl rfl rfl rfl ?_
     refine lw_skip (e := 33) (c := false) rfl rfl rfl rfl ?_
     refine lw_skip (e := 33) (c := false) rfl rfl rfl rfl ?_
     refine q_pick false (.bool false) rfl rfl zN ?_
     refine q_assign (.bool false) rfl zN ?_
     refine lw_nil ?_
     refine wp_ret ?_
     refine b_ret ?_
     refine t_ret ?_
     exact post_ret [6] rfl (.bool false) rfl ⟨(by first | exact ret_bool (wf_good hwn fun j hj => hall j (by omega)) | exact ret_bool (wf_kid (k := k) (by omega) (by first | (rw [if_pos (by omega)]) | (rw [if_neg (by omega)])) (not_t ‹_›)) | exact wf_ret (by first | exact .inr rfl | (left; omega) | (left; simp_all <;> omega)) (by (have hp9 := hpl.symm; clear hpl; unfold wfN inB; first | (simp [*]; done) | (simp [*]; omega) | (simp [*] <;> intros <;> omega) | (simp_all <;> omega)))),hE4⟩
    ·
     refine q_move (.int .i64 ((ex.kids.length :Nat):Int)) rfl (zS (e := 29) rfl rfl rfl) ?_
     by_cases hc11 : ((ex.kids.length :Nat):Int) = ((0 :Nat):Int)
     ·
      refine q_eql true rfl rfl (decide_eq_true hc11) (zS (e := 29) rfl rfl rfl) ?_
      refine q_pick true (.bool true) rfl rfl zN ?_
      refine q_move (.bool true) rfl zN ?_
      refine q_fldP (p := (.pointer (some ⟨w1.heap.size,0,none⟩))) (b := w1.heap.size) (o := 0) 1 fd94_1 rfl rfl (zS (e := 33) rfl rfl rfl) ?_
      refine q_load (p := (padd (.pointer (some ⟨w1.heap.size,0,none⟩)) 1)) (.inr rfl) (.int .i64 ex.num) one2 rfl (hL4_1.ldp (i := 1) (by simp)) (zS (e := 33) rfl rfl rfl) ?_
      refine lw_callq 123 [] [] [(.int .i64 ex.num)] rfl rfl cf123 (zS (e := 33) rfl rfl rfl) (.bool (isN ex.num)) (fun wq => c_impl_isNumber wq _ hex.rng.num) ?_
      refine q_pick true (.bool (isN ex.num)) rfl rfl zN ?_
      refine q_assign (.bool (isN ex.num)) rfl zN ?_
      refine lw_nil ?_
      refine wp_ret ?_
      refine b_ret ?_
      refine t_ret ?_
      exact post_ret [6] rfl (.bool (isN ex.num)) rfl ⟨(by first | exact ret_bool (wf_good hwn fun j hj => hall j (by omega)) | exact ret_bool (wf_kid (k := k) (by omega) (by first | (rw [if_pos (by omega)]) | (rw [if_neg (by omega)])) (not_t ‹_›)) | exact wf_ret (by first | exact .inr rfl | (left; omega) | (left; simp_all <;> omega)) (by (have hp9 := hpl.symm; clear hpl; unfold wfN inB; first | (simp [*]; done) | (simp [*]; omega) | (simp [*] <;> intros <;> omega) | (simp_all <;> omega)))),hE4⟩
     ·
      refine q_eql false rfl rfl (decide_eq_false hc11) (zS (e := 29) rfl rfl rfl) ?_
      refine q_pick true (.bool false) rfl rfl zN ?_
      refine q_move (.bool false) rfl zN ?_
      refine lw_skip (e := 33) (c := false) rfl rfl rfl rfl ?_
      refine lw_skip (e := 33) (c := false) rfl rfl rfl rfl ?_
      refine lw_skip (e := 33) (c := false) rfl rfl rfl rfl ?_
      refine q_pick false (.bool false) rfl rfl zN ?_
      refine q_assign (.bool false) rfl zN ?_
      refine lw_nil ?_
      refine wp_ret ?_
      refine b_ret ?_
      refine t_ret ?_
      exact post_ret [6] rfl (.bool false) rfl ⟨(by first | exact ret_bool (wf_good hwn fun j hj => hall j (by omega)) | exact ret_bool (wf_kid (k := k) (by omega) (by first | (rw [if_pos (by omega)]) | (rw [if_neg (by omega)])) (not_t ‹_›)) | exact wf_ret (by first | exact .inr rfl | (left; omega) | (left; simp_all <;> omega)) (by (have hp9 := hpl.symm; clear hpl; unfold wfN inB; first | (simp [*]; done) | (simp [*]; omega) | (simp [*] <;> intros <;> omega) | (simp_all <;> omega)))),hE4⟩
   ·
    refine q_eql false rfl rfl (decide_eq_false hc9) zN ?_
    refine q_assign (.bool false) rfl zN ?_
    refine lw_nil ?_
    refine c_cond_f rfl ?_
    refine wp_seq ?_
    refine wp_plain _ [0,0] rfl ?_
    by_cases hc13 : ex.kind = ((2 :Nat):Int)
    ·
     refine q_eql true rfl rfl (decide_eq_true hc13) zN ?_
     refine q_assign (.bool true) rfl zN ?_
     refine lw_nil ?_
     refine c_cond_t rfl ?_
     refine wp_seq ?_
     refine wp_plain _ [0,0,0,0,0,0,0,2,0,0,0,0,0] rfl ?_
     refine q_move (.bool pl) rfl zN ?_
     refine q_move (.bool pl) rfl zN ?_
     cases hb14 : pl
     ·
      refine lw_skip (e := 41) (c := false) rfl rfl rfl rfl ?_
      refine lw_skip (e := 41) (c := false) rfl rfl rfl rfl ?_
      refine q_pick false (.bool false) rfl rfl zN ?_
      refine q_move (.bool false) rfl zN ?_
      refine lw_skip (e := 45) (c := false) rfl rfl rfl rfl ?_
      refine lw_skip (e := 45) (c := false) rfl rfl rfl rfl ?_
      refine lw_skip (e := 45) (c := false) rfl rfl rfl rfl ?_
      refine lw_skip (e := 45) (c := false) rfl rfl rfl rfl ?_
      refine lw_skip (e := 45) (c := false) rfl rfl rfl rfl ?_
      refine q_pick false (.bool false) rfl rfl zN ?_
      refine q_assign (.bool false) rfl zN ?_
      refine lw_nil ?_
      refine wp_ret ?_
      refine b_ret ?_
      refine t_ret ?_
      exact post_ret [6] rfl (.bool false) rfl ⟨(by first | exact ret_bool (wf_good hwn fun j hj => hall j (by omega)) | exact ret_bool (wf_kid (k := k) (by omega) (by first | (rw [if_pos (by omega)]) | (rw [if_neg (by omega)])) (not_t ‹_›)) | exact wf_ret (by first | exact .inr rfl | (left; omega) | (left; simp_all <;> omega)) (by (have hp9 := hpl.symm; clear hpl; unfold wfN inB; first | (simp [*]; done) | (simp [*]; omega) | (simp [*] <;> intros <;> omega) | (simp_all <;> omega)))),hE4⟩
     ·
      refine q_move (.int .i64 ((ex.kids.length :Nat):Int)) rfl (zS (e := 41) rfl rfl rfl) ?_
      by_cases hc15 : ((ex.kids.length :Nat):Int) = ((0 :Nat):Int)
      ·
       refine q_eql true rfl rfl (decide_eq_true hc15) (zS (e := 41) rfl rfl rfl) ?_
       refine q_pick true (.bool true) rfl rfl zN ?_
       refine q_move (.bool true) rfl zN ?_
       refine q_fldP (p := (.pointer (some ⟨w1.heap.size,0,none⟩))) (b := w1.heap.size) (o := 0) 1 fd94_1 rfl rfl (zS (e := 45) rfl rfl rfl) ?_
       refine q_load (p := (padd (.pointer (some ⟨w1.heap.size,0,none⟩)) 1)) (.inr rfl) (.int .i64 ex.num) one2 rfl (hL4_1.ldp (i := 1) (by simp)) (zS (e := 45) rfl rfl rfl) ?_
       refine q_move (.int .i64 vars) rfl (zS (e := 45) rfl rfl rfl) ?_
       refine q_sub (vars - 1) rfl rfl (w64 (by omega) (by omega)) (zS (e := 45) rfl rfl rfl) ?_
       refine lw_callq 68 [] [] [(.int .i64 ex.num),(.int .i64 ((0 :Nat):Int)),(.int .i64 (vars - 1))] rfl rfl cf68 (zS (e := 45) rfl rfl rfl) (.bool (decide (((0 :Nat):Int) ≤ ex.num) && decide (ex.num ≤ (vars - 1)))) (fun wq => c_impl_within wq _ _ _ hex.rng.num (by omega) (by omega)) ?_
       refine q_pick true (.bool (decide (((0 :Nat):Int) ≤ ex.num) && decide (ex.num ≤ (vars - 1)))) rfl rfl zN ?_
       refine q_assign (.bool (decide (((0 :Nat):Int) ≤ ex.num) && decide (ex.num ≤ (vars - 1)))) rfl zN ?_
       refine lw_nil ?_
       refine wp_ret ?_
       refine b_ret ?_
       refine t_ret ?_
       exact post_ret [6] rfl (.bool (decide (((0 :Nat):Int) ≤ ex.num) && decide (ex.num ≤ (vars - 1)))) rfl ⟨(by first | exact ret_bool (wf_good hwn fun j hj => hall j (by omega)) | exact ret_bool (wf_kid (k := k) (by omega) (by first | (rw [if_pos (by omega)]) | (rw [if_neg (by omega)])) (not_t ‹_›)) | exact wf_ret (by first | exact .inr rfl | (left; omega) | (left; simp_all <;> omega)) (by (have hp9 := hpl.symm; clear hpl; unfold wfN inB; first | (simp [*]; done) | (simp [*]; omega) | (simp [*] <;> intros <;> omega) | (simp_all <;> omega)))),hE4⟩
      ·
       refine q_eql false rfl rfl (decide_eq_false hc15) (zS (e := 41) rfl rfl rfl) ?_
       refine q_pick true (.bool false) rfl rfl zN ?_
       refine q_move (.bool false) rfl zN ?_
       refine lw_skip (e := 45) (c := false) rfl rfl rfl rfl ?_
       refine lw_skip (e := 45) (c := false) rfl rfl rfl rfl ?_
       refine lw_skip (e := 45) (c := false) rfl rfl rfl rfl ?_
       refine lw_skip (e := 45) (c := false) rfl rfl rfl rfl ?_
       refine lw_skip (e := 45) (c := false) rfl rfl rfl rfl ?_
       refine q_pick false (.bool false) rfl rfl zN ?_
       refine q_assign (.bool false) rfl zN ?_
       refine lw_nil ?_
       refine wp_ret ?_
       refine b_ret ?_
       refine t_ret ?_
       exact post_ret [6] rfl (.bool false) rfl ⟨(by first | exact ret_bool (wf_good hwn fun j hj => hall j (by omega)) | exact ret_bool (wf_kid (k := k) (by omega) (by first | (rw [if_pos (by omega)]) | (rw [if_neg (by omega)])) (not_t ‹_›)) | exact wf_ret (by first | exact .inr rfl | (left; omega) | (left; simp_all <;> omega)) (by (have hp9 := hpl.symm; clear hpl; unfold wfN inB; first | (simp [*]; done) | (simp [*]; omega) | (simp [*] <;> intros <;> omega) | (simp_all <;> omega)))),hE4⟩
    ·
     refine q_eql false rfl rfl (decide_eq_false hc13) zN ?_
     refine q_assign (.bool false) rfl zN ?_
     refine lw_nil ?_
     refine c_cond_f rfl ?_
     refine wp_seq ?_
     refine wp_seq ?_
     refine wp_plain _ [0,0] rfl ?_
     by_cases hc17 : ex.kind = ((3 :Nat):Int)
     ·
      refine q_eql true rfl rfl (decide_eq_true hc17) zN ?_
      refine q_assign (.bool true) rfl zN ?_
      refine lw_nil ?_
      refine c_cond_t rfl ?_
      refine wp_skip ?_
      refine c_cond_t rfl ?_
      refine wp_seq ?_
      refine wp_plain _ [0,0,0,0,2,0,0,0,0,0,0] rfl ?_
      refine q_move (.bool pl) rfl zN ?_
      refine q_not (!pl) rfl rfl zN ?_
      refine q_move (.bool (!pl)) rfl zN ?_
      cases hb18 : (!pl)
      ·
       refine q_fldP (p := (.pointer (some ⟨w1.heap.size,0,none⟩))) (b := w1.heap.size) (o := 0) 1 fd94_1 rfl rfl (zS (e := 60) rfl rfl rfl) ?_
       refine q_load (p := (padd (.pointer (some ⟨w1.heap.size,0,none⟩)) 1)) (.inr rfl) (.int .i64 ex.num) one2 rfl (hL4_1.ldp (i := 1) (by simp)) (zS (e := 60) rfl rfl rfl) ?_
       by_cases hc19 : ex.num ≠ ((0 :Nat):Int)
       ·
        refine q_neq true rfl rfl (decide_eq_true hc19) (zS (e := 60) rfl rfl rfl) ?_
        refine q_pick false (.bool true) rfl rfl zN ?_
        refine q_move (.bool true) rfl zN ?_
        refine lw_skip (e := 65) (c := true) rfl rfl rfl rfl ?_
        refine lw_skip (e := 65) (c := true) rfl rfl rfl rfl ?_
        refine q_pick true (.bool true) rfl rfl zN ?_
        refine lw_nil ?_
        refine c_cond_t rfl ?_
        refine wp_seq ?_
        refine wp_plain _ [0] rfl ?_
        refine q_assign (.bool false) rfl zN ?_
        refine lw_nil ?_
        refine wp_ret ?_
        refine b_ret ?_
        refine t_ret ?_
        exact post_ret [6] rfl (.bool false) rfl ⟨(by first | exact ret_bool (wf_good hwn fun j hj => hall j (by omega)) | exact ret_bool (wf_kid (k := k) (by omega) (by first | (rw [if_pos (by omega)]) | (rw [if_neg (by omega)])) (not_t ‹_›)) | exact wf_ret (by first | exact .inr rfl | (left; omega) | (left; simp_all <;> omega)) (by (have hp9 := hpl.symm; clear hpl; unfold wfN inB; first | (simp [*]; done) | (simp [*]; omega) | (simp [*] <;> intros <;> omega) | (simp_all <;> omega)))),hE4⟩
       ·
        refine q_neq false rfl rfl (decide_eq_false hc19) (zS (e := 60) rfl rfl rfl) ?_
        refine q_pick false (.bool false) rfl rfl zN ?_
        refine q_move (.bool false) rfl zN ?_
        refine q_move (.int .i64 ((ex.kids.length :Nat):Int)) rfl (zS (e := 65) rfl rfl rfl) ?_
        by_cases hc20 : ((ex.kids.length :Nat):Int) ≠ ((2 :Nat):Int)
        ·
         refine q_neq true rfl rfl (decide_eq_true hc20) (zS (e := 65) rfl rfl rfl) ?_
         refine q_pick false (.bool true) rfl rfl zN ?_
         refine lw_nil ?_
         refine c_cond_t rfl ?_
         refine wp_seq ?_
         refine wp_plain _ [0] rfl ?_
         refine q_assign (.bool false) rfl zN ?_
         refine lw_nil ?_
         refine wp_ret ?_
         refine b_ret ?_
         refine t_ret ?_
         exact post_ret [6] rfl (.bool false) rfl ⟨(by first | exact ret_bool (wf_good hwn fun j hj => hall j (by omega)) | exact ret_bool (wf_kid (k := k) (by omega) (by first | (rw [if_pos (by omega)]) | (rw [if_neg (by omega)])) (not_t ‹_›)) | exact wf_ret (by first | exact .inr rfl | (left; omega) | (left; simp_all <;> omega)) (by (have hp9 := hpl.symm; clear hpl; unfold wfN inB; first | (simp [*]; done) | (simp [*]; omega) | (simp [*] <;> intros <;> omega) | (simp_all <;> omega)))),hE4⟩
        ·
         refine q_neq false rfl rfl (decide_eq_false hc20) (zS (e := 65) rfl rfl rfl) ?_
         refine q_pick false (.bool false) rfl rfl zN ?_
         refine lw_nil ?_
         refine c_cond_f rfl ?_
         refine wp_skip ?_
         exact ⟨(),_,rfl,⟨rfl,rfl,rfl,trivial⟩,⟨hE4,hL4_0,hL4_1,(by (have hp9 := hpl.symm; clear hpl; unfold wfN inB; first | (simp [*]; done) | (simp [*]; omega) | (simp [*] <;> intros <;> omega) | (simp_all <;> omega)))⟩⟩
      ·
       refine lw_skip (e := 60) (c := true) rfl rfl rfl rfl ?_
       refine lw_skip (e := 60) (c := true) rfl rfl rfl rfl ?_
       refine lw_skip (e := 60) (c := true) rfl rfl rfl rfl ?_
       refine q_pick true (.bool true) rfl rfl zN ?_
       refine q_move (.bool true) rfl zN ?_
       refine lw_skip (e := 65) (c := true) rfl rfl rfl rfl ?_
       refine lw_skip (e := 65) (c := true) rfl rfl rfl rfl ?_
       refine q_pick true (.bool true) rfl rfl zN ?_
       refine lw_nil ?_
       refine c_cond_t rfl ?_
       refine wp_seq ?_
       refine wp_plain _ [0] rfl ?_
       refine q_assign (.bool false) rfl zN ?_
       refine lw_nil ?_
       refine wp_ret ?_
       refine b_ret ?_
       refine t_ret ?_
       exact post_ret [6] rfl (.bool false) rfl ⟨(by first | exact ret_bool (wf_good hwn fun j hj => hall j (by omega)) | exact ret_bool (wf_kid (k := k) (by omega) (by first | (rw [if_pos (by omega)]) | (rw [if_neg (by omega)])) (not_t ‹_›)) | exact wf_ret (by first | exact .inr rfl | (left; omega) | (left; simp_all <;> omega)) (by (have hp9 := hpl.symm; clear hpl; unfold wfN inB; first | (simp [*]; done) | (simp [*]; omega) | (simp [*] <;> intros <;> omega) | (simp_all <;> omega)))),hE4⟩
     ·
      refine q_eql false rfl rfl (decide_eq_false hc17) zN ?_
      refine q_assign (.bool false) rfl zN ?_
      refine lw_nil ?_
      refine c_cond_f rfl ?_
      refine wp_seq ?_
      refine wp_plain _ [0,0] rfl ?_
      by_cases hc21 : ex.kind = ((4 :Nat):Int)
      ·
       refine q_eql true rfl rfl (decide_eq_true hc21) zN ?_
       refine q_assign (.bool true) rfl zN ?_
       refine lw_nil ?_
       refine c_cond_t rfl ?_
       refine wp_skip ?_
       refine c_cond_t rfl ?_
       refine wp_seq ?_
       refine wp_plain _ [0,0,0,0,2,0,0,0,0,0,0] rfl ?_
       refine q_move (.bool pl) rfl zN ?_
       refine q_not (!pl) rfl rfl zN ?_
       refine q_move (.bool (!pl)) rfl zN ?_
       cases hb22 : (!pl)
       ·
        refine q_fldP (p := (.pointer (some ⟨w1.heap.size,0,none⟩))) (b := w1.heap.size) (o := 0) 1 fd94_1 rfl rfl (zS (e := 60) rfl rfl rfl) ?_
        refine q_load (p := (padd (.pointer (some ⟨w1.heap.size,0,none⟩)) 1)) (.inr rfl) (.int .i64 ex.num) one2 rfl (hL4_1.ldp (i := 1) (by simp)) (zS (e := 60) rfl rfl rfl) ?_
        by_cases hc23 : ex.num ≠ ((0 :Nat):Int)
        ·
         refine q_neq true rfl rfl (decide_eq_true hc23) (zS (e := 60) rfl rfl rfl) ?_
         refine q_pick false (.bool true) rfl rfl zN ?_
         refine q_move (.bool true) rfl zN ?_
         refine lw_skip (e := 65) (c := true) rfl rfl rfl rfl ?_
         refine lw_skip (e := 65) (c := true) rfl rfl rfl rfl ?_
         refine q_pick true (.bool true) rfl rfl zN ?_
         refine lw_nil ?_
         refine c_cond_t rfl ?_
         refine wp_seq ?_
         refine wp_plain _ [0] rfl ?_
         refine q_assign (.bool false) rfl zN ?_
         refine lw_nil ?_
         refine wp_ret ?_
         refine b_ret ?_
         refine t_ret ?_
         exact post_ret [6] rfl (.bool false) rfl ⟨(by first | exact ret_bool (wf_good hwn fun j hj => hall j (by omega)) | exact ret_bool (wf_kid (k := k) (by omega) (by first | (rw [if_pos (by omega)]) | (rw [if_neg (by omega)])) (not_t ‹_›)) | exact wf_ret (by first | exact .inr rfl | (left; omega) | (left; simp_all <;> omega)) (by (have hp9 := hpl.symm; clear hpl; unfold wfN inB; first | (simp [*]; done) | (simp [*]; omega) | (simp [*] <;> intros <;> omega) | (simp_all <;> omega)))),hE4⟩
        ·
         refine q_neq false rfl rfl (decide_eq_false hc23) (zS (e := 60) rfl rfl rfl) ?_
         refine q_pick false (.bool false) rfl rfl zN ?_
         refine q_move (.bool false) rfl zN ?_
         refine q_move (.int .i64 ((ex.kids.length :Nat):Int)) rfl (zS (e := 65) rfl rfl rfl) ?_
         by_cases hc24 : ((ex.kids.length :Nat):Int) ≠ ((2 :Nat):Int)
         ·
          refine q_neq true rfl rfl (decide_eq_true hc24) (zS (e := 65) rfl rfl rfl) ?_
          refine q_pick false (.bool true) rfl rfl zN ?_
          refine lw_nil ?_
          refine c_cond_t rfl ?_
          refine wp_seq ?_
          refine wp_plain _ [0] rfl ?_
          refine q_assign (.bool false) rfl zN ?_
          refine lw_nil ?_
          refine wp_ret ?_
          refine b_ret ?_
          refine t_ret ?_
          exact post_ret [6] rfl (.bool false) rfl ⟨(by first | exact ret_bool (wf_good hwn fun j hj => hall j (by omega)) | exact ret_bool (wf_kid (k := k) (by omega) (by first | (rw [if_pos (by omega)]) | (rw [if_neg (by omega)])) (not_t ‹_›)) | exact wf_ret (by first | exact .inr rfl | (left; omega) | (left; simp_all <;> omega)) (by (have hp9 := hpl.symm; clear hpl; unfold wfN inB; first | (simp [*]; done) | (simp [*]; omega) | (simp [*] <;> intros <;> omega) | (simp_all <;> omega)))),hE4⟩
         ·
          refine q_neq false rfl rfl (decide_eq_false hc24) (zS (e := 65) rfl rfl rfl) ?_
          refine q_pick false (.bool false) rfl rfl zN ?_
          refine lw_nil ?_
          refine c_cond_f rfl ?_
          refine wp_skip ?_
          exact ⟨(),_,rfl,⟨rfl,rfl,rfl,trivial⟩,⟨hE4,hL4_0,hL4_1,(by (have hp9 := hpl.symm; clear hpl; unfold wfN inB; first | (simp [*]; done) | (simp [*]; omega) | (simp [*] <;> intros <;> omega) | (simp_all <;> omega)))⟩⟩
       ·
        refine lw_skip (e := 60) (c := true) rfl rfl rfl rfl ?_
        refine lw_skip (e := 60) (c := true) rfl rfl rfl rfl ?_
        refine lw_skip (e := 60) (c := true) rfl rfl rfl rfl ?_
        refine q_pick true (.bool true) rfl rfl zN ?_
        refine q_move (.bool true) rfl zN ?_
        refine lw_skip (e := 65) (c := true) rfl rfl rfl rfl ?_
        refine lw_skip (e := 65) (c := true) rfl rfl rfl rfl ?_
        refine q_pick true (.bool true) rfl rfl zN ?_
        refine lw_nil ?_
        refine c_cond_t rfl ?_
        refine wp_seq ?_
        refine wp_plain _ [0] rfl ?_
        refine q_assign (.bool false) rfl zN ?_
        refine lw_nil ?_
        refine wp_ret ?_
        refine b_ret ?_
        refine t_ret ?_
        exact post_ret [6] rfl (.bool false) rfl ⟨(by first | exact ret_bool (wf_good hwn fun j hj => hall j (by omega)) | exact ret_bool (wf_kid (k := k) (by omega) (by first | (rw [if_pos (by omega)]) | (rw [if_neg (by omega)])) (not_t ‹_›)) | exact wf_ret (by first | exact .inr rfl | (left; omega) | (left; simp_all <;> omega)) (by (have hp9 := hpl.symm; clear hpl; unfold wfN inB; first | (simp [*]; done) | (simp [*]; omega) | (simp [*] <;> intros <;> omega) | (simp_all <;> omega)))),hE4⟩
      ·
       refine q_eql false rfl rfl (decide_eq_false hc21) zN ?_
       refine q_assign (.bool false) rfl zN ?_
       refine lw_nil ?_
       refine c_cond_f rfl ?_
       refine wp_seq ?_
       refine wp_plain _ [0,0] rfl ?_
       by_cases hc25 : ex.kind = ((5 :Nat):Int)
       ·
        refine q_eql true rfl rfl (decide_eq_true hc25) zN ?_
        refine q_assign (.bool true) rfl zN ?_
        refine lw_nil ?_
        refine c_cond_t rfl ?_
        refine wp_skip ?_
        refine c_cond_t rfl ?_
        refine wp_seq ?_
        refine wp_plain _ [0,0,0,0,2,0,0,0,0,0,0] rfl ?_
        refine q_move (.bool pl) rfl zN ?_
        refine q_not (!pl) rfl rfl zN ?_
        refine q_move (.bool (!pl)) rfl zN ?_
        cases hb26 : (!pl)
        ·
         refine q_fldP (p := (.pointer (some ⟨w1.heap.size,0,none⟩))) (b := w1.heap.size) (o := 0) 1 fd94_1 rfl rfl (zS (e := 60) rfl rfl rfl) ?_
         refine q_load (p := (padd (.pointer (some ⟨w1.heap.size,0,none⟩)) 1)) (.inr rfl) (.int .i64 ex.num) one2 rfl (hL4_1.ldp (i := 1) (by simp)) (zS (e := 60) rfl rfl rfl) ?_
         by_cases hc27 : ex.num ≠ ((0 :Nat):Int)
         ·
          refine q_neq true rfl rfl (decide_eq_true hc27) (zS (e := 60) rfl rfl rfl) ?_
          refine q_pick false (.bool true) rfl rfl zN ?_
          refine q_move (.bool true) rfl zN ?_
          refine lw_skip (e := 65) (c := true) rfl rfl rfl rfl ?_
          refine lw_skip (e := 65) (c := true) rfl rfl rfl rfl ?_
          refine q_pick true (.bool true) rfl rfl zN ?_
          refine lw_nil ?_
          refine c_cond_t rfl ?_
          refine wp_seq ?_
          refine wp_plain _ [0] rfl ?_
          refine q_assign (.bool false) rfl zN ?_
          refine lw_nil ?_
          refine wp_ret ?_
          refine b_ret ?_
          refine t_ret ?_
          exact post_ret [6] rfl (.bool false) rfl ⟨(by first | exact ret_bool (wf_good hwn fun j hj => hall j (by omega)) | exact ret_bool (wf_kid (k := k) (by omega) (by first | (rw [if_pos (by omega)]) | (rw [if_neg (by omega)])) (not_t ‹_›)) | exact wf_ret (by first | exact .inr rfl | (left; omega) | (left; simp_all <;> omega)) (by (have hp9 := hpl.symm; clear hpl; unfold wfN inB; first | (simp [*]; done) | (simp [*]; omega) | (simp [*] <;> intros <;> omega) | (simp_all <;> omega)))),hE4⟩
         ·
          refine q_neq false rfl rfl (decide_eq_false hc27) (zS (e := 60) rfl rfl rfl) ?_
          refine q_pick false (.bool false) rfl rfl zN ?_
          refine q_move (.bool false) rfl zN ?_
          refine q_move (.int .i64 ((ex.kids.length :Nat):Int)) rfl (zS (e := 65) rfl rfl rfl) ?_
          by_cases hc28 : ((ex.kids.length :Nat):Int) ≠ ((2 :Nat):Int)
          ·
           refine q_neq true rfl rfl (decide_eq_true hc28) (zS (e := 65) rfl rfl rfl) ?_
           refine q_pick false (.bool true) rfl rfl zN ?_
           refine lw_nil ?_
           refine c_cond_t rfl ?_
           refine wp_seq ?_
           refine wp_plain _ [0] rfl ?_
           refine q_assign (.bool false) rfl zN ?_
           refine lw_nil ?_
           refine wp_ret ?_
           refine b_ret ?_
           refine t_ret ?_
           exact post_ret [6] rfl (.bool false) rfl ⟨(by first | exact ret_bool (wf_good hwn fun j hj => hall j (by omega)) | exact ret_bool (wf_kid (k := k) (by omega) (by first | (rw [if_pos (by omega)]) | (rw [if_neg (by omega)])) (not_t ‹_›)) | exact wf_ret (by first | exact .inr rfl | (left; omega) | (left; simp_all <;> omega)) (by (have hp9 := hpl.symm; clear hpl; unfold wfN inB; first | (simp [*]; done) | (simp [*]; omega) | (simp [*] <;> intros <;> omega) | (simp_all <;> omega)))),hE4⟩
          ·
           refine q_neq false rfl rfl (decide_eq_false hc28) (zS (e := 65) rfl rfl rfl) ?_
           refine q_pick false (.bool false) rfl rfl zN ?_
           refine lw_nil ?_
           refine c_cond_f rfl ?_
           refine wp_skip ?_
           exact ⟨(),_,rfl,⟨rfl,rfl,rfl,trivial⟩,⟨hE4,hL4_0,hL4_1,(by (have hp9 := hpl.symm; clear hpl; unfold wfN inB; first | (simp [*]; done) | (simp [*]; omega) | (simp [*] <;> intros <;> omega) | (simp_all <;> omega)))⟩⟩
        ·
         refine lw_skip (e := 60) (c := true) rfl rfl rfl rfl ?_
         refine lw_skip (e := 60) (c := true) rfl rfl rfl rfl ?_
         refine lw_skip (e := 60) (c := true) rfl rfl rfl rfl ?_
         refine q_pick true (.bool true) rfl rfl zN ?_
         refine q_move (.bool true) rfl zN ?_
         refine lw_skip (e := 65) (c := true) rfl rfl rfl rfl ?_
         refine lw_skip (e := 65) (c := true) rfl rfl rfl rfl ?_
         refine q_pick true (.bool true) rfl rfl zN ?_
         refine lw_nil ?_
         refine c_cond_t rfl ?_
         refine wp_seq ?_
         refine wp_plain _ [0] rfl ?_
         refine q_assign (.bool false) rfl zN ?_
         refine lw_nil ?_
         refine wp_ret ?_
         refine b_ret ?_
         refine t_ret ?_
         exact post_ret [6] rfl (.bool false) rfl ⟨(by first | exact ret_bool (wf_good hwn fun j hj => hall j (by omega)) | exact ret_bool (wf_kid (k := k) (by omega) (by first | (rw [if_pos (by omega)]) | (rw [if_neg (by omega)])) (not_t ‹_›)) | exact wf_ret (by first | exact .inr rfl | (left; omega) | (left; simp_all <;> omega)) (by (have hp9 := hpl.symm; clear hpl; unfold wfN inB; first | (simp [*]; done) | (simp [*]; omega) | (simp [*] <;> intros <;> omega) | (simp_all <;> omega)))),hE4⟩
       ·
        refine q_eql false rfl rfl (decide_eq_false hc25) zN ?_
        refine q_assign (.bool false) rfl zN ?_
        refine lw_nil ?_
        refine c_cond_f rfl ?_
        refine wp_seq ?_
        refine wp_plain _ [0,0] rfl ?_
        by_cases hc29 : ex.kind = ((6 :Nat):Int)
        ·
         refine q_eql true rfl rfl (decide_eq_true hc29) zN ?_
         refine q_assign (.bool true) rfl zN ?_
         refine lw_nil ?_
         refine c_cond_t rfl ?_
         refine wp_skip ?_
         refine c_cond_t rfl ?_
         refine wp_seq ?_
         refine wp_plain _ [0,0,0,0,2,0,0,0,0,0,0] rfl ?_
         refine q_move (.bool pl) rfl zN ?_
         refine q_not (!pl) rfl rfl zN ?_
         refine q_move (.bool (!pl)) rfl zN ?_
         cases hb30 : (!pl)
         ·
          refine q_fldP (p := (.pointer (some ⟨w1.heap.size,0,none⟩))) (b := w1.heap.size) (o := 0) 1 fd94_1 rfl rfl (zS (e := 60) rfl rfl rfl) ?_
          refine q_load (p := (padd (.pointer (some ⟨w1.heap.size,0,none⟩)) 1)) (.inr rfl) (.int .i64 ex.num) one2 rfl (hL4_1.ldp (i := 1) (by simp)) (zS (e := 60) rfl rfl rfl) ?_
          by_cases hc31 : ex.num ≠ ((0 :Nat):Int)
          ·
           refine q_neq true rfl rfl (decide_eq_true hc31) (zS (e := 60) rfl rfl rfl) ?_
           refine q_pick false (.bool true) rfl rfl zN ?_
           refine q_move (.bool true) rfl zN ?_
           refine lw_skip (e := 65) (c := true) rfl rfl rfl rfl ?_
           refine lw_skip (e := 65) (c := true) rfl rfl rfl rfl ?_
           refine q_pick true (.bool true) rfl rfl zN ?_
           refine lw_nil ?_
           refine c_cond_t rfl ?_
           refine wp_seq ?_
           refine wp_plain _ [0] rfl ?_
           refine q_assign (.bool false) rfl zN ?_
           refine lw_nil ?_
           refine wp_ret ?_
           refine b_ret ?_
           refine t_ret ?_
           exact post_ret [6] rfl (.bool false) rfl ⟨(by first | exact ret_bool (wf_good hwn fun j hj => hall j (by omega)) | exact ret_bool (wf_kid (k := k) (by omega) (by first | (rw [if_pos (by omega)]) | (rw [if_neg (by omega)])) (not_t ‹_›)) | exact wf_ret (by first | exact .inr rfl | (left; omega) | (left; simp_all <;> omega)) (by (have hp9 := hpl.symm; clear hpl; unfold wfN inB; first | (simp [*]; done) | (simp [*]; omega) | (simp [*] <;> intros <;> omega) | (simp_all <;> omega)))),hE4⟩
          ·
           refine q_neq false rfl rfl (decide_eq_false hc31) (zS (e := 60) rfl rfl rfl) ?_
           refine q_pick false (.bool false) rfl rfl zN ?_
           refine q_move (.bool false) rfl zN ?_
           refine q_move (.int .i64 ((ex.kids.length :Nat):Int)) rfl (zS (e := 65) rfl rfl rfl) ?_
           by_cases hc32 : ((ex.kids.length :Nat):Int) ≠ ((2 :Nat):Int)
           ·
            refine q_neq true rfl rfl (decide_eq_true hc32) (zS (e := 65) rfl rfl rfl) ?_
            refine q_pick false (.bool true) rfl rfl zN ?_
            refine lw_nil ?_
            refine c_cond_t rfl ?_
            refine wp_seq ?_
            refine wp_plain _ [0] rfl ?_
            refine q_assign (.bool false) rfl zN ?_
            refine lw_nil ?_
            refine wp_ret ?_
            refine b_ret ?_
            refine t_ret ?_
            exact post_ret [6] rfl (.bool false) rfl ⟨(by first | exact ret_bool (wf_good hwn fun j hj => hall j (by omega)) | exact ret_bool (wf_kid (k := k) (by omega) (by first | (rw [if_pos (by omega)]) | (rw [if_neg (by omega)])) (not_t ‹_›)) | exact wf_ret (by first | exact .inr rfl | (left; omega) | (left; simp_all <;> omega)) (by (have hp9 := hpl.symm; clear hpl; unfold wfN inB; first | (simp [*]; done) | (simp [*]; omega) | (simp [*] <;> intros <;> omega) | (simp_all <;> omega)))),hE4⟩
           ·
            refine q_neq false rfl rfl (decide_eq_false hc32) (zS (e := 65) rfl rfl rfl) ?_
            refine q_pick false (.bool false) rfl rfl zN ?_
            refine lw_nil ?_
            refine c_cond_f rfl ?_
            refine wp_skip ?_
            exact ⟨(),_,rfl,⟨rfl,rfl,rfl,trivial⟩,⟨hE4,hL4_0,hL4_1,(by (have hp9 := hpl.symm; clear hpl; unfold wfN inB; first | (simp [*]; done) | (simp [*]; omega) | (simp [*] <;> intros <;> omega) | (simp_all <;> omega)))⟩⟩
         ·
          refine lw_skip (e := 60) (c := true) rfl rfl rfl rfl ?_
          refine lw_skip (e := 60) (c := true) rfl rfl rfl rfl ?_
          refine lw_skip (e := 60) (c := true) rfl rfl rfl rfl ?_
          refine q_pick true (.bool true) rfl rfl zN ?_
          refine q_move (.bool true) rfl zN ?_
          refine lw_skip (e := 65) (c := true) rfl rfl rfl rfl ?_
          refine lw_skip (e := 65) (c := true) rfl rfl rfl rfl ?_
          refine q_pick true (.bool true) rfl rfl zN ?_
          refine lw_nil ?_
          refine c_cond_t rfl ?_
          refine wp_seq ?_
          refine wp_plain _ [0] rfl ?_
          refine q_assign (.bool false) rfl zN ?_
          refine lw_nil ?_
          refine wp_ret ?_
          refine b_ret ?_
          refine t_ret ?_
          exact post_ret [6] rfl (.bool false) rfl ⟨(by first | exact ret_bool (wf_good hwn fun j hj => hall j (by omega)) | exact ret_bool (wf_kid (k := k) (by omega) (by first | (rw [if_pos (by omega)]) | (rw [if_neg (by omega)])) (not_t ‹_›)) | exact wf_ret (by first | exact .inr rfl | (left; omega) | (left; simp_all <;> omega)) (by (have hp9 := hpl.symm; clear hpl; unfold wfN inB; first | (simp [*]; done) | (simp [*]; omega) | (simp [*] <;> intros <;> omega) | (simp_all <;> omega)))),hE4⟩
        ·
         refine q_eql false rfl rfl (decide_eq_false hc29) zN ?_
         refine q_assign (.bool false) rfl zN ?_
         refine lw_nil ?_
         refine c_cond_f rfl ?_
         refine wp_plain _ [0,0] rfl ?_
         by_cases hc33 : ex.kind = ((9 :Nat):Int)
         ·
          refine q_eql true rfl rfl (decide_eq_true hc33) zN ?_
          refine q_assign (.bool true) rfl zN ?_
          refine lw_nil ?_
          refine c_cond_t rfl ?_
          refine wp_seq ?_
          refine wp_plain _ [0,0,0,0,2,0,0,0,0,0,0] rfl ?_
          refine q_move (.bool pl) rfl zN ?_
          refine q_not (!pl) rfl rfl zN ?_
          refine q_move (.bool (!pl)) rfl zN ?_
          cases hb34 : (!pl)
          ·
           refine q_fldP (p := (.pointer (some ⟨w1.heap.size,0,none⟩))) (b := w1.heap.size) (o := 0) 1 fd94_1 rfl rfl (zS (e := 60) rfl rfl rfl) ?_
           refine q_load (p := (padd (.pointer (some ⟨w1.heap.size,0,none⟩)) 1)) (.inr rfl) (.int .i64 ex.num) one2 rfl (hL4_1.ldp (i := 1) (by simp)) (zS (e := 60) rfl rfl rfl) ?_
           by_cases hc35 : ex.num ≠ ((0 :Nat):Int)
           ·
            refine q_neq true rfl rfl (decide_eq_true hc35) (zS (e := 60) rfl rfl rfl) ?_
            refine q_pick false (.bool true) rfl rfl zN ?_
            refine q_move (.bool true) rfl zN ?_
            refine lw_skip (e := 65) (c := true) rfl rfl rfl rfl ?_
            refine lw_skip (e := 65) (c := true) rfl rfl rfl rfl ?_
            refine q_pick true (.bool true) rfl rfl zN ?_
            refine lw_nil ?_
            refine c_cond_t rfl ?_
            refine wp_seq ?_
            refine wp_plain _ [0] rfl ?_
            refine q_assign (.bool false) rfl zN ?_
            refine lw_nil ?_
            refine wp_ret ?_
            refine b_ret ?_
            refine t_ret ?_
            exact post_ret [6] rfl (.bool false) rfl ⟨(by first | exact ret_bool (wf_good hwn fun j hj => hall j (by omega)) | exact ret_bool (wf_kid (k := k) (by omega) (by first | (rw [if_pos (by omega)]) | (rw [if_neg (by omega)])) (not_t ‹_›)) | exact wf_ret (by first | exact .inr rfl | (left; omega) | (left; simp_all <;> omega)) (by (have hp9 := hpl.symm; clear hpl; unfold wfN inB; first | (simp [*]; done) | (simp [*]; omega) | (simp [*] <;> intros <;> omega) | (simp_all <;> omega)))),hE4⟩
           ·
            refine q_neq false rfl rfl (decide_eq_false hc35) (zS (e := 60) rfl rfl rfl) ?_
            refine q_pick false (.bool false) rfl rfl zN ?_
            refine q_move (.bool false) rfl zN ?_
            refine q_move (.int .i64 ((ex.kids.length :Nat):Int)) rfl (zS (e := 65) rfl rfl rfl) ?_
            by_cases hc36 : ((ex.kids.length :Nat):Int) ≠ ((2 :Nat):Int)
            ·
             refine q_neq true rfl rfl (decide_eq_true hc36) (zS (e := 65) rfl rfl rfl) ?_
             refine q_pick false (.bool true) rfl rfl zN ?_
             refine lw_nil ?_
             refine c_cond_t rfl ?_
             refine wp_seq ?_
             refine wp_plain _ [0] rfl ?_
             refine q_assign (.bool false) rfl zN ?_
             refine lw_nil ?_
             refine wp_ret ?_
             refine b_ret ?_
             refine t_ret ?_
             exact post_ret [6] rfl (.bool false) rfl ⟨(by first | exact ret_bool (wf_good hwn fun j hj => hall j (by omega)) | exact ret_bool (wf_kid (k := k) (by omega) (by first | (rw [if_pos (by omega)]) | (rw [if_neg (by omega)])) (not_t ‹_›)) | exact wf_ret (by first | exact .inr rfl | (left; omega) | (left; simp_all <;> omega)) (by (have hp9 := hpl.symm; clear hpl; unfold wfN inB; first | (simp [*]; done) | (simp [*]; omega) | (simp [*] <;> intros <;> omega) | (simp_all <;> omega)))),hE4⟩
            ·
             refine q_neq false rfl rfl (decide_eq_false hc36) (zS (e := 65) rfl rfl rfl) ?_
             refine q_pick false (.bool false) rfl rfl zN ?_
             refine lw_nil ?_
             refine c_cond_f rfl ?_
             refine wp_skip ?_
             exact ⟨(),_,rfl,⟨rfl,rfl,rfl,trivial⟩,⟨hE4,hL4_0,hL4_1,(by (have hp9 := hpl.symm; clear hpl; unfold wfN inB; first | (simp [*]; done) | (simp [*]; omega) | (simp [*] <;> intros <;> omega) | (simp_all <;> omega)))⟩⟩
          ·
           refine lw_skip (e := 60) (c := true) rfl rfl rfl rfl ?_
           refine lw_skip (e := 60) (c := true) rfl rfl rfl rfl ?_
           refine lw_skip (e := 60) (c := true) rfl rfl rfl rfl ?_
           refine q_pick true (.bool true) rfl rfl zN ?_
           refine q_move (.bool true) rfl zN ?_
           refine lw_skip (e := 65) (c := true) rfl rfl rfl rfl ?_
           refine lw_skip (e := 65) (c := true) rfl rfl rfl rfl ?_
           refine q_pick true (.bool true) rfl rfl zN ?_
           refine lw_nil ?_
           refine c_cond_t rfl ?_
           refine wp_seq ?_
           refine wp_plain _ [0] rfl ?_
           refine q_assign (.bool false) rfl zN ?_
           refine lw_nil ?_
           refine wp_ret ?_
           refine b_ret ?_
           refine t_ret ?_
           exact post_ret [6] rfl (.bool false) rfl ⟨(by first | exact ret_bool (wf_good hwn fun j hj => hall j (by omega)) | exact ret_bool (wf_kid (k := k) (by omega) (by first | (rw [if_pos (by omega)]) | (rw [if_neg (by omega)])) (not_t ‹_›)) | exact wf_ret (by first | exact .inr rfl | (left; omega) | (left; simp_all <;> omega)) (by (have hp9 := hpl.symm; clear hpl; unfold wfN inB; first | (simp [*]; done) | (simp [*]; omega) | (simp [*] <;> intros <;> omega) | (simp_all <;> omega)))),hE4⟩
         ·
          refine q_eql false rfl rfl (decide_eq_false hc33) zN ?_
          refine q_assign (.bool false) rfl zN ?_
          refine lw_nil ?_
          refine c_cond_f rfl ?_
          refine wp_seq ?_
          refine wp_plain _ [0,0] rfl ?_
          by_cases hc37 : ex.kind = ((7 :Nat):Int)
          ·
           refine q_eql true rfl rfl (decide_eq_true hc37) zN ?_
           refine q_assign (.bool true) rfl zN ?_
           refine lw_nil ?_
           refine c_cond_t rfl ?_
           refine wp_seq ?_
           refine wp_plain _ [0,0,0,0,2,0,0,0,0,0,0] rfl ?_
           refine q_move (.bool pl) rfl zN ?_
           refine q_not (!pl) rfl rfl zN ?_
           refine q_move (.bool (!pl)) rfl zN ?_
           cases hb38 : (!pl)
           ·
            refine q_fldP (p := (.pointer (some ⟨w1.heap.size,0,none⟩))) (b := w1.heap.size) (o := 0) 1 fd94_1 rfl rfl (zS (e := 73) rfl rfl rfl) ?_
            refine q_load (p := (padd (.pointer (some ⟨w1.heap.size,0,none⟩)) 1)) (.inr rfl) (.int .i64 ex.num) one2 rfl (hL4_1.ldp (i := 1) (by simp)) (zS (e := 73) rfl rfl rfl) ?_
            by_cases hc39 : ex.num ≠ ((0 :Nat):Int)
            ·
             refine q_neq true rfl rfl (decide_eq_true hc39) (zS (e := 73) rfl rfl rfl) ?_
             refine q_pick false (.bool true) rfl rfl zN ?_
             refine q_move (.bool true) rfl zN ?_
             refine lw_skip (e := 78) (c := true) rfl rfl rfl rfl ?_
             refine lw_skip (e := 78) (c := true) rfl rfl rfl rfl ?_
             refine q_pick true (.bool true) rfl rfl zN ?_
             refine lw_nil ?_
             refine c_cond_t rfl ?_
             refine wp_seq ?_
             refine wp_plain _ [0] rfl ?_
             refine q_assign (.bool false) rfl zN ?_
             refine lw_nil ?_
             refine wp_ret ?_
             refine b_ret ?_
             refine t_ret ?_
             exact post_ret [6] rfl (.bool false) rfl ⟨(by first | exact ret_bool (wf_good hwn fun j hj => hall j (by omega)) | exact ret_bool (wf_kid (k := k) (by omega) (by first | (rw [if_pos (by omega)]) | (rw [if_neg (by omega)])) (not_t ‹_›)) | exact wf_ret (by first | exact .inr rfl | (left; omega) | (left; simp_all <;> omega)) (by (have hp9 := hpl.symm; clear hpl; unfold wfN inB; first | (simp [*]; done) | (simp [*]; omega) | (simp [*] <;> intros <;> omega) | (simp_all <;> omega)))),hE4⟩
            ·
             refine q_neq false rfl rfl (decide_eq_false hc39) (zS (e := 73) rfl rfl rfl) ?_
             refine q_pick false (.bool false) rfl rfl zN ?_
             refine q_move (.bool false) rfl zN ?_
             refine q_move (.int .i64 ((ex.kids.length :Nat):Int)) rfl (zS (e := 78) rfl rfl rfl) ?_
             by_cases hc40 : ((ex.kids.length :Nat):Int) ≠ ((1 :Nat):Int)
             ·
              refine q_neq true rfl rfl (decide_eq_true hc40) (zS (e := 78) rfl rfl rfl) ?_
              refine q_pick false (.bool true) rfl rfl zN ?_
              refine lw_nil ?_
              refine c_cond_t rfl ?_
              refine wp_seq ?_
              refine wp_plain _ [0] rfl ?_
              refine q_assign (.bool false) rfl zN ?_
              refine lw_nil ?_
              refine wp_ret ?_
              refine b_ret ?_
              refine t_ret ?_
              exact post_ret [6] rfl (.bool false) rfl ⟨(by first | exact ret_bool (wf_good hwn fun j hj => hall j (by omega)) | exact ret_bool (wf_kid (k := k) (by omega) (by first | (rw [if_pos (by omega)]) | (rw [if_neg (by omega)])) (not_t ‹_›)) | exact wf_ret (by first | exact .inr rfl | (left; omega) | (left; simp_all <;> omega)) (by (have hp9 := hpl.symm; clear hpl; unfold wfN inB; first | (simp [*]; done) | (simp [*]; omega) | (simp [*] <;> intros <;> omega) | (simp_all <;> omega)))),hE4⟩
             ·
              refine q_neq false rfl rfl (decide_eq_false hc40) (zS (e := 78) rfl rfl rfl) ?_
              refine q_pick false (.bool false) rfl rfl zN ?_
              refine lw_nil ?_
              refine c_cond_f rfl ?_
              refine wp_skip ?_
              exact ⟨(),_,rfl,⟨rfl,rfl,rfl,trivial⟩,⟨hE4,hL4_0,hL4_1,(by (have hp9 := hpl.symm; clear hpl; unfold wfN inB; first | (simp [*]; done) | (simp [*]; omega) | (simp [*] <;> intros <;> omega) | (simp_all <;> omega)))⟩⟩
           ·
            refine lw_skip (e := 73) (c := true) rfl rfl rfl rfl ?_
            refine lw_skip (e := 73) (c := true) rfl rfl rfl rfl ?_
            refine lw_skip (e := 73) (c := true) rfl rfl rfl rfl ?_
            refine q_pick true (.bool true) rfl rfl zN ?_
            refine q_move (.bool true) rfl zN ?_
            refine lw_skip (e := 78) (c := true) rfl rfl rfl rfl ?_
            refine lw_skip (e := 78) (c := true) rfl rfl rfl rfl ?_
            refine q_pick true (.bool true) rfl rfl zN ?_
            refine lw_nil ?_
            refine c_cond_t rfl ?_
            refine wp_seq ?_
            refine wp_plain _ [0] rfl ?_
            refine q_assign (.bool false) rfl zN ?_
            refine lw_nil ?_
            refine wp_ret ?_
            refine b_ret ?_
            refine t_ret ?_
            exact post_ret [6] rfl (.bool false) rfl ⟨(by first | exact ret_bool (wf_good hwn fun j hj => hall j (by omega)) | exact ret_bool (wf_kid (k := k) (by omega) (by first | (rw [if_pos (by omega)]) | (rw [if_neg (by omega)])) (not_t ‹_›)) | exact wf_ret (by first | exact .inr rfl | (left; omega) | (left; simp_all <;> omega)) (by (have hp9 := hpl.symm; clear hpl; unfold wfN inB; first | (simp [*]; done) | (simp [*]; omega) | (simp [*] <;> intros <;> omega) | (simp_all <;> omega)))),hE4⟩
          ·
           refine q_eql false rfl rfl (decide_eq_false hc37) zN ?_
           refine q_assign (.bool false) rfl zN ?_
           refine lw_nil ?_
           refine c_cond_f rfl ?_
           refine wp_seq ?_
           refine wp_plain _ [0,0] rfl ?_
           by_cases hc41 : ex.kind = ((8 :Nat):Int)
           ·
            refine q_eql true rfl rfl (decide_eq_true hc41) zN ?_
            refine q_assign (.bool true) rfl zN ?_
            refine lw_nil ?_
            refine c_cond_t rfl ?_
            refine wp_seq ?_
            refine wp_plain _ [0,0,0,0,2,0,0,0,0,0,0] rfl ?_
            refine q_move (.bool pl) rfl zN ?_
            refine q_not (!pl) rfl rfl zN ?_
            refine q_move (.bool (!pl)) rfl zN ?_
            cases hb42 : (!pl)
            ·
             refine q_fldP (p := (.pointer (some ⟨w1.heap.size,0,none⟩))) (b := w1.heap.size) (o := 0) 1 fd94_1 rfl rfl (zS (e := 86) rfl rfl rfl) ?_
             refine q_load (p := (padd (.pointer (some ⟨w1.heap.size,0,none⟩)) 1)) (.inr rfl) (.int .i64 ex.num) one2 rfl (hL4_1.ldp (i := 1) (by simp)) (zS (e := 86) rfl rfl rfl) ?_
             by_cases hc43 : ex.num ≠ ((0 :Nat):Int)
             ·
              refine q_neq true rfl rfl (decide_eq_true hc43) (zS (e := 86) rfl rfl rfl) ?_
              refine q_pick false (.bool true) rfl rfl zN ?_
              refine q_move (.bool true) rfl zN ?_
              refine lw_skip (e := 91) (c := true) rfl rfl rfl rfl ?_
              refine lw_skip (e := 91) (c := true) rfl rfl rfl rfl ?_
              refine q_pick true (.bool true) rfl rfl zN ?_
              refine lw_nil ?_
              refine c_cond_t rfl ?_
              refine wp_seq ?_
              refine wp_plain _ [0] rfl ?_
              refine q_assign (.bool false) rfl zN ?_
              refine lw_nil ?_
              refine wp_ret ?_
              refine b_ret ?_
              refine t_ret ?_
              exact post_ret [6] rfl (.bool false) rfl ⟨(by first | exact ret_bool (wf_good hwn fun j hj => hall j (by omega)) | exact ret_bool (wf_kid (k := k) (by omega) (by first | (rw [if_pos (by omega)]) | (rw [if_neg (by omega)])) (not_t ‹_›)) | exact wf_ret (by first | exact .inr rfl | (left; omega) | (left; simp_all <;> omega)) (by (have hp9 := hpl.symm; clear hpl; unfold wfN inB; first | (simp [*]; done) | (simp [*]; omega) | (simp [*] <;> intros <;> omega) | (simp_all <;> omega)))),hE4⟩
             ·
              refine q_neq false rfl rfl (decide_eq_false hc43) (zS (e := 86) rfl rfl rfl) ?_
              refine q_pick false (.bool false) rfl rfl zN ?_
              refine q_move (.bool false) rfl zN ?_
              refine q_move (.int .i64 ((ex.kids.length :Nat):Int)) rfl (zS (e := 91) rfl rfl rfl) ?_
              by_cases hc44 : ((ex.kids.length :Nat):Int) ≠ ((3 :Nat):Int)
              ·
               refine q_neq true rfl rfl (decide_eq_true hc44) (zS (e := 91) rfl rfl rfl) ?_
               refine q_pick false (.bool true) rfl rfl zN ?_
               refine lw_nil ?_
               refine c_cond_t rfl ?_
               refine wp_seq ?_
               refine wp_plain _ [0] rfl ?_
               refine q_assign (.bool false) rfl zN ?_
               refine lw_nil ?_
               refine wp_ret ?_
               refine b_ret ?_
               refine t_ret ?_
               exact post_ret [6] rfl (.bool false) rfl ⟨(by first | exact ret_bool (wf_good hwn fun j hj => hall j (by omega)) | exact ret_bool (wf_kid (k := k) (by omega) (by first | (rw [if_pos (by omega)]) | (rw [if_neg (by omega)])) (not_t ‹_›)) | exact wf_ret (by first | exact .inr rfl | (left; omega) | (left; simp_all <;> omega)) (by (have hp9 := hpl.symm; clear hpl; unfold wfN inB; first | (simp [*]; done) | (simp [*]; omega) | (simp [*] <;> intros <;> omega) | (simp_all <;> omega)))),hE4⟩
              ·
               refine q_neq false rfl rfl (decide_eq_false hc44) (zS (e := 91) rfl rfl rfl) ?_
               refine q_pick false (.bool false) rfl rfl zN ?_
               refine lw_nil ?_
               refine c_cond_f rfl ?_
               refine wp_skip ?_
               exact ⟨(),_,rfl,⟨rfl,rfl,rfl,trivial⟩,⟨hE4,hL4_0,hL4_1,(by (have hp9 := hpl.symm; clear hpl; unfold wfN inB; first | (simp [*]; done) | (simp [*]; omega) | (simp [*] <;> intros <;> omega) | (simp_all <;> omega)))⟩⟩
            ·
             refine lw_skip (e := 86) (c := true) rfl rfl rfl rfl ?_
             refine lw_skip (e := 86) (c := true) rfl rfl rfl rfl ?_
             refine lw_skip (e := 86) (c := true) rfl rfl rfl rfl ?_
             refine q_pick true (.bool true) rfl rfl zN ?_
             refine q_move (.bool true) rfl zN ?_
             refine lw_skip (e := 91) (c := true) rfl rfl rfl rfl ?_
             refine lw_skip (e := 91) (c := true) rfl rfl rfl rfl ?_
             refine q_pick true (.bool true) rfl rfl zN ?_
             refine lw_nil ?_
             refine c_cond_t rfl ?_
             refine wp_seq ?_
             refine wp_plain _ [0] rfl ?_
             refine q_assign (.bool false) rfl zN ?_
             refine lw_nil ?_
             refine wp_ret ?_
             refine b_ret ?_
             refine t_ret ?_
             exact post_ret [6] rfl (.bool false) rfl ⟨(by first | exact ret_bool (wf_good hwn fun j hj => hall j (by omega)) | exact ret_bool (wf_kid (k := k) (by omega) (by first | (rw [if_pos (by omega)]) | (rw [if_neg (by omega)])) (not_t ‹_›)) | exact wf_ret (by first | exact .inr rfl | (left; omega) | (left; simp_all <;> omega)) (by (have hp9 := hpl.symm; clear hpl; unfold wfN inB; first | (simp [*]; done) | (simp [*]; omega) | (simp [*] <;> intros <;> omega) | (simp_all <;> omega)))),hE4⟩
           ·
            refine q_eql false rfl rfl (decide_eq_false hc41) zN ?_
            refine q_assign (.bool false) rfl zN ?_
            refine lw_nil ?_
            refine c_cond_f rfl ?_
            refine wp_seq ?_
            refine wp_seq ?_
            refine wp_plain _ [0,0] rfl ?_
            by_cases hc45 : ex.kind = ((10 :Nat):Int)
            ·
             refine q_eql true rfl rfl (decide_eq_true hc45) zN ?_
             refine q_assign (.bool true) rfl zN ?_
             refine lw_nil ?_
             refine c_cond_t rfl ?_
             refine wp_skip ?_
             refine c_cond_t rfl ?_
             refine wp_seq ?_
             refine wp_seq ?_
             refine wp_plain _ [0,2,0,2,0,0,0] rfl ?_
             refine q_fldP (p := (.pointer (some ⟨w1.heap.size,0,none⟩))) (b := w1.heap.size) (o := 0) 1 fd94_1 rfl rfl zN ?_
             refine q_load (p := (padd (.pointer (some ⟨w1.heap.size,0,none⟩)) 1)) (.inr rfl) (.int .i64 ex.num) one2 rfl (hL4_1.ldp (i := 1) (by simp)) zN ?_
             refine q_fldP (p := (.pointer (some ⟨w.heap.size,0,none⟩))) (b := w.heap.size) (o := 0) 1 fd166_1 rfl rfl zN ?_
             refine q_load (p := (padd (.pointer (some ⟨w.heap.size,0,none⟩)) 1)) (.inr rfl) (.int .i64 funcs) one2 rfl (hL4_0.ldp (i := 1) (by simp)) zN ?_
             refine q_sub (funcs - 1) rfl rfl (w64 (by omega) (by omega)) zN ?_
             refine lw_callq 68 [] [] [(.int .i64 ex.num),(.int .i64 ((0 :Nat):Int)),(.int .i64 (funcs - 1))] rfl rfl cf68 zN (.bool (decide (((0 :Nat):Int) ≤ ex.num) && decide (ex.num ≤ (funcs - 1)))) (fun wq => c_impl_within wq _ _ _ hex.rng.num (by omega) (by omega)) ?_
             refine q_not (!(decide (((0 :Nat):Int) ≤ ex.num) && decide (ex.num ≤ (funcs - 1)))) rfl rfl zN ?_
             refine lw_nil ?_
             cases hb47 : (!(decide (((0 :Nat):Int) ≤ ex.num) && decide (ex.num ≤ (funcs - 1))))
             ·
              refine c_cond_f (by first | rfl | (show Value.bool _ = _; rw [hb47])) ?_
              refine wp_skip ?_
              refine wp_seq ?_
              refine wp_plain _ [0,0,2,0,2,0,2,3,4] rfl ?_
              have hnr : 0 ≤ ex.num ∧ ex.num ≤ funcs - 1 := by have h9 := ‹(!(decide (((0 :Nat):Int) ≤ ex.num) && decide (ex.num ≤ funcs - 1))) = false›; simpa using h9
              refine q_fldP (p := (.pointer (some ⟨w.heap.size,0,none⟩))) (b := w.heap.size) (o := 0) 0 fd166_0 rfl rfl zN ?_
              refine q_fldP (p := (padd (.pointer (some ⟨w.heap.size,0,none⟩)) 0)) (b := w.heap.size) (o := 0) 0 fd32_0 rfl rfl zN ?_
              refine q_load (p := (padd (padd (.pointer (some ⟨w.heap.size,0,none⟩)) 0) 0)) (.inr rfl) vp one30 rfl (hL4_0.ldp (i := 0) (by simp)) zN ?_
              refine q_fldP (p := (.pointer (some ⟨w1.heap.size,0,none⟩))) (b := w1.heap.size) (o := 0) 1 fd94_1 rfl rfl zN ?_
              refine q_load (p := (padd (.pointer (some ⟨w1.heap.size,0,none⟩)) 1)) (.inr rfl) (.int .i64 ex.num) one2 rfl (hL4_1.ldp (i := 1) (by simp)) zN ?_
              refine q_idx (v := vp) ((ex.num).toNat) u30 tiS80 rfl rfl hp.isSl (by omega) (by first | omega | assumption | (simp; done) | (simp; omega)) zN ?_
              obtain ⟨cs48,hr48,hl48⟩ := hp.get (good_rFn dp) Fn.zero (k := ((ex.num).toNat)) (by first | omega | assumption | (simp; done) | (simp; omega))
              obtain ⟨ve48,rfl,hx48⟩ := RF.of hr48
              have hln48 := hx48.rn.lenle
              unfold maxLen at hln48
              refine q_loadA (p := eptr vp ((ex.num).toNat) 3) (.inr rfl) [(.string ((p.getD ((ex.num).toNat) Fn.zero).name)),(.int .i64 ((p.getD ((ex.num).toNat) Fn.zero).params)),ve48] agg80 rfl (fun w9 hw9 => hl48 w9 (Chg.of_ext [] (hE4.trans hw9))) rfl zN ?_
              have hq50 := hL4_0.lt
              have hq51 := hL4_1.lt
              refine r_allocA (z := .agg #[.string ByteArray.empty,.int .i64 0,.slice none 0 0]) zr80 zN ?_
              intro w49 hX49 hz49 hB49
              have hzs49:=hX49.size
              have hE49:=hE4.trans hX49
              have hL4_0x49 := hL4_0.ext hX49
              have hL4_1x49 := hL4_1.ext hX49
              replace hB49 : BX w49.heap w4.heap.size [(.string ByteArray.empty),(.int .i64 0),(.slice none 0 0)] := hB49
              refine e_setA (vs := [(.string ((p.getD ((ex.num).toNat) Fn.zero).name)),(.int .i64 ((p.getD ((ex.num).toNat) Fn.zero).params)),ve48]) agg80 rfl rfl hx48.ones hB49 rfl rfl zN ?_
              intro w52 hC52 hz52 hB52
              replace hB52 : BX w52.heap w4.heap.size [(.string ((p.getD ((ex.num).toNat) Fn.zero).name)),(.int .i64 ((p.getD ((ex.num).toNat) Fn.zero).params)),ve48] := hB52
              have hE52 : Ext w w52 := hC52.below hE49 (fun c hc => by have := List.mem_singleton.1 hc; omega) hE49.size
              have hzs52:=hC52.size
              have hF53 := hL4_0x49.chg hC52 (fun hm => by have := List.mem_singleton.1 hm; omega)
              have hF54 := hL4_1x49.chg hC52 (fun hm => by have := List.mem_singleton.1 hm; omega)
              refine lw_nil ?_
              refine wp_seq ?_
              refine wp_seq ?_
              refine wp_plain _ [0,0,2,0,0,0,2,0,2,0,0,0,0,0] rfl ?_
              refine q_move (.int .i64 ((ex.kids.length :Nat):Int)) rfl zN ?_
              refine q_fldP (p := (.pointer (some ⟨w4.heap.size,0,none⟩))) (b := w4.heap.size) (o := 0) 1 fd80_1 rfl rfl zN ?_
              refine q_load (p := (padd (.pointer (some ⟨w4.heap.size,0,none⟩)) 1)) (.inr rfl) (.int .i64 ((p.getD ((ex.num).toNat) Fn.zero).params)) one2 rfl (hB52.ldp (i := 1) (by simp)) zN ?_
              by_cases hc55 : ((ex.kids.length :Nat):Int) ≠ (p.getD ((ex.num).toNat) Fn.zero).params
              ·
               refine q_neq true rfl rfl (decide_eq_true hc55) zN ?_
               refine q_move (.bool true) rfl zN ?_
               refine lw_skip (e := 116) (c := true) rfl rfl rfl rfl ?_
               refine lw_skip (e := 116) (c := true) rfl rfl rfl rfl ?_
               refine lw_skip (e := 116) (c := true) rfl rfl rfl rfl ?_
               refine lw_skip (e := 116) (c := true) rfl rfl rfl rfl ?_
               refine lw_skip (e := 116) (c := true) rfl rfl rfl rfl ?_
               refine lw_skip (e := 116) (c := true) rfl rfl rfl rfl ?_
               refine lw_skip (e := 116) (c := true) rfl rfl rfl rfl ?_
               refine lw_skip (e := 116) (c := true) rfl rfl rfl rfl ?_
               refine q_pick true (.bool true) rfl rfl zN ?_
               refine lw_nil ?_
               refine c_cond_t rfl ?_
               refine wp_seq ?_
               refine wp_plain _ [0] rfl ?_
               refine q_assign (.bool false) rfl zN ?_
               refine lw_nil ?_
               refine wp_ret ?_
               refine t_ret ?_
               refine b_ret ?_
               refine t_ret ?_
               exact post_ret [6] rfl (.bool false) rfl ⟨(by first | exact ret_bool (wf_good hwn fun j hj => hall j (by omega)) | exact ret_bool (wf_kid (k := k) (by omega) (by first | (rw [if_pos (by omega)]) | (rw [if_neg (by omega)])) (not_t ‹_›)) | exact wf_ret (by first | exact .inr rfl | (left; omega) | (left; simp_all <;> omega)) (by (have hp9 := hpl.symm; clear hpl; unfold wfN inB; first | (simp [*]; done) | (simp [*]; omega) | (simp [*] <;> intros <;> omega) | (simp_all <;> omega)))),hE52⟩
              ·
               refine q_neq false rfl rfl (decide_eq_false hc55) zN ?_
               refine q_move (.bool false) rfl zN ?_
               refine q_fldP (p := (.pointer (some ⟨w1.heap.size,0,none⟩))) (b := w1.heap.size) (o := 0) 2 fd94_2 rfl rfl (zS (e := 116) rfl rfl rfl) ?_
               refine q_load (p := (padd (.pointer (some ⟨w1.heap.size,0,none⟩)) 2)) (.inr rfl) (.int .i64 ex.pick) one2 rfl (hF54.ldp (i := 2) (by simp)) (zS (e := 116) rfl rfl rfl) ?_
               refine q_fldP (p := (.pointer (some ⟨w4.heap.size,0,none⟩))) (b := w4.heap.size) (o := 0) 2 fd80_2 rfl rfl (zS (e := 116) rfl rfl rfl) ?_
               refine q_load (p := (padd (.pointer (some ⟨w4.heap.size,0,none⟩)) 2)) (.inr rfl) ve48 one78 rfl (hB52.ldp (i := 2) (by simp)) (zS (e := 116) rfl rfl rfl) ?_
               refine q_len (v := ve48) u78 rfl hx48.rn.isSl (zS (e := 116) rfl rfl rfl) ?_
               refine q_sub (((p.getD (ex.num).toNat Fn.zero).outs.length : Int) - 1) rfl rfl (w64 (by omega) (by omega)) (zS (e := 116) rfl rfl rfl) ?_
               refine lw_callq 68 [] [] [(.int .i64 ex.pick),(.int .i64 ((0 :Nat):Int)),(.int .i64 (((p.getD (ex.num).toNat Fn.zero).outs.length : Int) - 1))] rfl rfl cf68 (zS (e := 116) rfl rfl rfl) (.bool (decide (((0 :Nat):Int) ≤ ex.pick) && decide (ex.pick ≤ (((p.getD (ex.num).toNat Fn.zero).outs.length : Int) - 1)))) (fun wq => c_impl_within wq _ _ _ hex.rng.pick (by omega) (by omega)) ?_
               refine q_not (!(decide (((0 :Nat):Int) ≤ ex.pick) && decide (ex.pick ≤ (((p.getD (ex.num).toNat Fn.zero).outs.length : Int) - 1)))) rfl rfl (zS (e := 116) rfl rfl rfl) ?_
               refine q_pick false (.bool (!(decide (((0 :Nat):Int) ≤ ex.pick) && decide (ex.pick ≤ (((p.getD (ex.num).toNat Fn.zero).outs.length : Int) - 1))))) rfl rfl zN ?_
               refine lw_nil ?_
               cases hb57 : (!(decide (((0 :Nat):Int) ≤ ex.pick) && decide (ex.pick ≤ (((p.getD (ex.num).toNat Fn.zero).outs.length : Int) - 1))))
               ·
                refine c_cond_f (by first | rfl | (show Value.bool _ = _; rw [hb57])) ?_
                refine wp_skip ?_
                refine wp_seq ?_
                refine wp_plain _ [0,2,0,0,0,2,0,0,0,0,2,0,0,0,2,0,0,2,0,0,0,2,0,0,0,0,0] rfl ?_
                refine q_fldP (p := (.pointer (some ⟨w1.heap.size,0,none⟩))) (b := w1.heap.size) (o := 0) 0 fd94_0 rfl rfl zN ?_
                refine q_load (p := (padd (.pointer (some ⟨w1.heap.size,0,none⟩)) 0)) (.inr rfl) (.int .i64 ex.kind) one2 rfl (hF54.ldp (i := 0) (by simp)) zN ?_
                by_cases hc58 : ex.kind = ((10 :Nat):Int)
                ·
                 refine q_eql true rfl rfl (decide_eq_true hc58) zN ?_
                 refine q_move (.bool true) rfl zN ?_
                 refine q_fldP (p := (.pointer (some ⟨w1.heap.size,0,none⟩))) (b := w1.heap.size) (o := 0) 3 fd94_3 rfl rfl (zS (e := 129) rfl rfl rfl) ?_
                 refine q_load (p := (padd (.pointer (some ⟨w1.heap.size,0,none⟩)) 3)) (.inr rfl) (.int .i64 ex.count) one2 rfl (hF54.ldp (i := 3) (by simp)) (zS (e := 129) rfl rfl rfl) ?_
                 by_cases hc59 : ex.count ≠ ((0 :Nat):Int)
                 ·
                  refine q_neq true rfl rfl (decide_eq_true hc59) (zS (e := 129) rfl rfl rfl) ?_
                  refine q_pick true (.bool true) rfl rfl zN ?_
                  refine q_move (.bool true) rfl zN ?_
                  refine lw_skip (e := 134) (c := true) rfl rfl rfl rfl ?_
                  refine lw_skip (e := 134) (c := true) rfl rfl rfl rfl ?_
                  refine lw_skip (e := 134) (c := true) rfl rfl rfl rfl ?_
                  refine lw_skip (e := 134) (c := true) rfl rfl rfl rfl ?_
                  refine lw_skipU (e := 138) rfl rfl rfl ?_
                  refine lw_skipU (e := 138) rfl rfl rfl ?_
                  refine lw_skipU (e := 138) rfl rfl rfl ?_
                  refine lw_skipU (e := 138) rfl rfl rfl ?_
                  refine lw_skipU (e := 138) rfl rfl rfl ?_
                  refine lw_skipU (e := 138) rfl rfl rfl ?_
                  refine lw_skipU (e := 138) rfl rfl rfl ?_
                  refine lw_skipU (e := 145) rfl rfl rfl ?_
                  refine lw_skipU (e := 145) rfl rfl rfl ?_
                  refine lw_skipU (e := 145) rfl rfl rfl ?_
                  refine lw_skipU (e := 145) rfl rfl rfl ?_
                  refine lw_skipU (e := 138) rfl rfl rfl ?_
                  refine lw_skip (e := 134) (c := true) rfl rfl rfl rfl ?_
                  refine q_pick true (.bool true) rfl rfl zN ?_
                  refine lw_nil ?_
                  refine c_cond_t rfl ?_
                  refine wp_seq ?_
                  refine wp_plain _ [0] rfl ?_
                  refine q_assign (.bool false) rfl zN ?_
                  refine lw_nil ?_
                  refine wp_ret ?_
                  refine b_ret ?_
                  refine t_ret ?_
                  exact post_ret [6] rfl (.bool false) rfl ⟨(by first | exact ret_bool (wf_good hwn fun j hj => hall j (by omega)) | exact ret_bool (wf_kid (k := k) (by omega) (by first | (rw [if_pos (by omega)]) | (rw [if_neg (by omega)])) (not_t ‹_›)) | exact wf_ret (by first | exact .inr rfl | (left; omega) | (left; simp_all <;> omega)) (by (have hp9 := hpl.symm; clear hpl; unfold wfN inB; first | (simp [*]; done) | (simp [*]; omega) | (simp [*] <;> intros <;> omega) | (simp_all <;> omega)))),hE52⟩
                 ·
                  refine q_neq false rfl rfl (decide_eq_false hc59) (zS (e := 129) rfl rfl rfl) ?_
                  refine q_pick true (.bool false) rfl rfl zN ?_
                  refine q_move (.bool false) rfl zN ?_
                  refine q_fldP (p := (.pointer (some ⟨w1.heap.size,0,none⟩))) (b := w1.heap.size) (o := 0) 0 fd94_0 rfl rfl (zS (e := 134) rfl rfl rfl) ?_
                  refine q_load (p := (padd (.pointer (some ⟨w1.heap.size,0,none⟩)) 0)) (.inr rfl) (.int .i64 ex.kind) one2 rfl (hF54.ldp (i := 0) (by simp)) (zS (e := 134) rfl rfl rfl) ?_
                  by_cases hc60 : ex.kind = ((11 :Nat):Int)
                  ·
                   refine q_eql true rfl rfl (decide_eq_true hc60) (zS (e := 134) rfl rfl rfl) ?_
                   refine q_move (.bool true) rfl (zS (e := 134) rfl rfl rfl) ?_
                   refine q_fldP (p := (.pointer (some ⟨w4.heap.size,0,none⟩))) (b := w4.heap.size) (o := 0) 2 fd80_2 rfl rfl (zS (e := 138) rfl rfl rfl) ?_
                   refine q_load (p := (padd (.pointer (some ⟨w4.heap.size,0,none⟩)) 2)) (.inr rfl) ve48 one78 rfl (hB52.ldp (i := 2) (by simp)) (zS (e := 138) rfl rfl rfl) ?_
                   refine q_len (v := ve48) u78 rfl hx48.rn.isSl (zS (e := 138) rfl rfl rfl) ?_
                   refine q_fldP (p := (.pointer (some ⟨w4.heap.size,0,none⟩))) (b := w4.heap.size) (o := 0) 1 fd80_1 rfl rfl (zS (e := 138) rfl rfl rfl) ?_
                   refine q_load (p := (padd (.pointer (some ⟨w4.heap.size,0,none⟩)) 1)) (.inr rfl) (.int .i64 ((p.getD ((ex.num).toNat) Fn.zero).params)) one2 rfl (hB52.ldp (i := 1) (by simp)) (zS (e := 138) rfl rfl rfl) ?_
                   by_cases hc61 : ((((p.getD ((ex.num).toNat) Fn.zero).outs).length :Nat):Int) ≠ (p.getD ((ex.num).toNat) Fn.zero).params
                   ·
                    refine q_neq true rfl rfl (decide_eq_true hc61) (zS (e := 138) rfl rfl rfl) ?_
                    refine q_move (.bool true) rfl (zS (e := 138) rfl rfl rfl) ?_
                    refine lw_skip (e := 145) (c := true) rfl rfl rfl rfl ?_
                    refine lw_skip (e := 145) (c := true) rfl rfl rfl rfl ?_
                    refine lw_skip (e := 145) (c := true) rfl rfl rfl rfl ?_
                    refine lw_skip (e := 145) (c := true) rfl rfl rfl rfl ?_
                    refine q_pick true (.bool true) rfl rfl (zS (e := 138) rfl rfl rfl) ?_
                    refine q_pick true (.bool true) rfl rfl (zS (e := 134) rfl rfl rfl) ?_
                    refine q_pick false (.bool true) rfl rfl zN ?_
                    refine lw_nil ?_
                    refine c_cond_t rfl ?_
                    refine wp_seq ?_
                    refine wp_plain _ [0] rfl ?_
                    refine q_assign (.bool false) rfl zN ?_
                    refine lw_nil ?_
                    refine wp_ret ?_
                    refine b_ret ?_
                    refine t_ret ?_
                    exact post_ret [6] rfl (.bool false) rfl ⟨(by first | exact ret_bool (wf_good hwn fun j hj => hall j (by omega)) | exact ret_bool (wf_kid (k := k) (by omega) (by first | (rw [if_pos (by omega)]) | (rw [if_neg (by omega)])) (not_t ‹_›)) | exact wf_ret (by first | exact .inr rfl | (left; omega) | (left; simp_all <;> omega)) (by (have hp9 := hpl.symm; clear hpl; unfold wfN inB; first | (simp [*]; done) | (simp [*]; omega) | (simp [*] <;> intros <;> omega) | (simp_all <;> omega)))),hE52⟩
                   ·
                    refine q_neq false rfl rfl (decide_eq_false hc61) (zS (e := 138) rfl rfl rfl) ?_
                    refine q_move (.bool false) rfl (zS (e := 138) rfl rfl rfl) ?_
                    refine q_fldP (p := (.pointer (some ⟨w1.heap.size,0,none⟩))) (b := w1.heap.size) (o := 0) 3 fd94_3 rfl rfl (zS (e := 145) rfl rfl rfl) ?_
                    refine q_load (p := (padd (.pointer (some ⟨w1.heap.size,0,none⟩)) 3)) (.inr rfl) (.int .i64 ex.count) one2 rfl (hF54.ldp (i := 3) (by simp)) (zS (e := 145) rfl rfl rfl) ?_
                    refine lw_callq 68 [] [] [(.int .i64 ex.count),(.int .i64 ((0 :Nat):Int)),(.int .i64 ((8 :Nat):Int))] rfl rfl cf68 (zS (e := 145) rfl rfl rfl) (.bool (decide (((0 :Nat):Int) ≤ ex.count) && decide (ex.count ≤ ((8 :Nat):Int)))) (fun wq => c_impl_within wq _ _ _ hex.rng.count (by omega) (by omega)) ?_
                    refine q_not (!(decide (((0 :Nat):Int) ≤ ex.count) && decide (ex.count ≤ ((8 :Nat):Int)))) rfl rfl (zS (e := 145) rfl rfl rfl) ?_
                    refine q_pick false (.bool (!(decide (((0 :Nat):Int) ≤ ex.count) && decide (ex.count ≤ ((8 :Nat):Int))))) rfl rfl (zS (e := 138) rfl rfl rfl) ?_
                    refine q_pick true (.bool (!(decide (((0 :Nat):Int) ≤ ex.count) && decide (ex.count ≤ ((8 :Nat):Int))))) rfl rfl (zS (e := 134) rfl rfl rfl) ?_
                    refine q_pick false (.bool (!(decide (((0 :Nat):Int) ≤ ex.count) && decide (ex.count ≤ ((8 :Nat):Int))))) rfl rfl zN ?_
                    refine lw_nil ?_
                    cases hb63 : (!(decide (((0 :Nat):Int) ≤ ex.count) && decide (ex.count ≤ ((8 :Nat):Int))))
                    ·
                     refine c_cond_f (by first | rfl | (show Value.bool _ = _; rw [hb63])) ?_
                     refine wp_skip ?_
                     exact ⟨(),_,rfl,⟨rfl,rfl,rfl,trivial⟩,⟨hE52,hF53,hF54,(by (have hp9 := hpl.symm; clear hpl; unfold wfN inB; first | (simp [*]; done) | (simp [*]; omega) | (simp [*] <;> intros <;> omega) | (simp_all <;> omega)))⟩⟩
                    ·
                     refine c_cond_t (by first | rfl | (show Value.bool _ = _; rw [hb63])) ?_
                     refine wp_seq ?_
                     refine wp_plain _ [0] rfl ?_
                     refine q_assign (.bool false) rfl zN ?_
                     refine lw_nil ?_
                     refine wp_ret ?_
                     refine b_ret ?_
                     refine t_ret ?_
                     exact post_ret [6] rfl (.bool false) rfl ⟨(by first | exact ret_bool (wf_good hwn fun j hj => hall j (by omega)) | exact ret_bool (wf_kid (k := k) (by omega) (by first | (rw [if_pos (by omega)]) | (rw [if_neg (by omega)])) (not_t ‹_›)) | exact wf_ret (by first | exact .inr rfl | (left; omega) | (left; simp_all <;> omega)) (by (have hp9 := hpl.symm; clear hpl; unfold wfN inB; first | (simp [*]; done) | (simp [*]; omega) | (simp [*] <;> intros <;> omega) | (simp_all <;> omega)))),hE52⟩
                  ·
                   refine q_eql false rfl rfl (decide_eq_false hc60) (zS (e := 134) rfl rfl rfl) ?_
                   refine q_move (.bool false) rfl (zS (e := 134) rfl rfl rfl) ?_
                   refine lw_skip (e := 138) (c := false) rfl rfl rfl rfl ?_
                   refine lw_skip (e := 138) (c := false) rfl rfl rfl rfl ?_
                   refine lw_skip (e := 138) (c := false) rfl rfl rfl rfl ?_
                   refine lw_skip (e := 138) (c := false) rfl rfl rfl rfl ?_
                   refine lw_skip (e := 138) (c := false) rfl rfl rfl rfl ?_
                   refine lw_skip (e := 138) (c := false) rfl rfl rfl rfl ?_
                   refine lw_skip (e := 138) (c := false) rfl rfl rfl rfl ?_
                   refine lw_skipU (e := 145) rfl rfl rfl ?_
                   refine lw_skipU (e := 145) rfl rfl rfl ?_
                   refine lw_skipU (e := 145) rfl rfl rfl ?_
                   refine lw_skipU (e := 145) rfl rfl rfl ?_
                   refine lw_skip (e := 138) (c := false) rfl rfl rfl rfl ?_
                   refine q_pick false (.bool false) rfl rfl (zS (e := 134) rfl rfl rfl) ?_
                   refine q_pick false (.bool false) rfl rfl zN ?_
                   refine lw_nil ?_
                   refine c_cond_f rfl ?_
                   refine wp_skip ?_
                   exact ⟨(),_,rfl,⟨rfl,rfl,rfl,trivial⟩,⟨hE52,hF53,hF54,(by (have hp9 := hpl.symm; clear hpl; unfold wfN inB; first | (simp [*]; done) | (simp [*]; omega) | (simp [*] <;> intros <;> omega) | (simp_all <;> omega)))⟩⟩
                ·
                 refine q_eql false rfl rfl (decide_eq_false hc58) zN ?_
                 refine q_move (.bool false) rfl zN ?_
                 refine lw_skip (e := 129) (c := false) rfl rfl rfl rfl ?_
                 refine lw_skip (e := 129) (c := false) rfl rfl rfl rfl ?_
                 refine lw_skip (e := 129) (c := false) rfl rfl rfl rfl ?_
                 refine q_pick false (.bool false) rfl rfl zN ?_
                 refine q_move (.bool false) rfl zN ?_
                 refine q_fldP (p := (.pointer (some ⟨w1.heap.size,0,none⟩))) (b := w1.heap.size) (o := 0) 0 fd94_0 rfl rfl (zS (e := 134) rfl rfl rfl) ?_
                 refine q_load (p := (padd (.pointer (some ⟨w1.heap.size,0,none⟩)) 0)) (.inr rfl) (.int .i64 ex.kind) one2 rfl (hF54.ldp (i := 0) (by simp)) (zS (e := 134) rfl rfl rfl) ?_
                 by_cases hc64 : ex.kind = ((11 :Nat):Int)
                 ·
                  refine q_eql true rfl rfl (decide_eq_true hc64) (zS (e := 134) rfl rfl rfl) ?_
                  refine q_move (.bool true) rfl (zS (e := 134) rfl rfl rfl) ?_
                  refine q_fldP (p := (.pointer (some ⟨w4.heap.size,0,none⟩))) (b := w4.heap.size) (o := 0) 2 fd80_2 rfl rfl (zS (e := 138) rfl rfl rfl) ?_
                  refine q_load (p := (padd (.pointer (some ⟨w4.heap.size,0,none⟩)) 2)) (.inr rfl) ve48 one78 rfl (hB52.ldp (i := 2) (by simp)) (zS (e := 138) rfl rfl rfl) ?_
                  refine q_len (v := ve48) u78 rfl hx48.rn.isSl (zS (e := 138) rfl rfl rfl) ?_
                  refine q_fldP (p := (.pointer (some ⟨w4.heap.size,0,none⟩))) (b := w4.heap.size) (o := 0) 1 fd80_1 rfl rfl (zS (e := 138) rfl rfl rfl) ?_
                  refine q_load (p := (padd (.pointer (some ⟨w4.heap.size,0,none⟩)) 1)) (.inr rfl) (.int .i64 ((p.getD ((ex.num).toNat) Fn.zero).params)) one2 rfl (hB52.ldp (i := 1) (by simp)) (zS (e := 138) rfl rfl rfl) ?_
                  by_cases hc65 : ((((p.getD ((ex.num).toNat) Fn.zero).outs).length :Nat):Int) ≠ (p.getD ((ex.num).toNat) Fn.zero).params
                  ·
                   refine q_neq true rfl rfl (decide_eq_true hc65) (zS (e := 138) rfl rfl rfl) ?_
                   refine q_move (.bool true) rfl (zS (e := 138) rfl rfl rfl) ?_
                   refine lw_skip (e := 145) (c := true) rfl rfl rfl rfl ?_
                   refine lw_skip (e := 145) (c := true) rfl rfl rfl rfl ?_
                   refine lw_skip (e := 145) (c := true) rfl rfl rfl rfl ?_
                   refine lw_skip (e := 145) (c := true) rfl rfl rfl rfl ?_
                   refine q_pick true (.bool true) rfl rfl (zS (e := 138) rfl rfl rfl) ?_
                   refine q_pick true (.bool true) rfl rfl (zS (e := 134) rfl rfl rfl) ?_
                   refine q_pick false (.bool true) rfl rfl zN ?_
                   refine lw_nil ?_
                   refine c_cond_t rfl ?_
                   refine wp_seq ?_
                   refine wp_plain _ [0] rfl ?_
                   refine q_assign (.bool false) rfl zN ?_
                   refine lw_nil ?_
                   refine wp_ret ?_
                   refine b_ret ?_
                   refine t_ret ?_
                   exact post_ret [6] rfl (.bool false) rfl ⟨(by first | exact ret_bool (wf_good hwn fun j hj => hall j (by omega)) | exact ret_bool (wf_kid (k := k) (by omega) (by first | (rw [if_pos (by omega)]) | (rw [if_neg (by omega)])) (not_t ‹_›)) | exact wf_ret (by first | exact .inr rfl | (left; omega) | (left; simp_all <;> omega)) (by (have hp9 := hpl.symm; clear hpl; unfold wfN inB; first | (simp [*]; done) | (simp [*]; omega) | (simp [*] <;> intros <;> omega) | (simp_all <;> omega)))),hE52⟩
                  ·
                   refine q_neq false rfl rfl (decide_eq_false hc65) (zS (e := 138) rfl rfl rfl) ?_
                   refine q_move (.bool false) rfl (zS (e := 138) rfl rfl rfl) ?_
                   refine q_fldP (p := (.pointer (some ⟨w1.heap.size,0,none⟩))) (b := w1.heap.size) (o := 0) 3 fd94_3 rfl rfl (zS (e := 145) rfl rfl rfl) ?_
                   refine q_load (p := (padd (.pointer (some ⟨w1.heap.size,0,none⟩)) 3)) (.inr rfl) (.int .i64 ex.count) one2 rfl (hF54.ldp (i := 3) (by simp)) (zS (e := 145) rfl rfl rfl) ?_
                   refine lw_callq 68 [] [] [(.int .i64 ex.count),(.int .i64 ((0 :Nat):Int)),(.int .i64 ((8 :Nat):Int))] rfl rfl cf68 (zS (e := 145) rfl rfl rfl) (.bool (decide (((0 :Nat):Int) ≤ ex.count) && decide (ex.count ≤ ((8 :Nat):Int)))) (fun wq => c_impl_within wq _ _ _ hex.rng.count (by omega) (by omega)) ?_
                   refine q_not (!(decide (((0 :Nat):Int) ≤ ex.count) && decide (ex.count ≤ ((8 :Nat):Int)))) rfl rfl (zS (e := 145) rfl rfl rfl) ?_
                   refine q_pick false (.bool (!(decide (((0 :Nat):Int) ≤ ex.count) && decide (ex.count ≤ ((8 :Nat):Int))))) rfl rfl (zS (e := 138) rfl rfl rfl) ?_
                   refine q_pick true (.bool (!(decide (((0 :Nat):Int) ≤ ex.count) && decide (ex.count ≤ ((8 :Nat):Int))))) rfl rfl (zS (e := 134) rfl rfl rfl) ?_
                   refine q_pick false (.bool (!(decide (((0 :Nat):Int) ≤ ex.count) && decide (ex.count ≤ ((8 :Nat):Int))))) rfl rfl zN ?_
                   refine lw_nil ?_
                   cases hb67 : (!(decide (((0 :Nat):Int) ≤ ex.count) && decide (ex.count ≤ ((8 :Nat):Int))))
                   ·
                    refine c_cond_f (by first | rfl | (show Value.bool _ = _; rw [hb67])) ?_
                    refine wp_skip ?_
                    exact ⟨(),_,rfl,⟨rfl,rfl,rfl,trivial⟩,⟨hE52,hF53,hF54,(by (have hp9 := hpl.symm; clear hpl; unfold wfN inB; first | (simp [*]; done) | (simp [*]; omega) | (simp [*] <;> intros <;> omega) | (simp_all <;> omega)))⟩⟩
                   ·
                    refine c_cond_t (by first | rfl | (show Value.bool _ = _; rw [hb67])) ?_
                    refine wp_seq ?_
                    refine wp_plain _ [0] rfl ?_
                    refine q_assign (.bool false) rfl zN ?_
                    refine lw_nil ?_
                    refine wp_ret ?_
                    refine b_ret ?_
                    refine t_ret ?_
                    exact post_ret [6] rfl (.bool false) rfl ⟨(by first | exact ret_bool (wf_good hwn fun j hj => hall j (by omega)) | exact ret_bool (wf_kid (k := k) (by omega) (by first | (rw [if_pos (by omega)]) | (rw [if_neg (by omega)])) (not_t ‹_›)) | exact wf_ret (by first | exact .inr rfl | (left; omega) | (left; simp_all <;> omega)) (by (have hp9 := hpl.symm; clear hpl; unfold wfN inB; first | (simp [*]; done) | (simp [*]; omega) | (simp [*] <;> intros <;> omega) | (simp_all <;> omega)))),hE52⟩
                 ·
                  refine q_eql false rfl rfl (decide_eq_false hc64) (zS (e := 134) rfl rfl rfl) ?_
                  refine q_move (.bool false) rfl (zS (e := 134) rfl rfl rfl) ?_
                  refine lw_skip (e := 138) (c := false) rfl rfl rfl rfl ?_
                  refine lw_skip (e := 138) (c := false) rfl rfl rfl rfl ?_
                  refine lw_skip (e := 138) (c := false) rfl rfl rfl rfl ?_
                  refine lw_skip (e := 138) (c := false) rfl rfl rfl rfl ?_
                  refine lw_skip (e := 138) (c := false) rfl rfl rfl rfl ?_
                  refine lw_skip (e := 138) (c := false) rfl rfl rfl rfl ?_
                  refine lw_skip (e := 138) (c := false) rfl rfl rfl rfl ?_
                  refine lw_skipU (e := 145) rfl rfl rfl ?_
                  refine lw_skipU (e := 145) rfl rfl rfl ?_
                  refine lw_skipU (e := 145) rfl rfl rfl ?_
                  refine lw_skipU (e := 145) rfl rfl rfl ?_
                  refine lw_skip (e := 138) (c := false) rfl rfl rfl rfl ?_
                  refine q_pick false (.bool false) rfl rfl (zS (e := 134) rfl rfl rfl) ?_
                  refine q_pick false (.bool false) rfl rfl zN ?_
                  refine lw_nil ?_
                  refine c_cond_f rfl ?_
                  refine wp_skip ?_
                  exact ⟨(),_,rfl,⟨rfl,rfl,rfl,trivial⟩,⟨hE52,hF53,hF54,(by (have hp9 := hpl.symm; clear hpl; unfold wfN inB; first | (simp [*]; done) | (simp [*]; omega) | (simp [*] <;> intros <;> omega) | (simp_all <;> omega)))⟩⟩
               ·
                refine c_cond_t (by first | rfl | (show Value.bool _ = _; rw [hb57])) ?_
                refine wp_seq ?_
                refine wp_plain _ [0] rfl ?_
                refine q_assign (.bool false) rfl zN ?_
                refine lw_nil ?_
                refine wp_ret ?_
                refine t_ret ?_
                refine b_ret ?_
                refine t_ret ?_
                exact post_ret [6] rfl (.bool false) rfl ⟨(by first | exact ret_bool (wf_good hwn fun j hj => hall j (by omega)) | exact ret_bool (wf_kid (k := k) (by omega) (by first | (rw [if_pos (by omega)]) | (rw [if_neg (by omega)])) (not_t ‹_›)) | exact wf_ret (by first | exact .inr rfl | (left; omega) | (left; simp_all <;> omega)) (by (have hp9 := hpl.symm; clear hpl; unfold wfN inB; first | (simp [*]; done) | (simp [*]; omega) | (simp [*] <;> intros <;> omega) | (simp_all <;> omega)))),hE52⟩
             ·
              refine c_cond_t (by first | rfl | (show Value.bool _ = _; rw [hb47])) ?_
              refine wp_seq ?_
              refine wp_plain _ [0] rfl ?_
              refine q_assign (.bool false) rfl zN ?_
              refine lw_nil ?_
              refine wp_ret ?_
              refine t_ret ?_
              refine b_ret ?_
              refine t_ret ?_
              exact post_ret [6] rfl (.bool false) rfl ⟨(by first | exact ret_bool (wf_good hwn fun j hj => hall j (by omega)) | exact ret_bool (wf_kid (k := k) (by omega) (by first | (rw [if_pos (by omega)]) | (rw [if_neg (by omega)])) (not_t ‹_›)) | exact wf_ret (by first | exact .inr rfl | (left; omega) | (left; simp_all <;> omega)) (by (have hp9 := hpl.symm; clear hpl; unfold wfN inB; first | (simp [*]; done) | (simp [*]; omega) | (simp [*] <;> intros <;> omega) | (simp_all <;> omega)))),hE4⟩
            ·
             refine q_eql false rfl rfl (decide_eq_false hc45) zN ?_
             refine q_assign (.bool false) rfl zN ?_
             refine lw_nil ?_
             refine c_cond_f rfl ?_
             refine wp_plain _ [0,0] rfl ?_
             by_cases hc68 : ex.kind = ((11 :Nat):Int)
             ·
              refine q_eql true rfl rfl (decide_eq_true hc68) zN ?_
              refine q_assign (.bool true) rfl zN ?_
              refine lw_nil ?_
              refine c_cond_t rfl ?_
              refine wp_seq ?_
              refine wp_seq ?_
              refine wp_plain _ [0,2,0,2,0,0,0] rfl ?_
              refine q_fldP (p := (.pointer (some ⟨w1.heap.size,0,none⟩))) (b := w1.heap.size) (o := 0) 1 fd94_1 rfl rfl zN ?_
              refine q_load (p := (padd (.pointer (some ⟨w1.heap.size,0,none⟩)) 1)) (.inr rfl) (.int .i64 ex.num) one2 rfl (hL4_1.ldp (i := 1) (by simp)) zN ?_
              refine q_fldP (p := (.pointer (some ⟨w.heap.size,0,none⟩))) (b := w.heap.size) (o := 0) 1 fd166_1 rfl rfl zN ?_
              refine q_load (p := (padd (.pointer (some ⟨w.heap.size,0,none⟩)) 1)) (.inr rfl) (.int .i64 funcs) one2 rfl (hL4_0.ldp (i := 1) (by simp)) zN ?_
              refine q_sub (funcs - 1) rfl rfl (w64 (by omega) (by omega)) zN ?_
              refine lw_callq 68 [] [] [(.int .i64 ex.num),(.int .i64 ((0 :Nat):Int)),(.int .i64 (funcs - 1))] rfl rfl cf68 zN (.bool (decide (((0 :Nat):Int) ≤ ex.num) && decide (ex.num ≤ (funcs - 1)))) (fun wq => c_impl_within wq _ _ _ hex.rng.num (by omega) (by omega)) ?_
              refine q_not (!(decide (((0 :Nat):Int) ≤ ex.num) && decide (ex.num ≤ (funcs - 1)))) rfl rfl zN ?_
              refine lw_nil ?_
              cases hb70 : (!(decide (((0 :Nat):Int) ≤ ex.num) && decide (ex.num ≤ (funcs - 1))))
              ·
               refine c_cond_f (by first | rfl | (show Value.bool _ = _; rw [hb70])) ?_
               refine wp_skip ?_
               refine wp_seq ?_
               refine wp_plain _ [0,0,2,0,2,0,2,3,4] rfl ?_
               have hnr : 0 ≤ ex.num ∧ ex.num ≤ funcs - 1 := by have h9 := ‹(!(decide (((0 :Nat):Int) ≤ ex.num) && decide (ex.num ≤ funcs - 1))) = false›; simpa using h9
               refine q_fldP (p := (.pointer (some ⟨w.heap.size,0,none⟩))) (b := w.heap.size) (o := 0) 0 fd166_0 rfl rfl zN ?_
               refine q_fldP (p := (padd (.pointer (some ⟨w.heap.size,0,none⟩)) 0)) (b := w.heap.size) (o := 0) 0 fd32_0 rfl rfl zN ?_
               refine q_load (p := (padd (padd (.pointer (some ⟨w.heap.size,0,none⟩)) 0) 0)) (.inr rfl) vp one30 rfl (hL4_0.ldp (i := 0) (by simp)) zN ?_
               refine q_fldP (p := (.pointer (some ⟨w1.heap.size,0,none⟩))) (b := w1.heap.size) (o := 0) 1 fd94_1 rfl rfl zN ?_
               refine q_load (p := (padd (.pointer (some ⟨w1.heap.size,0,none⟩)) 1)) (.inr rfl) (.int .i64 ex.num) one2 rfl (hL4_1.ldp (i := 1) (by simp)) zN ?_
               refine q_idx (v := vp) ((ex.num).toNat) u30 tiS80 rfl rfl hp.isSl (by omega) (by first | omega | assumption | (simp; done) | (simp; omega)) zN ?_
               obtain ⟨cs71,hr71,hl71⟩ := hp.get (good_rFn dp) Fn.zero (k := ((ex.num).toNat)) (by first | omega | assumption | (simp; done) | (simp; omega))
               obtain ⟨ve71,rfl,hx71⟩ := RF.of hr71
               have hln71 := hx71.rn.lenle
               unfold maxLen at hln71
               refine q_loadA (p := eptr vp ((ex.num).toNat) 3) (.inr rfl) [(.string ((p.getD ((ex.num).toNat) Fn.zero).name)),(.int .i64 ((p.getD ((ex.num).toNat) Fn.zero).params)),ve71] agg80 rfl (fun w9 hw9 => hl71 w9 (Chg.of_ext [] (hE4.trans hw9))) rfl zN ?_
               have hq73 := hL4_0.lt
               have hq74 := hL4_1.lt
               refine r_allocA (z := .agg #[.string ByteArray.empty,.int .i64 0,.slice none 0 0]) zr80 zN ?_
               intro w72 hX72 hz72 hB72
               have hzs72:=hX72.size
               have hE72:=hE4.trans hX72
               have hL4_0x72 := hL4_0.ext hX72
               have hL4_1x72 := hL4_1.ext hX72
               replace hB72 : BX w72.heap w4.heap.size [(.string ByteArray.empty),(.int .i64 0),(.slice none 0 0)] := hB72
               refine e_setA (vs := [(.string ((p.getD ((ex.num).toNat) Fn.zero).name)),(.int .i64 ((p.getD ((ex.num).toNat) Fn.zero).params)),ve71]) agg80 rfl rfl hx71.ones hB72 rfl rfl zN ?_
               intro w75 hC75 hz75 hB75
               replace hB75 : BX w75.heap w4.heap.size [(.string ((p.getD ((ex.num).toNat) Fn.zero).name)),(.int .i64 ((p.getD ((ex.num).toNat) Fn.zero).params)),ve71] := hB75
               have hE75 : Ext w w75 := hC75.below hE72 (fun c hc => by have := List.mem_singleton.1 hc; omega) hE72.size
               have hzs75:=hC75.size
               have hF76 := hL4_0x72.chg hC75 (fun hm => by have := List.mem_singleton.1 hm; omega)
               have hF77 := hL4_1x72.chg hC75 (fun hm => by have := List.mem_singleton.1 hm; omega)
               refine lw_nil ?_
               refine wp_seq ?_
               refine wp_seq ?_
               refine wp_plain _ [0,0,2,0,0,0,2,0,2,0,0,0,0,0] rfl ?_
               refine q_move (.int .i64 ((ex.kids.length :Nat):Int)) rfl zN ?_
               refine q_fldP (p := (.pointer (some ⟨w4.heap.size,0,none⟩))) (b := w4.heap.size) (o := 0) 1 fd80_1 rfl rfl zN ?_
               refine q_load (p := (padd (.pointer (some ⟨w4.heap.size,0,none⟩)) 1)) (.inr rfl) (.int .i64 ((p.getD ((ex.num).toNat) Fn.zero).params)) one2 rfl (hB75.ldp (i := 1) (by simp)) zN ?_
               by_cases hc78 : ((ex.kids.length :Nat):Int) ≠ (p.getD ((ex.num).toNat) Fn.zero).params
               ·
                refine q_neq true rfl rfl (decide_eq_true hc78) zN ?_
                refine q_move (.bool true) rfl zN ?_
                refine lw_skip (e := 116) (c := true) rfl rfl rfl rfl ?_
                refine lw_skip (e := 116) (c := true) rfl rfl rfl rfl ?_
                refine lw_skip (e := 116) (c := true) rfl rfl rfl rfl ?_
                refine lw_skip (e := 116) (c := true) rfl rfl rfl rfl ?_
                refine lw_skip (e := 116) (c := true) rfl rfl rfl rfl ?_
                refine lw_skip (e := 116) (c := true) rfl rfl rfl rfl ?_
                refine lw_skip (e := 116) (c := true) rfl rfl rfl rfl ?_
                refine lw_skip (e := 116) (c := true) rfl rfl rfl rfl ?_
                refine q_pick true (.bool true) rfl rfl zN ?_
                refine lw_nil ?_
                refine c_cond_t rfl ?_
                refine wp_seq ?_
                refine wp_plain _ [0] rfl ?_
                refine q_assign (.bool false) rfl zN ?_
                refine lw_nil ?_
                refine wp_ret ?_
                refine t_ret ?_
                refine b_ret ?_
                refine t_ret ?_
                exact post_ret [6] rfl (.bool false) rfl ⟨(by first | exact ret_bool (wf_good hwn fun j hj => hall j (by omega)) | exact ret_bool (wf_kid (k := k) (by omega) (by first | (rw [if_pos (by omega)]) | (rw [if_neg (by omega)])) (not_t ‹_›)) | exact wf_ret (by first | exact .inr rfl | (left; omega) | (left; simp_all <;> omega)) (by (have hp9 := hpl.symm; clear hpl; unfold wfN inB; first | (simp [*]; done) | (simp [*]; omega) | (simp [*] <;> intros <;> omega) | (simp_all <;> omega)))),hE75⟩
               ·
                refine q_neq false rfl rfl (decide_eq_false hc78) zN ?_
                refine q_move (.bool false) rfl zN ?_
                refine q_fldP (p := (.pointer (some ⟨w1.heap.size,0,none⟩))) (b := w1.heap.size) (o := 0) 2 fd94_2 rfl rfl (zS (e := 116) rfl rfl rfl) ?_
                refine q_load (p := (padd (.pointer (some ⟨w1.heap.size,0,none⟩)) 2)) (.inr rfl) (.int .i64 ex.pick) one2 rfl (hF77.ldp (i := 2) (by simp)) (zS (e := 116) rfl rfl rfl) ?_
                refine q_fldP (p := (.pointer (some ⟨w4.heap.size,0,none⟩))) (b := w4.heap.size) (o := 0) 2 fd80_2 rfl rfl (zS (e := 116) rfl rfl rfl) ?_
                refine q_load (p := (padd (.pointer (some ⟨w4.heap.size,0,none⟩)) 2)) (.inr rfl) ve71 one78 rfl (hB75.ldp (i := 2) (by simp)) (zS (e := 116) rfl rfl rfl) ?_
                refine q_len (v := ve71) u78 rfl hx71.rn.isSl (zS (e := 116) rfl rfl rfl) ?_
                refine q_sub (((p.getD (ex.num).toNat Fn.zero).outs.length : Int) - 1) rfl rfl (w64 (by omega) (by omega)) (zS (e := 116) rfl rfl rfl) ?_
                refine lw_callq 68 [] [] [(.int .i64 ex.pick),(.int .i64 ((0 :Nat):Int)),(.int .i64 (((p.getD (ex.num).toNat Fn.zero).outs.length : Int) - 1))] rfl rfl cf68 (zS (e := 116) rfl rfl rfl) (.bool (decide (((0 :Nat):Int) ≤ ex.pick) && decide (ex.pick ≤ (((p.getD (ex.num).toNat Fn.zero).outs.length : Int) - 1)))) (fun wq => c_impl_within wq _ _ _ hex.rng.pick (by omega) (by omega)) ?_
                refine q_not (!(decide (((0 :Nat):Int) ≤ ex.pick) && decide (ex.pick ≤ (((p.getD (ex.num).toNat Fn.zero).outs.length : Int) - 1)))) rfl rfl (zS (e := 116) rfl rfl rfl) ?_
                refine q_pick false (.bool (!(decide (((0 :Nat):Int) ≤ ex.pick) && decide (ex.pick ≤ (((p.getD (ex.num).toNat Fn.zero).outs.length : Int) - 1))))) rfl rfl zN ?_
                refine lw_nil ?_
                cases hb80 : (!(decide (((0 :Nat):Int) ≤ ex.pick) && decide (ex.pick ≤ (((p.getD (ex.num).toNat Fn.zero).outs.length : Int) - 1))))
                ·
                 refine c_cond_f (by first | rfl | (show Value.bool _ = _; rw [hb80])) ?_
                 refine wp_skip ?_
                 refine wp_seq ?_
                 refine wp_plain _ [0,2,0,0,0,2,0,0,0,0,2,0,0,0,2,0,0,2,0,0,0,2,0,0,0,0,0] rfl ?_
                 refine q_fldP (p := (.pointer (some ⟨w1.heap.size,0,none⟩))) (b := w1.heap.size) (o := 0) 0 fd94_0 rfl rfl zN ?_
                 refine q_load (p := (padd (.pointer (some ⟨w1.heap.size,0,none⟩)) 0)) (.inr rfl) (.int .i64 ex.kind) one2 rfl (hF77.ldp (i := 0) (by simp)) zN ?_
                 by_cases hc81 : ex.kind = ((10 :Nat):Int)
                 ·
                  refine q_eql true rfl rfl (decide_eq_true hc81) zN ?_
                  refine q_move (.bool true) rfl zN ?_
                  refine q_fldP (p := (.pointer (some ⟨w1.heap.size,0,none⟩))) (b := w1.heap.size) (o := 0) 3 fd94_3 rfl rfl (zS (e := 129) rfl rfl rfl) ?_
                  refine q_load (p := (padd (.pointer (some ⟨w1.heap.size,0,none⟩)) 3)) (.inr rfl) (.int .i64 ex.count) one2 rfl (hF77.ldp (i := 3) (by simp)) (zS (e := 129) rfl rfl rfl) ?_
                  by_cases hc82 : ex.count ≠ ((0 :Nat):Int)
                  ·
                   refine q_neq true rfl rfl (decide_eq_true hc82) (zS (e := 129) rfl rfl rfl) ?_
                   refine q_pick true (.bool true) rfl rfl zN ?_
                   refine q_move (.bool true) rfl zN ?_
                   refine lw_skip (e := 134) (c := true) rfl rfl rfl rfl ?_
                   refine lw_skip (e := 134) (c := true) rfl rfl rfl rfl ?_
                   refine lw_skip (e := 134) (c := true) rfl rfl rfl rfl ?_
                   refine lw_skip (e := 134) (c := true) rfl rfl rfl rfl ?_
                   refine lw_skipU (e := 138) rfl rfl rfl ?_
                   refine lw_skipU (e := 138) rfl rfl rfl ?_
                   refine lw_skipU (e := 138) rfl rfl rfl ?_
                   refine lw_skipU (e := 138) rfl rfl rfl ?_
                   refine lw_skipU (e := 138) rfl rfl rfl ?_
                   refine lw_skipU (e := 138) rfl rfl rfl ?_
                   refine lw_skipU (e := 138) rfl rfl rfl ?_
                   refine lw_skipU (e := 145) rfl rfl rfl ?_
                   refine lw_skipU (e := 145) rfl rfl rfl ?_
                   refine lw_skipU (e := 145) rfl rfl rfl ?_
                   refine lw_skipU (e := 145) rfl rfl rfl ?_
                   refine lw_skipU (e := 138) rfl rfl rfl ?_
                   refine lw_skip (e := 134) (c := true) rfl rfl rfl rfl ?_
                   refine q_pick true (.bool true) rfl rfl zN ?_
                   refine lw_nil ?_
                   refine c_cond_t rfl ?_
                   refine wp_seq ?_
                   refine wp_plain _ [0] rfl ?_
                   refine q_assign (.bool false) rfl zN ?_
                   refine lw_nil ?_
                   refine wp_ret ?_
                   refine b_ret ?_
                   refine t_ret ?_
                   exact post_ret [6] rfl (.bool false) rfl ⟨(by first | exact ret_bool (wf_good hwn fun j hj => hall j (by omega)) | exact ret_bool (wf_kid (k := k) (by omega) (by first | (rw [if_pos (by omega)]) | (rw [if_neg (by omega)])) (not_t ‹_›)) | exact wf_ret (by first | exact .inr rfl | (left; omega) | (left; simp_all <;> omega)) (by (have hp9 := hpl.symm; clear hpl; unfold wfN inB; first | (simp [*]; done) | (simp [*]; omega) | (simp [*] <;> intros <;> omega) | (simp_all <;> omega)))),hE75⟩
                  ·
                   refine q_neq false rfl rfl (decide_eq_false hc82) (zS (e := 129) rfl rfl rfl) ?_
                   refine q_pick true (.bool false) rfl rfl zN ?_
                   refine q_move (.bool false) rfl zN ?_
                   refine q_fldP (p := (.pointer (some ⟨w1.heap.size,0,none⟩))) (b := w1.heap.size) (o := 0) 0 fd94_0 rfl rfl (zS (e := 134) rfl rfl rfl) ?_
                   refine q_load (p := (padd (.pointer (some ⟨w1.heap.size,0,none⟩)) 0)) (.inr rfl) (.int .i64 ex.kind) one2 rfl (hF77.ldp (i := 0) (by simp)) (zS (e := 134) rfl rfl rfl) ?_
                   by_cases hc83 : ex.kind = ((11 :Nat):Int)
                   ·
                    refine q_eql true rfl rfl (decide_eq_true hc83) (zS (e := 134) rfl rfl rfl) ?_
                    refine q_move (.bool true) rfl (zS (e := 134) rfl rfl rfl) ?_
                    refine q_fldP (p := (.pointer (some ⟨w4.heap.size,0,none⟩))) (b := w4.heap.size) (o := 0) 2 fd80_2 rfl rfl (zS (e := 138) rfl rfl rfl) ?_
                    refine q_load (p := (padd (.pointer (some ⟨w4.heap.size,0,none⟩)) 2)) (.inr rfl) ve71 one78 rfl (hB75.ldp (i := 2) (by simp)) (zS (e := 138) rfl rfl rfl) ?_
                    refine q_len (v := ve71) u78 rfl hx71.rn.isSl (zS (e := 138) rfl rfl rfl) ?_
                    refine q_fldP (p := (.pointer (some ⟨w4.heap.size,0,none⟩))) (b := w4.heap.size) (o := 0) 1 fd80_1 rfl rfl (zS (e := 138) rfl rfl rfl) ?_
                    refine q_load (p := (padd (.pointer (some ⟨w4.heap.size,0,none⟩)) 1)) (.inr rfl) (.int .i64 ((p.getD ((ex.num).toNat) Fn.zero).params)) one2 rfl (hB75.ldp (i := 1) (by simp)) (zS (e := 138) rfl rfl rfl) ?_
                    by_cases hc84 : ((((p.getD ((ex.num).toNat) Fn.zero).outs).length :Nat):Int) ≠ (p.getD ((ex.num).toNat) Fn.zero).params
                    ·
                     refine q_neq true rfl rfl (decide_eq_true hc84) (zS (e := 138) rfl rfl rfl) ?_
                     refine q_move (.bool true) rfl (zS (e := 138) rfl rfl rfl) ?_
                     refine lw_skip (e := 145) (c := true) rfl rfl rfl rfl ?_
                     refine lw_skip (e := 145) (c := true) rfl rfl rfl rfl ?_
                     refine lw_skip (e := 145) (c := true) rfl rfl rfl rfl ?_
                     refine lw_skip (e := 145) (c := true) rfl rfl rfl rfl ?_
                     refine q_pick true (.bool true) rfl rfl (zS (e := 138) rfl rfl rfl) ?_
                     refine q_pick true (.bool true) rfl rfl (zS (e := 134) rfl rfl rfl) ?_
                     refine q_pick false (.bool true) rfl rfl zN ?_
                     refine lw_nil ?_
                     refine c_cond_t rfl ?_
                     refine wp_seq ?_
                     refine wp_plain _ [0] rfl ?_
                     refine q_assign (.bool false) rfl zN ?_
                     refine lw_nil ?_
                     refine wp_ret ?_
                     refine b_ret ?_
                     refine t_ret ?_
                     exact post_ret [6] rfl (.bool false) rfl ⟨(by first | exact ret_bool (wf_good hwn fun j hj => hall j (by omega)) | exact ret_bool (wf_kid (k := k) (by omega) (by first | (rw [if_pos (by omega)]) | (rw [if_neg (by omega)])) (not_t ‹_›)) | exact wf_ret (by first | exact .inr rfl | (left; omega) | (left; simp_all <;> omega)) (by (have hp9 := hpl.symm; clear hpl; unfold wfN inB; first | (simp [*]; done) | (simp [*]; omega) | (simp [*] <;> intros <;> omega) | (simp_all <;> omega)))),hE75⟩
                    ·
                     refine q_neq false rfl rfl (decide_eq_false hc84) (zS (e := 138) rfl rfl rfl) ?_
                     refine q_move (.bool false) rfl (zS (e := 138) rfl rfl rfl) ?_
                     refine q_fldP (p := (.pointer (some ⟨w1.heap.size,0,none⟩))) (b := w1.heap.size) (o := 0) 3 fd94_3 rfl rfl (zS (e := 145) rfl rfl rfl) ?_
                     refine q_load (p := (padd (.pointer (some ⟨w1.heap.size,0,none⟩)) 3)) (.inr rfl) (.int .i64 ex.count) one2 rfl (hF77.ldp (i := 3) (by simp)) (zS (e := 145) rfl rfl rfl) ?_
                     refine lw_callq 68 [] [] [(.int .i64 ex.count),(.int .i64 ((0 :Nat):Int)),(.int .i64 ((8 :Nat):Int))] rfl rfl cf68 (zS (e := 145) rfl rfl rfl) (.bool (decide (((0 :Nat):Int) ≤ ex.count) && decide (ex.count ≤ ((8 :Nat):Int)))) (fun wq => c_impl_within wq _ _ _ hex.rng.count (by omega) (by omega)) ?_
                     refine q_not (!(decide (((0 :Nat):Int) ≤ ex.count) && decide (ex.count ≤ ((8 :Nat):Int)))) rfl rfl (zS (e := 145) rfl rfl rfl) ?_
                     refine q_pick false (.bool (!(decide (((0 :Nat):Int) ≤ ex.count) && decide (ex.count ≤ ((8 :Nat):Int))))) rfl rfl (zS (e := 138) rfl rfl rfl) ?_
                     refine q_pick true (.bool (!(decide (((0 :Nat):Int) ≤ ex.count) && decide (ex.count ≤ ((8 :Nat):Int))))) rfl rfl (zS (e := 134) rfl rfl rfl) ?_
                     refine q_pick false (.bool (!(decide (((0 :Nat):Int) ≤ ex.count) && decide (ex.count ≤ ((8 :Nat):Int))))) rfl rfl zN ?_
                     refine lw_nil ?_
                     cases hb86 : (!(decide (((0 :Nat):Int) ≤ ex.count) && decide (ex.count ≤ ((8 :Nat):Int))))
                     ·
                      refine c_cond_f (by first | rfl | (show Value.bool _ = _; rw [hb86])) ?_
                      refine wp_skip ?_
                      exact ⟨(),_,rfl,⟨rfl,rfl,rfl,trivial⟩,⟨hE75,hF76,hF77,(by (have hp9 := hpl.symm; clear hpl; unfold wfN inB; first | (simp [*]; done) | (simp [*]; omega) | (simp [*] <;> intros <;> omega) | (simp_all <;> omega)))⟩⟩
                     ·
                      refine c_cond_t (by first | rfl | (show Value.bool _ = _; rw [hb86])) ?_
                      refine wp_seq ?_
                      refine wp_plain _ [0] rfl ?_
                      refine q_assign (.bool false) rfl zN ?_
                      refine lw_nil ?_
                      refine wp_ret ?_
                      refine b_ret ?_
                      refine t_ret ?_
                      exact post_ret [6] rfl (.bool false) rfl ⟨(by first | exact ret_bool (wf_good hwn fun j hj => hall j (by omega)) | exact ret_bool (wf_kid (k := k) (by omega) (by first | (rw [if_pos (by omega)]) | (rw [if_neg (by omega)])) (not_t ‹_›)) | exact wf_ret (by first | exact .inr rfl | (left; omega) | (left; simp_all <;> omega)) (by (have hp9 := hpl.symm; clear hpl; unfold wfN inB; first | (simp [*]; done) | (simp [*]; omega) | (simp [*] <;> intros <;> omega) | (simp_all <;> omega)))),hE75⟩
                   ·
                    refine q_eql false rfl rfl (decide_eq_false hc83) (zS (e := 134) rfl rfl rfl) ?_
                    refine q_move (.bool false) rfl (zS (e := 134) rfl rfl rfl) ?_
                    refine lw_skip (e := 138) (c := false) rfl rfl rfl rfl ?_
                    refine lw_skip (e := 138) (c := false) rfl rfl rfl rfl ?_
                    refine lw_skip (e := 138) (c := false) rfl rfl rfl rfl ?_
                    refine lw_skip (e := 138) (c := false) rfl rfl rfl rfl ?_
                    refine lw_skip (e := 138) (c := false) rfl rfl rfl rfl ?_
                    refine lw_skip (e := 138) (c := false) rfl rfl rfl rfl ?_
                    refine lw_skip (e := 138) (c := false) rfl rfl rfl rfl ?_
                    refine lw_skipU (e := 145) rfl rfl rfl ?_
                    refine lw_skipU (e := 145) rfl rfl rfl ?_
                    refine lw_skipU (e := 145) rfl rfl rfl ?_
                    refine lw_skipU (e := 145) rfl rfl rfl ?_
                    refine lw_skip (e := 138) (c := false) rfl rfl rfl rfl ?_
                    refine q_pick false (.bool false) rfl rfl (zS (e := 134) rfl rfl rfl) ?_
                    refine q_pick false (.bool false) rfl rfl zN ?_
                    refine lw_nil ?_
                    refine c_cond_f rfl ?_
                    refine wp_skip ?_
                    exact ⟨(),_,rfl,⟨rfl,rfl,rfl,trivial⟩,⟨hE75,hF76,hF77,(by (have hp9 := hpl.symm; clear hpl; unfold wfN inB; first | (simp [*]; done) | (simp [*]; omega) | (simp [*] <;> intros <;> omega) | (simp_all <;> omega)))⟩⟩
                 ·
                  refine q_eql false rfl rfl (decide_eq_false hc81) zN ?_
                  refine q_move (.bool false) rfl zN ?_
                  refine lw_skip (e := 129) (c := false) rfl rfl rfl rfl ?_
                  refine lw_skip (e := 129) (c := false) rfl rfl rfl rfl ?_
                  refine lw_skip (e := 129) (c := false) rfl rfl rfl rfl ?_
                  refine q_pick false (.bool false) rfl rfl zN ?_
                  refine q_move (.bool false) rfl zN ?_
                  refine q_fldP (p := (.pointer (some ⟨w1.heap.size,0,none⟩))) (b := w1.heap.size) (o := 0) 0 fd94_0 rfl rfl (zS (e := 134) rfl rfl rfl) ?_
                  refine q_load (p := (padd (.pointer (some ⟨w1.heap.size,0,none⟩)) 0)) (.inr rfl) (.int .i64 ex.kind) one2 rfl (hF77.ldp (i := 0) (by simp)) (zS (e := 134) rfl rfl rfl) ?_
                  by_cases hc87 : ex.kind = ((11 :Nat):Int)
                  ·
                   refine q_eql true rfl rfl (decide_eq_true hc87) (zS (e := 134) rfl rfl rfl) ?_
                   refine q_move (.bool true) rfl (zS (e := 134) rfl rfl rfl) ?_
                   refine q_fldP (p := (.pointer (some ⟨w4.heap.size,0,none⟩))) (b := w4.heap.size) (o := 0) 2 fd80_2 rfl rfl (zS (e := 138) rfl rfl rfl) ?_
                   refine q_load (p := (padd (.pointer (some ⟨w4.heap.size,0,none⟩)) 2)) (.inr rfl) ve71 one78 rfl (hB75.ldp (i := 2) (by simp)) (zS (e := 138) rfl rfl rfl) ?_
                   refine q_len (v := ve71) u78 rfl hx71.rn.isSl (zS (e := 138) rfl rfl rfl) ?_
                   refine q_fldP (p := (.pointer (some ⟨w4.heap.size,0,none⟩))) (b := w4.heap.size) (o := 0) 1 fd80_1 rfl rfl (zS (e := 138) rfl rfl rfl) ?_
                   refine q_load (p := (padd (.pointer (some ⟨w4.heap.size,0,none⟩)) 1)) (.inr rfl) (.int .i64 ((p.getD ((ex.num).toNat) Fn.zero).params)) one2 rfl (hB75.ldp (i := 1) (by simp)) (zS (e := 138) rfl rfl rfl) ?_
                   by_cases hc88 : ((((p.getD ((ex.num).toNat) Fn.zero).outs).length :Nat):Int) ≠ (p.getD ((ex.num).toNat) Fn.zero).params
                   ·
                    refine q_neq true rfl rfl (decide_eq_true hc88) (zS (e := 138) rfl rfl rfl) ?_
                    refine q_move (.bool true) rfl (zS (e := 138) rfl rfl rfl) ?_
                    refine lw_skip (e := 145) (c := true) rfl rfl rfl rfl ?_
                    refine lw_skip (e := 145) (c := true) rfl rfl rfl rfl ?_
                    refine lw_skip (e := 145) (c := true) rfl rfl rfl rfl ?_
                    refine lw_skip (e := 145) (c := true) rfl rfl rfl rfl ?_
                    refine q_pick true (.bool true) rfl rfl (zS (e := 138) rfl rfl rfl) ?_
                    refine q_pick true (.bool true) rfl rfl (zS (e := 134) rfl rfl rfl) ?_
                    refine q_pick false (.bool true) rfl rfl zN ?_
                    refine lw_nil ?_
                    refine c_cond_t rfl ?_
                    refine wp_seq ?_
                    refine wp_plain _ [0] rfl ?_
                    refine q_assign (.bool false) rfl zN ?_
                    refine lw_nil ?_
                    refine wp_ret ?_
                    refine b_ret ?_
                    refine t_ret ?_
                    exact post_ret [6] rfl (.bool false) rfl ⟨(by first | exact ret_bool (wf_good hwn fun j hj => hall j (by omega)) | exact ret_bool (wf_kid (k := k) (by omega) (by first | (rw [if_pos (by omega)]) | (rw [if_neg (by omega)])) (not_t ‹_›)) | exact wf_ret (by first | exact .inr rfl | (left; omega) | (left; simp_all <;> omega)) (by (have hp9 := hpl.symm; clear hpl; unfold wfN inB; first | (simp [*]; done) | (simp [*]; omega) | (simp [*] <;> intros <;> omega) | (simp_all <;> omega)))),hE75⟩
                   ·
                    refine q_neq false rfl rfl (decide_eq_false hc88) (zS (e := 138) rfl rfl rfl) ?_
                    refine q_move (.bool false) rfl (zS (e := 138) rfl rfl rfl) ?_
                    refine q_fldP (p := (.pointer (some ⟨w1.heap.size,0,none⟩))) (b := w1.heap.size) (o := 0) 3 fd94_3 rfl rfl (zS (e := 145) rfl rfl rfl) ?_
                    refine q_load (p := (padd (.pointer (some ⟨w1.heap.size,0,none⟩)) 3)) (.inr rfl) (.int .i64 ex.count) one2 rfl (hF77.ldp (i := 3) (by simp)) (zS (e := 145) rfl rfl rfl) ?_
                    refine lw_callq 68 [] [] [(.int .i64 ex.count),(.int .i64 ((0 :Nat):Int)),(.int .i64 ((8 :Nat):Int))] rfl rfl cf68 (zS (e := 145) rfl rfl rfl) (.bool (decide (((0 :Nat):Int) ≤ ex.count) && decide (ex.count ≤ ((8 :Nat):Int)))) (fun wq => c_impl_within wq _ _ _ hex.rng.count (by omega) (by omega)) ?_
                    refine q_not (!(decide (((0 :Nat):Int) ≤ ex.count) && decide (ex.count ≤ ((8 :Nat):Int)))) rfl rfl (zS (e := 145) rfl rfl rfl) ?_
                    refine q_pick false (.bool (!(decide (((0 :Nat):Int) ≤ ex.count) && decide (ex.count ≤ ((8 :Nat):Int))))) rfl rfl (zS (e := 138) rfl rfl rfl) ?_
                    refine q_pick true (.bool (!(decide (((0 :Nat):Int) ≤ ex.count) && decide (ex.count ≤ ((8 :Nat):Int))))) rfl rfl (zS (e := 134) rfl rfl rfl) ?_
                    refine q_pick false (.bool (!(decide (((0 :Nat):Int) ≤ ex.count) && decide (ex.count ≤ ((8 :Nat):Int))))) rfl rfl zN ?_
                    refine lw_nil ?_
                    cases hb90 : (!(decide (((0 :Nat):Int) ≤ ex.count) && decide (ex.count ≤ ((8 :Nat):Int))))
                    ·
                     refine c_cond_f (by first | rfl | (show Value.bool _ = _; rw [hb90])) ?_
                     refine wp_skip ?_
                     exact ⟨(),_,rfl,⟨rfl,rfl,rfl,trivial⟩,⟨hE75,hF76,hF77,(by (have hp9 := hpl.symm; clear hpl; unfold wfN inB; first | (simp [*]; done) | (simp [*]; omega) | (simp [*] <;> intros <;> omega) | (simp_all <;> omega)))⟩⟩
                    ·
                     refine c_cond_t (by first | rfl | (show Value.bool _ = _; rw [hb90])) ?_
                     refine wp_seq ?_
                     refine wp_plain _ [0] rfl ?_
                     refine q_assign (.bool false) rfl zN ?_
                     refine lw_nil ?_
                     refine wp_ret ?_
                     refine b_ret ?_
                     refine t_ret ?_
                     exact post_ret [6] rfl (.bool false) rfl ⟨(by first | exact ret_bool (wf_good hwn fun j hj => hall j (by omega)) | exact ret_bool (wf_kid (k := k) (by omega) (by first | (rw [if_pos (by omega)]) | (rw [if_neg (by omega)])) (not_t ‹_›)) | exact wf_ret (by first | exact .inr rfl | (left; omega) | (left; simp_all <;> omega)) (by (have hp9 := hpl.symm; clear hpl; unfold wfN inB; first | (simp [*]; done) | (simp [*]; omega) | (simp [*] <;> intros <;> omega) | (simp_all <;> omega)))),hE75⟩
                  ·
                   refine q_eql false rfl rfl (decide_eq_false hc87) (zS (e := 134) rfl rfl rfl) ?_
                   refine q_move (.bool false) rfl (zS (e := 134) rfl rfl rfl) ?_
                   refine lw_skip (e := 138) (c := false) rfl rfl rfl rfl ?_
                   refine lw_skip (e := 138) (c := false) rfl rfl rfl rfl ?_
                   refine lw_skip (e := 138) (c := false) rfl rfl rfl rfl ?_
                   refine lw_skip (e := 138) (c := false) rfl rfl rfl rfl ?_
                   refine lw_skip (e := 138) (c := false) rfl rfl rfl rfl ?_
                   refine lw_skip (e := 138) (c := false) rfl rfl rfl rfl ?_
                   refine lw_skip (e := 138) (c := false) rfl rfl rfl rfl ?_
                   refine lw_skipU (e := 145) rfl rfl rfl ?_
                   refine lw_skipU (e := 145) rfl rfl rfl ?_
                   refine lw_skipU (e := 145) rfl rfl rfl ?_
                   refine lw_skipU (e := 145) rfl rfl rfl ?_
                   refine lw_skip (e := 138) (c := false) rfl rfl rfl rfl ?_
                   refine q_pick false (.bool false) rfl rfl (zS (e := 134) rfl rfl rfl) ?_
                   refine q_pick false (.bool false) rfl rfl zN ?_
                   refine lw_nil ?_
                   refine c_cond_f rfl ?_
                   refine wp_skip ?_
                   exact ⟨(),_,rfl,⟨rfl,rfl,rfl,trivial⟩,⟨hE75,hF76,hF77,(by (have hp9 := hpl.symm; clear hpl; unfold wfN inB; first | (simp [*]; done) | (simp [*]; omega) | (simp [*] <;> intros <;> omega) | (simp_all <;> omega)))⟩⟩
                ·
                 refine c_cond_t (by first | rfl | (show Value.bool _ = _; rw [hb80])) ?_
                 refine wp_seq ?_
                 refine wp_plain _ [0] rfl ?_
                 refine q_assign (.bool false) rfl zN ?_
                 refine lw_nil ?_
                 refine wp_ret ?_
                 refine t_ret ?_
                 refine b_ret ?_
                 refine t_ret ?_
                 exact post_ret [6] rfl (.bool false) rfl ⟨(by first | exact ret_bool (wf_good hwn fun j hj => hall j (by omega)) | exact ret_bool (wf_kid (k := k) (by omega) (by first | (rw [if_pos (by omega)]) | (rw [if_neg (by omega)])) (not_t ‹_›)) | exact wf_ret (by first | exact .inr rfl | (left; omega) | (left; simp_all <;> omega)) (by (have hp9 := hpl.symm; clear hpl; unfold wfN inB; first | (simp [*]; done) | (simp [*]; omega) | (simp [*] <;> intros <;> omega) | (simp_all <;> omega)))),hE75⟩
              ·
               refine c_cond_t (by first | rfl | (show Value.bool _ = _; rw [hb70])) ?_
               refine wp_seq ?_
               refine wp_plain _ [0] rfl ?_
               refine q_assign (.bool false) rfl zN ?_
               refine lw_nil ?_
               refine wp_ret ?_
               refine t_ret ?_
               refine b_ret ?_
               refine t_ret ?_
               exact post_ret [6] rfl (.bool false) rfl ⟨(by first | exact ret_bool (wf_good hwn fun j hj => hall j (by omega)) | exact ret_bool (wf_kid (k := k) (by omega) (by first | (rw [if_pos (by omega)]) | (rw [if_neg (by omega)])) (not_t ‹_›)) | exact wf_ret (by first | exact .inr rfl | (left; omega) | (left; simp_all <;> omega)) (by (have hp9 := hpl.symm; clear hpl; unfold wfN inB; first | (simp [*]; done) | (simp [*]; omega) | (simp [*] <;> intros <;> omega) | (simp_all <;> omega)))),hE4⟩
             ·
              refine q_eql false rfl rfl (decide_eq_false hc68) zN ?_
              refine q_assign (.bool false) rfl zN ?_
              refine lw_nil ?_
              refine c_cond_f rfl ?_
              refine wp_seq ?_
              refine wp_plain _ [0] rfl ?_
              refine q_assign (.bool false) rfl zN ?_
              refine lw_nil ?_
              refine wp_ret ?_
              refine b_ret ?_
              refine t_ret ?_
              exact post_ret [6] rfl (.bool false) rfl ⟨(by first | exact ret_bool (wf_good hwn fun j hj => hall j (by omega)) | exact ret_bool (wf_kid (k := k) (by omega) (by first | (rw [if_pos (by omega)]) | (rw [if_neg (by omega)])) (not_t ‹_›)) | exact wf_ret (by first | exact .inr rfl | (left; omega) | (left; simp_all <;> omega)) (by (have hp9 := hpl.symm; clear hpl; unfold wfN inB; first | (simp [*]; done) | (simp [*]; omega) | (simp [*] <;> intros <;> omega) | (simp_all <;> omega)))),hE4⟩
  ·
   clear hL4_1 hL4_0 hE4 hzs4
   rintro u ρ8 w8 ⟨hE8,hL8_0,hL8_1,hwn⟩
   have hzs8 : w.heap.size ≤ w8.heap.size := hE8.size
   have hq91 := hL8_0.lt
   have hq92 := hL8_1.lt
   refine wp_seq ?_
   refine wp_seq ?_
   refine wp_plain _ [0,2,0,0] rfl ?_
   refine q_fldP (p := (.pointer (some ⟨w1.heap.size,0,none⟩))) (b := w1.heap.size) (o := 0) 4 fd94_4 rfl rfl zN ?_
   refine q_load (p := (padd (.pointer (some ⟨w1.heap.size,0,none⟩)) 4)) (.inr rfl) ve one78 rfl (hL8_1.ldp (i := 4) (by simp)) zN ?_
   refine q_len (v := ve) u78 rfl hex.rn.isSl zN ?_
   refine q_move (.int .i64 ((0 :Nat):Int)) rfl zN ?_
   refine lw_nil ?_
   refine wp_block ?_
   refine c_loop (S := Nat) (fun (k : Nat) => ([(156,(.int .i64 ((k :Nat):Int))),(2,(.int .i64 vars)),(3,(.pointer (some ⟨w.heap.size,0,none⟩))),(4,(.pointer (some ⟨w1.heap.size,0,none⟩))),(154,ve),(155,(.int .i64 ((ex.kids.length :Nat):Int)))] : List (Nat × Value))) (fun (k : Nat) (W : World) => Ext w W ∧ BX W.heap w.heap.size [vp,(.int .i64 funcs)] ∧ BX W.heap w1.heap.size [(.int .i64 ex.kind),(.int .i64 ex.num),(.int .i64 ex.pick),(.int .i64 ex.count),ve] ∧ k ≤ ex.kids.length ∧ (∀ j,j < k → wf p funcs (ex.kids.getD j Ex.zero) (if ex.kind = 9 ∧ j = 1 then vars + 1 else vars) = true)) (fun (k : Nat) => ex.kids.length - k) 0 ⟨rfl,rfl,rfl,rfl,rfl,rfl,trivial⟩ ⟨hE8,hL8_0,hL8_1,(by first | omega | assumption | (simp; done) | (simp; omega)),(by intro j hj; omega)⟩ ?_
   clear hL8_1 hL8_0 hE8 hzs8
   rintro k ρ93 w93 ⟨hE93,hL93_0,hL93_1,hp93_0,hall⟩
   have hzs93 : w.heap.size ≤ w93.heap.size := hE93.size
   have hq94 := hL93_0.lt
   have hq95 := hL93_1.lt
   refine wp_seq ?_
   refine wp_plain _ [0] rfl ?_
   by_cases hc96 : ((k :Nat):Int) < ((ex.kids.length :Nat):Int)
   ·
    refine q_lss true rfl rfl (decide_eq_true hc96) zN ?_
    refine lw_nil ?_
    refine wp_seq ?_
    refine c_cond_t rfl ?_
    refine wp_skip ?_
    refine wp_seq ?_
    refine wp_block ?_
    refine wp_seq ?_
    refine wp_plain _ [0,0,2,3,0,4] rfl ?_
    have hkd := kd_at (l := ex.kids) (k := k) (by omega)
    refine q_move (.int .i64 ((k :Nat):Int)) rfl zN ?_
    refine q_idx (v := ve) k u78 tiS94 rfl rfl hex.rn.isSl rfl (by first | omega | assumption | (simp; done) | (simp; omega)) zN ?_
    obtain ⟨cs97,hr97,hl97⟩ := hex.rn.get (good_rEx dex) Ex.zero (k := k) (by first | omega | assumption | (simp; done) | (simp; omega))
    obtain ⟨dd97,ve97,hd97,rfl,hx97⟩ := RX.of hr97
    have hln97 := hx97.rn.lenle
    unfold maxLen at hln97
    refine q_loadA (p := eptr ve k 5) (.inr rfl) [(.int .i64 ((ex.kids.getD k Ex.zero).kind)),(.int .i64 ((ex.kids.getD k Ex.zero).num)),(.int .i64 ((ex.kids.getD k Ex.zero).pick)),(.int .i64 ((ex.kids.getD k Ex.zero).count)),ve97] agg94 rfl (fun w9 hw9 => hl97 w9 (Chg.of_ext [] (hE93.trans hw9))) rfl zN ?_
    have hq99 := hL93_0.lt
    have hq100 := hL93_1.lt
    refine r_allocA (z := .agg #[.int .i64 0,.int .i64 0,.int .i64 0,.int .i64 0,.slice none 0 0]) zr94 zN ?_
    intro w98 hX98 hz98 hB98
    have hzs98:=hX98.size
    have hE98:=hE93.trans hX98
    have hL93_0x98 := hL93_0.ext hX98
    have hL93_1x98 := hL93_1.ext hX98
    replace hB98 : BX w98.heap w93.heap.size [(.int .i64 0),(.int .i64 0),(.int .i64 0),(.int .i64 0),(.slice none 0 0)] := hB98
    refine q_assign (.int .i64 ((k :Nat):Int)) rfl zN ?_
    refine e_setA (vs := [(.int .i64 ((ex.kids.getD k Ex.zero).kind)),(.int .i64 ((ex.kids.getD k Ex.zero).num)),(.int .i64 ((ex.kids.getD k Ex.zero).pick)),(.int .i64 ((ex.kids.getD k Ex.zero).count)),ve97]) agg94 rfl rfl hx97.ones hB98 rfl rfl zN ?_
    intro w101 hC101 hz101 hB101
    replace hB101 : BX w101.heap w93.heap.size [(.int .i64 ((ex.kids.getD k Ex.zero).kind)),(.int .i64 ((ex.kids.getD k Ex.zero).num)),(.int .i64 ((ex.kids.getD k Ex.zero).pick)),(.int .i64 ((ex.kids.getD k Ex.zero).count)),ve97] := hB101
    have hE101 : Ext w w101 := hC101.below hE98 (fun c hc => by have := List.mem_singleton.1 hc; omega) hE98.size
    have hzs101:=hC101.size
    have hF102 := hL93_0x98.chg hC101 (fun hm => by have := List.mem_singleton.1 hm; omega)
    have hF103 := hL93_1x98.chg hC101 (fun hm => by have := List.mem_singleton.1 hm; omega)
    refine lw_nil ?_
    refine wp_seq ?_
    refine wp_plain _ [0,0] rfl ?_
    refine q_move (.int .i64 vars) rfl zN ?_
    refine q_assign (.int .i64 vars) rfl zN ?_
    refine lw_nil ?_
    refine wp_seq ?_
    refine wp_seq ?_
    refine wp_plain _ [0,2,0,0,0,0,0] rfl ?_
    refine q_fldP (p := (.pointer (some ⟨w1.heap.size,0,none⟩))) (b := w1.heap.size) (o := 0) 0 fd94_0 rfl rfl zN ?_
    refine q_load (p := (padd (.pointer (some ⟨w1.heap.size,0,none⟩)) 0)) (.inr rfl) (.int .i64 ex.kind) one2 rfl (hF103.ldp (i := 0) (by simp)) zN ?_
    by_cases hc104 : ex.kind = ((9 :Nat):Int)
    ·
     refine q_eql true rfl rfl (decide_eq_true hc104) zN ?_
     refine q_move (.bool true) rfl zN ?_
     refine q_move (.int .i64 ((k :Nat):Int)) rfl (zS (e := 165) rfl rfl rfl) ?_
     by_cases hc105 : ((k :Nat):Int) = ((1 :Nat):Int)
     ·
      refine q_eql true rfl rfl (decide_eq_true hc105) (zS (e := 165) rfl rfl rfl) ?_
      refine q_pick true (.bool true) rfl rfl zN ?_
      refine lw_nil ?_
      refine c_cond_t rfl ?_
      refine wp_plain _ [0,0,0] rfl ?_
      refine q_move (.int .i64 vars) rfl zN ?_
      refine q_add (vars + 1) rfl rfl (w64 (by omega) (by omega)) zN ?_
      refine q_assign (.int .i64 (vars + 1)) rfl zN ?_
      refine lw_nil ?_
      refine wp_seq ?_
      refine wp_plain _ [2,2,0,3,0] rfl ?_
      refine q_loadA (p := (.pointer (some ⟨w.heap.size,0,none⟩))) (.inr rfl) [vp,(.int .i64 funcs)] agg166 rfl (fun w9 hw9 => LD.of_box (BX.ext (w := w101) hF102 hw9)) rfl zN ?_
      refine q_loadA (p := (.pointer (some ⟨w93.heap.size,0,none⟩))) (.inr rfl) [(.int .i64 ((ex.kids.getD k Ex.zero).kind)),(.int .i64 ((ex.kids.getD k Ex.zero).num)),(.int .i64 ((ex.kids.getD k Ex.zero).pick)),(.int .i64 ((ex.kids.getD k Ex.zero).count)),ve97] agg94 rfl (fun w9 hw9 => LD.of_box (BX.ext (w := w101) hB101 hw9)) rfl zN ?_
      refine q_move (.int .i64 (vars + 1)) rfl zN ?_
      refine lw_call 144 [] [] [(.agg #[vp,(.int .i64 funcs)]),(.agg #[(.int .i64 ((ex.kids.getD k Ex.zero).kind)),(.int .i64 ((ex.kids.getD k Ex.zero).num)),(.int .i64 ((ex.kids.getD k Ex.zero).pick)),(.int .i64 ((ex.kids.getD k Ex.zero).count)),ve97]),(.int .i64 (vars + 1))] rfl rfl cf144 zN (ih dd97 (by omega) _ dp vp (p) (funcs) ve97 (ex.kids.getD k Ex.zero) _ (hp.ext (good_rdS (good_rFn dp)) hE101) _hfuncs (hx97.ext hE101) (by omega) (by omega) (by omega)) ?_
      rintro e106 w106 ⟨rfl,hX106⟩
      refine ⟨_,rfl,hX106,?_⟩
      have hzs106:=hX106.size
      have hE106:=hE101.trans hX106
      have hF102x106 := hF102.ext hX106
      have hF103x106 := hF103.ext hX106
      have hB101x106 := hB101.ext hX106
      refine q_not (!(wf p funcs (ex.kids.getD k Ex.zero) (vars + 1))) rfl rfl zN ?_
      refine lw_nil ?_
      cases hb107 : (!(wf p funcs (ex.kids.getD k Ex.zero) (vars + 1)))
      ·
       refine c_cond_f (by first | rfl | (show Value.bool _ = _; rw [hb107])) ?_
       refine wp_skip ?_
       refine wp_plain _ [0,0] rfl ?_
       refine q_add ((k + 1 :Nat):Int) rfl rfl (w64n (by omega) (by first | omega | assumption | (simp; done) | (simp; omega))) zN ?_
       refine q_move (.int .i64 ((k + 1 :Nat):Int)) rfl zN ?_
       refine lw_nil ?_
       exact ⟨(k + 1),_,rfl,⟨rfl,rfl,rfl,rfl,rfl,rfl,trivial⟩,⟨hE106,hF102x106,hF103x106,(by first | omega | assumption | (simp; done) | (simp; omega)),(by intro j hj; by_cases e9 : j = k; (rw [e9]; first | (rw [if_pos (by omega)]; exact not_f ‹_›) | (rw [if_neg (by omega)]; exact not_f ‹_›)); exact hall j (by omega))⟩,by first | omega | (dsimp only; omega)⟩
      ·
       refine c_cond_t (by first | rfl | (show Value.bool _ = _; rw [hb107])) ?_
       refine wp_seq ?_
       refine wp_plain _ [0] rfl ?_
       refine q_assign (.bool false) rfl zN ?_
       refine lw_nil ?_
       refine wp_ret ?_
       refine b_ret ?_
       refine t_ret ?_
       refine t_ret ?_
       refine b_ret ?_
       refine t_ret ?_
       exact post_ret [6] rfl (.bool false) rfl ⟨(by first | exact ret_bool (wf_good hwn fun j hj => hall j (by omega)) | exact ret_bool (wf_kid (k := k) (by omega) (by first | (rw [if_pos (by omega)]) | (rw [if_neg (by omega)])) (not_t ‹_›)) | exact wf_ret (by first | exact .inr rfl | (left; omega) | (left; simp_all <;> omega)) (by (have hp9 := hpl.symm; clear hpl; unfold wfN inB; first | (simp [*]; done) | (simp [*]; omega) | (simp [*] <;> intros <;> omega) | (simp_all <;> omega)))),hE106⟩
     ·
      refine q_eql false rfl rfl (decide_eq_false hc105) (zS (e := 165) rfl rfl rfl) ?_
      refine q_pick true (.bool false) rfl rfl zN ?_
      refine lw_nil ?_
      refine c_cond_f rfl ?_
      refine wp_skip ?_
      refine wp_seq ?_
      refine wp_plain _ [2,2,0,3,0] rfl ?_
      refine q_loadA (p := (.pointer (some ⟨w.heap.size,0,none⟩))) (.inr rfl) [vp,(.int .i64 funcs)] agg166 rfl (fun w9 hw9 => LD.of_box (BX.ext (w := w101) hF102 hw9)) rfl zN ?_
      refine q_loadA (p := (.pointer (some ⟨w93.heap.size,0,none⟩))) (.inr rfl) [(.int .i64 ((ex.kids.getD k Ex.zero).kind)),(.int .i64 ((ex.kids.getD k Ex.zero).num)),(.int .i64 ((ex.kids.getD k Ex.zero).pick)),(.int .i64 ((ex.kids.getD k Ex.zero).count)),ve97] agg94 rfl (fun w9 hw9 => LD.of_box (BX.ext (w := w101) hB101 hw9)) rfl zN ?_
      refine q_move (.int .i64 vars) rfl zN ?_
      refine lw_call 144 [] [] [(.agg #[vp,(.int .i64 funcs)]),(.agg #[(.int .i64 ((ex.kids.getD k Ex.zero).kind)),(.int .i64 ((ex.kids.getD k Ex.zero).num)),(.int .i64 ((ex.kids.getD k Ex.zero).pick)),(.int .i64 ((ex.kids.getD k Ex.zero).count)),ve97]),(.int .i64 vars)] rfl rfl cf144 zN (ih dd97 (by omega) _ dp vp (p) (funcs) ve97 (ex.kids.getD k Ex.zero) _ (hp.ext (good_rdS (good_rFn dp)) hE101) _hfuncs (hx97.ext hE101) _hvars (by omega) (by omega)) ?_
      rintro e108 w108 ⟨rfl,hX108⟩
      refine ⟨_,rfl,hX108,?_⟩
      have hzs108:=hX108.size
      have hE108:=hE101.trans hX108
      have hF102x108 := hF102.ext hX108
      have hF103x108 := hF103.ext hX108
      have hB101x108 := hB101.ext hX108
      refine q_not (!(wf p funcs (ex.kids.getD k Ex.zero) vars)) rfl rfl zN ?_
      refine lw_nil ?_
      cases hb109 : (!(wf p funcs (ex.kids.getD k Ex.zero) vars))
      ·
       refine c_cond_f (by first | rfl | (show Value.bool _ = _; rw [hb109])) ?_
       refine wp_skip ?_
       refine wp_plain _ [0,0] rfl ?_
       refine q_add ((k + 1 :Nat):Int) rfl rfl (w64n (by omega) (by first | omega | assumption | (simp; done) | (simp; omega))) zN ?_
       refine q_move (.int .i64 ((k + 1 :Nat):Int)) rfl zN ?_
       refine lw_nil ?_
       exact ⟨(k + 1),_,rfl,⟨rfl,rfl,rfl,rfl,rfl,rfl,trivial⟩,⟨hE108,hF102x108,hF103x108,(by first | omega | assumption | (simp; done) | (simp; omega)),(by intro j hj; by_cases e9 : j = k; (rw [e9]; first | (rw [if_pos (by omega)]; exact not_f ‹_›) | (rw [if_neg (by omega)]; exact not_f ‹_›)); exact hall j (by omega))⟩,by first | omega | (dsimp only; omega)⟩
      ·
       refine c_cond_t (by first | rfl | (show Value.bool _ = _; rw [hb109])) ?_
       refine wp_seq ?_
       refine wp_plain _ [0] rfl ?_
       refine q_assign (.bool false) rfl zN ?_
       refine lw_nil ?_
       refine wp_ret ?_
       refine b_ret ?_
       refine t_ret ?_
       refine t_ret ?_
       refine b_ret ?_
       refine t_ret ?_
       exact post_ret [6] rfl (.bool false) rfl ⟨(by first | exact ret_bool (wf_good hwn fun j hj => hall j (by omega)) | exact ret_bool (wf_kid (k := k) (by omega) (by first | (rw [if_pos (by omega)]) | (rw [if_neg (by omega)])) (not_t ‹_›)) | exact wf_ret (by first | exact .inr rfl | (left; omega) | (left; simp_all <;> omega)) (by (have hp9 := hpl.symm; clear hpl; unfold wfN inB; first | (simp [*]; done) | (simp [*]; omega) | (simp [*] <;> intros <;> omega) | (simp_all <;> omega)))),hE108⟩
    ·
     refine q_eql false rfl rfl (decide_eq_false hc104) zN ?_
     refine q_move (.bool false) rfl zN ?_
     refine lw_skip (e := 165) (c := false) rfl rfl rfl rfl ?_
     refine lw_skip (e := 165) (c := false) rfl rfl rfl rfl ?_
     refine q_pick false (.bool false) rfl rfl zN ?_
     refine lw_nil ?_
     refine c_cond_f rfl ?_
     refine wp_skip ?_
     refine wp_seq ?_
     refine wp_plain _ [2,2,0,3,0] rfl ?_
     refine q_loadA (p := (.pointer (some ⟨w.heap.size,0,none⟩))) (.inr rfl) [vp,(.int .i64 funcs)] agg166 rfl (fun w9 hw9 => LD.of_box (BX.ext (w := w101) hF102 hw9)) rfl zN ?_
     refine q_loadA (p := (.pointer (some ⟨w93.heap.size,0,none⟩))) (.inr rfl) [(.int .i64 ((ex.kids.getD k Ex.zero).kind)),(.int .i64 ((ex.kids.getD k Ex.zero).num)),(.int .i64 ((ex.kids.getD k Ex.zero).pick)),(.int .i64 ((ex.kids.getD k Ex.zero).count)),ve97] agg94 rfl (fun w9 hw9 => LD.of_box (BX.ext (w := w101) hB101 hw9)) rfl zN ?_
     refine q_move (.int .i64 vars) rfl zN ?_
     refine lw_call 144 [] [] [(.agg #[vp,(.int .i64 funcs)]),(.agg #[(.int .i64 ((ex.kids.getD k Ex.zero).kind)),(.int .i64 ((ex.kids.getD k Ex.zero).num)),(.int .i64 ((ex.kids.getD k Ex.zero).pick)),(.int .i64 ((ex.kids.getD k Ex.zero).count)),ve97]),(.int .i64 vars)] rfl rfl cf144 zN (ih dd97 (by omega) _ dp vp (p) (funcs) ve97 (ex.kids.getD k Ex.zero) _ (hp.ext (good_rdS (good_rFn dp)) hE101) _hfuncs (hx97.ext hE101) _hvars (by omega) (by omega)) ?_
     rintro e110 w110 ⟨rfl,hX110⟩
     refine ⟨_,rfl,hX110,?_⟩
     have hzs110:=hX110.size
     have hE110:=hE101.trans hX110
     have hF102x110 := hF102.ext hX110
     have hF103x110 := hF103.ext hX110
     have hB101x110 := hB101.ext hX110
     refine q_not (!(wf p funcs (ex.kids.getD k Ex.zero) vars)) rfl rfl zN ?_
     refine lw_nil ?_
     cases hb111 : (!(wf p funcs (ex.kids.getD k Ex.zero) vars))
     ·
      refine c_cond_f (by first | rfl | (show Value.bool _ = _; rw [hb111])) ?_
      refine wp_skip ?_
      refine wp_plain _ [0,0] rfl ?_
      refine q_add ((k + 1 :Nat):Int) rfl rfl (w64n (by omega) (by first | omega | assumption | (simp; done) | (simp; omega))) zN ?_
      refine q_move (.int .i64 ((k + 1 :Nat):Int)) rfl zN ?_
      refine lw_nil ?_
      exact ⟨(k + 1),_,rfl,⟨rfl,rfl,rfl,rfl,rfl,rfl,trivial⟩,⟨hE110,hF102x110,hF103x110,(by first | omega | assumption | (simp; done) | (simp; omega)),(by intro j hj; by_cases e9 : j = k; (rw [e9]; first | (rw [if_pos (by omega)]; exact not_f ‹_›) | (rw [if_neg (by omega)]; exact not_f ‹_›)); exact hall j (by omega))⟩,by first | omega | (dsimp only; omega)⟩
     ·
      refine c_cond_t (by first | rfl | (show Value.bool _ = _; rw [hb111])) ?_
      refine wp_seq ?_
      refine wp_plain _ [0] rfl ?_
      refine q_assign (.bool false) rfl zN ?_
      refine lw_nil ?_
      refine wp_ret ?_
      refine b_ret ?_
      refine t_ret ?_
      refine t_ret ?_
      refine b_ret ?_
      refine t_ret ?_
      exact post_ret [6] rfl (.bool false) rfl ⟨(by first | exact ret_bool (wf_good hwn fun j hj => hall j (by omega)) | exact ret_bool (wf_kid (k := k) (by omega) (by first | (rw [if_pos (by omega)]) | (rw [if_neg (by omega)])) (not_t ‹_›)) | exact wf_ret (by first | exact .inr rfl | (left; omega) | (left; simp_all <;> omega)) (by (have hp9 := hpl.symm; clear hpl; unfold wfN inB; first | (simp [*]; done) | (simp [*]; omega) | (simp [*] <;> intros <;> omega) | (simp_all <;> omega)))),hE110⟩
   ·
    refine q_lss false rfl rfl (decide_eq_false hc96) zN ?_
    refine lw_nil ?_
    refine wp_seq ?_
    refine c_cond_f rfl ?_
    refine wp_exit ?_
    refine t_exit ?_
    refine t_exit ?_
    refine c_exit_here ?_
    refine wp_seq ?_
    refine wp_plain _ [0] rfl ?_
    refine q_assign (.bool true) rfl zN ?_
    refine lw_nil ?_
    refine wp_ret ?_
    exact post_ret [6] rfl (.bool true) rfl ⟨(by first | exact ret_bool (wf_good hwn fun j hj => hall j (by omega)) | exact ret_bool (wf_kid (k := k) (by omega) (by first | (rw [if_pos (by omega)]) | (rw [if_neg (by omega)])) (not_t ‹_›)) | exact wf_ret (by first | exact .inr rfl | (left; omega) | (left; simp_all <;> omega)) (by (have hp9 := hpl.symm; clear hpl; unfold wfN inB; first | (simp [*]; done) | (simp [*]; omega) | (simp [*] <;> intros <;> omega) | (simp_all <;> omega)))),hE93⟩
end Go.Proofs.YtnofbmdpabcjaaaGreat
namespace Go.Proofs.YtnofbmdpabcjaaaGreat
open Go Go.RowKit
set_option linter.unusedVariables false
set_option linter.unusedSimpArgs false
attribute [local irreducible] LW
theorem nm_bad {s : ByteArray} {k : Nat} (hk : k < s.size) (h : (sAt s k < 97 ∨ 122 < sAt s k) ∧ (k = 0 ∨ sAt s k < 48 ∨ 57 < sAt s k)) : false = nmB s := by
  have hc : chB s k = false := by
    unfold chB
    rcases h with ⟨h1 | h1, h2 | h2 | h2⟩ <;> simp <;> omega
  unfold nmB
  rw [allR_fail hk hc, Bool.and_false]
theorem ch_ok {s : ByteArray} {k : Nat} (h : (97 ≤ sAt s k ∧ sAt s k ≤ 122) ∨ (k ≠ 0 ∧ 48 ≤ sAt s k ∧ sAt s k ≤ 57)) : chB s k = true := by
  unfold chB
  rcases h with h | h <;> simp <;> omega
theorem nm_end {s : ByteArray} {k : Nat} {b : Bool} (h : (List.range k).all (chB s) = true) (hk : k = s.size) (hb : b = (decide (1 ≤ s.size) && decide (s.size ≤ 12))) : b = nmB s := by
  subst hk
  unfold nmB
  rw [h, Bool.and_true, hb]
set_option maxHeartbeats 4000000 in
set_option maxRecDepth 100000 in
theorem c_impl_IsName (w : World) (s : ByteArray)  (hl : s.size ≤ 1000000000) :
  Calls Tryz.prog 116 #[.string s] w (fun e w' => e = .returned (.bool (nmB s)) ∧ w' = w) := by
 refine calls_mk [.string s] 44 Tryz.func116 rfl rfl (by simp) ?_
 have hE0 : w = w := rfl
 refine wp_seq ?_
 refine wp_plain _ [0] rfl ?_
 refine q_assign (.bool false) rfl zN ?_
 refine lw_nil ?_
 refine wp_seq ?_
 refine wp_seq ?_
 refine wp_plain _ [0,0,0] rfl ?_
 refine q_move (.string s) rfl zN ?_
 refine q_lens (s := s) u9 rfl zN ?_
 refine q_move (.int .i64 ((0 :Nat):Int)) rfl zN ?_
 refine lw_nil ?_
 refine wp_block ?_
 refine c_loop (S := Nat) (fun (k : Nat) => ([(6,(.int .i64 ((k :Nat):Int))),(0,(.string s)),(5,(.int .i64 ((s.size :Nat):Int)))] : List (Nat × Value))) (fun (k : Nat) (W : World) => W = w ∧ k ≤ s.size ∧ (List.range k).all (chB s) = true) (fun (k : Nat) => s.size - k) 0 ⟨rfl,rfl,rfl,trivial⟩ ⟨hE0,(by first | omega | assumption | (simp; done) | (simp; omega)),(by rfl)⟩ ?_
 clear hE0
 rintro k ρ1 w1 ⟨hE1,hp1_0,hq⟩
 refine wp_seq ?_
 refine wp_plain _ [0] rfl ?_
 by_cases hc2 : ((k :Nat):Int) < ((s.size :Nat):Int)
 ·
  refine q_lss true rfl rfl (decide_eq_true hc2) zN ?_
  refine lw_nil ?_
  refine wp_seq ?_
  refine c_cond_t rfl ?_
  refine wp_skip ?_
  refine wp_seq ?_
  refine wp_block ?_
  refine wp_seq ?_
  refine wp_plain _ [0,0] rfl ?_
  refine q_move (.int .i64 ((k :Nat):Int)) rfl zN ?_
  refine q_assign (.int .i64 ((k :Nat):Int)) rfl zN ?_
  refine lw_nil ?_
  refine wp_seq ?_
  refine wp_plain _ [0,0,0,0,0,0,0,0,0,0,0,0,0,0,0,0,0,0,0,0,0,0,0,0,0,0] rfl ?_
  refine q_move (.string s) rfl zN ?_
  refine q_move (.int .i64 ((k :Nat):Int)) rfl zN ?_
  refine q_index (s := s) k u9 rfl rfl rfl (by first | omega | assumption | (simp; done) | (simp; omega)) zN ?_
  by_cases hc3 : ((sAt s k :Nat):Int) < 97
  ·
   refine q_lss true rfl rfl (decide_eq_true hc3) zN ?_
   refine q_move (.bool true) rfl zN ?_
   refine lw_skip (e := 13) (c := true) rfl rfl rfl rfl ?_
   refine lw_skip (e := 13) (c := true) rfl rfl rfl rfl ?_
   refine lw_skip (e := 13) (c := true) rfl rfl rfl rfl ?_
   refine lw_skip (e := 13) (c := true) rfl rfl rfl rfl ?_
   refine q_pick true (.bool true) rfl rfl zN ?_
   refine q_move (.bool true) rfl zN ?_
   refine q_move (.int .i64 ((k :Nat):Int)) rfl (zS (e := 19) rfl rfl rfl) ?_
   by_cases hc4 : ((k :Nat):Int) = ((0 :Nat):Int)
   ·
    refine q_eql true rfl rfl (decide_eq_true hc4) (zS (e := 19) rfl rfl rfl) ?_
    refine q_move (.bool true) rfl (zS (e := 19) rfl rfl rfl) ?_
    refine lw_skip (e := 22) (c := true) rfl rfl rfl rfl ?_
    refine lw_skip (e := 22) (c := true) rfl rfl rfl rfl ?_
    refine lw_skip (e := 22) (c := true) rfl rfl rfl rfl ?_
    refine lw_skip (e := 22) (c := true) rfl rfl rfl rfl ?_
    refine q_pick true (.bool true) rfl rfl (zS (e := 19) rfl rfl rfl) ?_
    refine q_move (.bool true) rfl (zS (e := 19) rfl rfl rfl) ?_
    refine lw_skip (e := 28) (c := true) rfl rfl rfl rfl ?_
    refine lw_skip (e := 28) (c := true) rfl rfl rfl rfl ?_
    refine lw_skip (e := 28) (c := true) rfl rfl rfl rfl ?_
    refine lw_skip (e := 28) (c := true) rfl rfl rfl rfl ?_
    refine q_pick true (.bool true) rfl rfl (zS (e := 19) rfl rfl rfl) ?_
    refine q_pick true (.bool true) rfl rfl zN ?_
    refine lw_nil ?_
    refine c_cond_t rfl ?_
    refine wp_seq ?_
    refine wp_plain _ [0] rfl ?_
    refine q_assign (.bool false) rfl zN ?_
    refine lw_nil ?_
    refine wp_ret ?_
    refine b_ret ?_
    refine t_ret ?_
    refine t_ret ?_
    refine b_ret ?_
    refine t_ret ?_
    exact post_ret [2] rfl (.bool false) rfl ⟨(by first | exact ret_bool (nm_bad (k := k) (by omega) (by omega)) | exact ret_bool (nm_end hq (by omega) (by first | (rw [decide_eq_true (show 1 ≤ s.size by omega),Bool.true_and]; exact decide_eq_decide.2 (by omega)) | (rw [decide_eq_false (show ¬ 1 ≤ s.size by omega)]; rfl)))),hE1⟩
   ·
    refine q_eql false rfl rfl (decide_eq_false hc4) (zS (e := 19) rfl rfl rfl) ?_
    refine q_move (.bool false) rfl (zS (e := 19) rfl rfl rfl) ?_
    refine q_move (.string s) rfl (zS (e := 22) rfl rfl rfl) ?_
    refine q_move (.int .i64 ((k :Nat):Int)) rfl (zS (e := 22) rfl rfl rfl) ?_
    refine q_index (s := s) k u9 rfl rfl rfl (by first | omega | assumption | (simp; done) | (simp; omega)) (zS (e := 22) rfl rfl rfl) ?_
    by_cases hc5 : ((sAt s k :Nat):Int) < 48
    ·
     refine q_lss true rfl rfl (decide_eq_true hc5) (zS (e := 22) rfl rfl rfl) ?_
     refine q_pick false (.bool true) rfl rfl (zS (e := 19) rfl rfl rfl) ?_
     refine q_move (.bool true) rfl (zS (e := 19) rfl rfl rfl) ?_
     refine lw_skip (e := 28) (c := true) rfl rfl rfl rfl ?_
     refine lw_skip (e := 28) (c := true) rfl rfl rfl rfl ?_
     refine lw_skip (e := 28) (c := true) rfl rfl rfl rfl ?_
     refine lw_skip (e := 28) (c := true) rfl rfl rfl rfl ?_
     refine q_pick true (.bool true) rfl rfl (zS (e := 19) rfl rfl rfl) ?_
     refine q_pick true (.bool true) rfl rfl zN ?_
     refine lw_nil ?_
     refine c_cond_t rfl ?_
     refine wp_seq ?_
     refine wp_plain _ [0] rfl ?_
     refine q_assign (.bool false) rfl zN ?_
     refine lw_nil ?_
     refine wp_ret ?_
     refine b_ret ?_
     refine t_ret ?_
     refine t_ret ?_
     refine b_ret ?_
     refine t_ret ?_
     exact post_ret [2] rfl (.bool false) rfl ⟨(by first | exact ret_bool (nm_bad (k := k) (by omega) (by omega)) | exact ret_bool (nm_end hq (by omega) (by first | (rw [decide_eq_true (show 1 ≤ s.size by omega),Bool.true_and]; exact decide_eq_decide.2 (by omega)) | (rw [decide_eq_false (show ¬ 1 ≤ s.size by omega)]; rfl)))),hE1⟩
    ·
     refine q_lss false rfl rfl (decide_eq_false hc5) (zS (e := 22) rfl rfl rfl) ?_
     refine q_pick false (.bool false) rfl rfl (zS (e := 19) rfl rfl rfl) ?_
     refine q_move (.bool false) rfl (zS (e := 19) rfl rfl rfl) ?_
     refine q_move (.string s) rfl (zS (e := 28) rfl rfl rfl) ?_
     refine q_move (.int .i64 ((k :Nat):Int)) rfl (zS (e := 28) rfl rfl rfl) ?_
     refine q_index (s := s) k u9 rfl rfl rfl (by first | omega | assumption | (simp; done) | (simp; omega)) (zS (e := 28) rfl rfl rfl) ?_
     by_cases hc6 : 57 < ((sAt s k :Nat):Int)
     ·
      refine q_gtr true rfl rfl (decide_eq_true hc6) (zS (e := 28) rfl rfl rfl) ?_
      refine q_pick false (.bool true) rfl rfl (zS (e := 19) rfl rfl rfl) ?_
      refine q_pick true (.bool true) rfl rfl zN ?_
      refine lw_nil ?_
      refine c_cond_t rfl ?_
      refine wp_seq ?_
      refine wp_plain _ [0] rfl ?_
      refine q_assign (.bool false) rfl zN ?_
      refine lw_nil ?_
      refine wp_ret ?_
      refine b_ret ?_
      refine t_ret ?_
      refine t_ret ?_
      refine b_ret ?_
      refine t_ret ?_
      exact post_ret [2] rfl (.bool false) rfl ⟨(by first | exact ret_bool (nm_bad (k := k) (by omega) (by omega)) | exact ret_bool (nm_end hq (by omega) (by first | (rw [decide_eq_true (show 1 ≤ s.size by omega),Bool.true_and]; exact decide_eq_decide.2 (by omega)) | (rw [decide_eq_false (show ¬ 1 ≤ s.size by omega)]; rfl)))),hE1⟩
     ·
      refine q_gtr false rfl rfl (decide_eq_false hc6) (zS (e := 28) rfl rfl rfl) ?_
      refine q_pick false (.bool false) rfl rfl (zS (e := 19) rfl rfl rfl) ?_
      refine q_pick true (.bool false) rfl rfl zN ?_
      refine lw_nil ?_
      refine c_cond_f rfl ?_
      refine wp_skip ?_
      refine wp_plain _ [0,0] rfl ?_
      refine q_add ((k + 1 :Nat):Int) rfl rfl (w64n (by omega) (by first | omega | assumption | (simp; done) | (simp; omega))) zN ?_
      refine q_move (.int .i64 ((k + 1 :Nat):Int)) rfl zN ?_
      refine lw_nil ?_
      exact ⟨(k + 1),_,rfl,⟨rfl,rfl,rfl,trivial⟩,⟨hE1,(by first | omega | assumption | (simp; done) | (simp; omega)),(by exact allR_succ hq (ch_ok (by omega)))⟩,by first | omega | (dsimp only; omega)⟩
  ·
   refine q_lss false rfl rfl (decide_eq_false hc3) zN ?_
   refine q_move (.bool false) rfl zN ?_
   refine q_move (.string s) rfl (zS (e := 13) rfl rfl rfl) ?_
   refine q_move (.int .i64 ((k :Nat):Int)) rfl (zS (e := 13) rfl rfl rfl) ?_
   refine q_index (s := s) k u9 rfl rfl rfl (by first | omega | assumption | (simp; done) | (simp; omega)) (zS (e := 13) rfl rfl rfl) ?_
   by_cases hc7 : 122 < ((sAt s k :Nat):Int)
   ·
    refine q_gtr true rfl rfl (decide_eq_true hc7) (zS (e := 13) rfl rfl rfl) ?_
    refine q_pick false (.bool true) rfl rfl zN ?_
    refine q_move (.bool true) rfl zN ?_
    refine q_move (.int .i64 ((k :Nat):Int)) rfl (zS (e := 19) rfl rfl rfl) ?_
    by_cases hc8 : ((k :Nat):Int) = ((0 :Nat):Int)
    ·
     refine q_eql true rfl rfl (decide_eq_true hc8) (zS (e := 19) rfl rfl rfl) ?_
     refine q_move (.bool true) rfl (zS (e := 19) rfl rfl rfl) ?_
     refine lw_skip (e := 22) (c := true) rfl rfl rfl rfl ?_
     refine lw_skip (e := 22) (c := true) rfl rfl rfl rfl ?_
     refine lw_skip (e := 22) (c := true) rfl rfl rfl rfl ?_
     refine lw_skip (e := 22) (c := true) rfl rfl rfl rfl ?_
     refine q_pick true (.bool true) rfl rfl (zS (e := 19) rfl rfl rfl) ?_
     refine q_move (.bool true) rfl (zS (e := 19) rfl rfl rfl) ?_
     refine lw_skip (e := 28) (c := true) rfl rfl rfl rfl ?_
     refine lw_skip (e := 28) (c := true) rfl rfl rfl rfl ?_
     refine lw_skip (e := 28) (c := true) rfl rfl rfl rfl ?_
     refine lw_skip (e := 28) (c := true) rfl rfl rfl rfl ?_
     refine q_pick true (.bool true) rfl rfl (zS (e := 19) rfl rfl rfl) ?_
     refine q_pick true (.bool true) rfl rfl zN ?_
     refine lw_nil ?_
     refine c_cond_t rfl ?_
     refine wp_seq ?_
     refine wp_plain _ [0] rfl ?_
     refine q_assign (.bool false) rfl zN ?_
     refine lw_nil ?_
     refine wp_ret ?_
     refine b_ret ?_
     refine t_ret ?_
     refine t_ret ?_
     refine b_ret ?_
     refine t_ret ?_
     exact post_ret [2] rfl (.bool false) rfl ⟨(by first | exact ret_bool (nm_bad (k := k) (by omega) (by omega)) | exact ret_bool (nm_end hq (by omega) (by first | (rw [decide_eq_true (show 1 ≤ s.size by omega),Bool.true_and]; exact decide_eq_decide.2 (by omega)) | (rw [decide_eq_false (show ¬ 1 ≤ s.size by omega)]; rfl)))),hE1⟩
    ·
     refine q_eql false rfl rfl (decide_eq_false hc8) (zS (e := 19) rfl rfl rfl) ?_
     refine q_move (.bool false) rfl (zS (e := 19) rfl rfl rfl) ?_
     refine q_move (.string s) rfl (zS (e := 22) rfl rfl rfl) ?_
     refine q_move (.int .i64 ((k :Nat):Int)) rfl (zS (e := 22) rfl rfl rfl) ?_
     refine q_index (s := s) k u9 rfl rfl rfl (by first | omega | assumption | (simp; done) | (simp; omega)) (zS (e := 22) rfl rfl rfl) ?_
     by_cases hc9 : ((sAt s k :Nat):Int) < 48
     ·
      refine q_lss true rfl rfl (decide_eq_true hc9) (zS (e := 22) rfl rfl rfl) ?_
      refine q_pick false (.bool true) rfl rfl (zS (e := 19) rfl rfl rfl) ?_
      refine q_move (.bool true) rfl (zS (e := 19) rfl rfl rfl) ?_
      refine lw_skip (e := 28) (c := true) rfl rfl rfl rfl ?_
      refine lw_skip (e := 28) (c := true) rfl rfl rfl rfl ?_
      refine lw_skip (e := 28) (c := true) rfl rfl rfl rfl ?_
      refine lw_skip (e := 28) (c := true) rfl rfl rfl rfl ?_
      refine q_pick true (.bool true) rfl rfl (zS (e := 19) rfl rfl rfl) ?_
      refine q_pick true (.bool true) rfl rfl zN ?_
      refine lw_nil ?_
      refine c_cond_t rfl ?_
      refine wp_seq ?_
      refine wp_plain _ [0] rfl ?_
      refine q_assign (.bool false) rfl zN ?_
      refine lw_nil ?_
      refine wp_ret ?_
      refine b_ret ?_
      refine t_ret ?_
      refine t_ret ?_
      refine b_ret ?_
      refine t_ret ?_
      exact post_ret [2] rfl (.bool false) rfl ⟨(by first | exact ret_bool (nm_bad (k := k) (by omega) (by omega)) | exact ret_bool (nm_end hq (by omega) (by first | (rw [decide_eq_true (show 1 ≤ s.size by omega),Bool.true_and]; exact decide_eq_decide.2 (by omega)) | (rw [decide_eq_false (show ¬ 1 ≤ s.size by omega)]; rfl)))),hE1⟩
     ·
      refine q_lss false rfl rfl (decide_eq_false hc9) (zS (e := 22) rfl rfl rfl) ?_
      refine q_pick false (.bool false) rfl rfl (zS (e := 19) rfl rfl rfl) ?_
      refine q_move (.bool false) rfl (zS (e := 19) rfl rfl rfl) ?_
      refine q_move (.string s) rfl (zS (e := 28) rfl rfl rfl) ?_
      refine q_move (.int .i64 ((k :Nat):Int)) rfl (zS (e := 28) rfl rfl rfl) ?_
      refine q_index (s := s) k u9 rfl rfl rfl (by first | omega | assumption | (simp; done) | (simp; omega)) (zS (e := 28) rfl rfl rfl) ?_
      by_cases hc10 : 57 < ((sAt s k :Nat):Int)
      ·
       refine q_gtr true rfl rfl (decide_eq_true hc10) (zS (e := 28) rfl rfl rfl) ?_
       refine q_pick false (.bool true) rfl rfl (zS (e := 19) rfl rfl rfl) ?_
       refine q_pick true (.bool true) rfl rfl zN ?_
       refine lw_nil ?_
       refine c_cond_t rfl ?_
       refine wp_seq ?_
       refine wp_plain _ [0] rfl ?_
       refine q_assign (.bool false) rfl zN ?_
       refine lw_nil ?_
       refine wp_ret ?_
       refine b_ret ?_
       refine t_ret ?_
       refine t_ret ?_
       refine b_ret ?_
       refine t_ret ?_
       exact post_ret [2] rfl (.bool false) rfl ⟨(by first | exact ret_bool (nm_bad (k := k) (by omega) (by omega)) | exact ret_bool (nm_end hq (by omega) (by first | (rw [decide_eq_true (show 1 ≤ s.size by omega),Bool.true_and]; exact decide_eq_decide.2 (by omega)) | (rw [decide_eq_false (show ¬ 1 ≤ s.size by omega)]; rfl)))),hE1⟩
      ·
       refine q_gtr false rfl rfl (decide_eq_false hc10) (zS (e := 28) rfl rfl rfl) ?_
       refine q_pick false (.bool false) rfl rfl (zS (e := 19) rfl rfl rfl) ?_
       refine q_pick true (.bool false) rfl rfl zN ?_
       refine lw_nil ?_
       refine c_cond_f rfl ?_
       refine wp_skip ?_
       refine wp_plain _ [0,0] rfl ?_
       refine q_add ((k + 1 :Nat):Int) rfl rfl (w64n (by omega) (by first | omega | assumption | (simp; done) | (simp; omega))) zN ?_
       refine q_move (.int .i64 ((k + 1 :Nat):Int)) rfl zN ?_
       refine lw_nil ?_
       exact ⟨(k + 1),_,rfl,⟨rfl,rfl,rfl,trivial⟩,⟨hE1,(by first | omega | assumption | (simp; done) | (simp; omega)),(by exact allR_succ hq (ch_ok (by omega)))⟩,by first | omega | (dsimp only; omega)⟩
   ·
    refine q_gtr false rfl rfl (decide_eq_false hc7) (zS (e := 13) rfl rfl rfl) ?_
    refine q_pick false (.bool false) rfl rfl zN ?_
    refine q_move (.bool false) rfl zN ?_
    refine lw_skip (e := 19) (c := false) rfl rfl rfl rfl ?_
    refine lw_skip (e := 19) (c := false) rfl rfl rfl rfl ?_
    refine lw_skip (e := 19) (c := false) rfl rfl rfl rfl ?_
    refine lw_skipU (e := 22) rfl rfl rfl ?_
    refine lw_skipU (e := 22) rfl rfl rfl ?_
    refine lw_skipU (e := 22) rfl rfl rfl ?_
    refine lw_skipU (e := 22) rfl rfl rfl ?_
    refine lw_skip (e := 19) (c := false) rfl rfl rfl rfl ?_
    refine lw_skip (e := 19) (c := false) rfl rfl rfl rfl ?_
    refine lw_skipU (e := 28) rfl rfl rfl ?_
    refine lw_skipU (e := 28) rfl rfl rfl ?_
    refine lw_skipU (e := 28) rfl rfl rfl ?_
    refine lw_skipU (e := 28) rfl rfl rfl ?_
    refine lw_skip (e := 19) (c := false) rfl rfl rfl rfl ?_
    refine q_pick false (.bool false) rfl rfl zN ?_
    refine lw_nil ?_
    refine c_cond_f rfl ?_
    refine wp_skip ?_
    refine wp_plain _ [0,0] rfl ?_
    refine q_add ((k + 1 :Nat):Int) rfl rfl (w64n (by omega) (by first | omega | assumption | (simp; done) | (simp; omega))) zN ?_
    refine q_move (.int .i64 ((k + 1 :Nat):Int)) rfl zN ?_
    refine lw_nil ?_
    exact ⟨(k + 1),_,rfl,⟨rfl,rfl,rfl,trivial⟩,⟨hE1,(by first | omega | assumption | (simp; done) | (simp; omega)),(by exact allR_succ hq (ch_ok (by omega)))⟩,by first | omega | (dsimp only; omega)⟩
 ·
  refine q_lss false rfl rfl (decide_eq_false hc2) zN ?_
  refine lw_nil ?_
  refine wp_seq ?_
  refine c_cond_f rfl ?_
  refine wp_exit ?_
  refine t_exit ?_
  refine t_exit ?_
  refine c_exit_here ?_
  refine wp_seq ?_
  refine wp_plain _ [0,0,0,0,0,0,0,0,0] rfl ?_
  refine q_move (.string s) rfl zN ?_
  refine q_lens (s := s) u9 rfl zN ?_
  by_cases hc11 : ((1 :Nat):Int) ≤ ((s.size :Nat):Int)
  ·
   refine q_geq true rfl rfl (decide_eq_true hc11) zN ?_
   refine q_move (.bool true) rfl zN ?_
   refine q_move (.string s) rfl (zS (e := 39) rfl rfl rfl) ?_
   refine q_lens (s := s) u9 rfl (zS (e := 39) rfl rfl rfl) ?_
   refine q_leq (decide (((s.size :Nat):Int) ≤ ((12 :Nat):Int))) rfl rfl rfl (zS (e := 39) rfl rfl rfl) ?_
   refine q_pick true (.bool (decide (((s.size :Nat):Int) ≤ ((12 :Nat):Int)))) rfl rfl zN ?_
   refine q_assign (.bool (decide (((s.size :Nat):Int) ≤ ((12 :Nat):Int)))) rfl zN ?_
   refine lw_nil ?_
   refine wp_ret ?_
   exact post_ret [2] rfl (.bool (decide (((s.size :Nat):Int) ≤ ((12 :Nat):Int)))) rfl ⟨(by first | exact ret_bool (nm_bad (k := k) (by omega) (by omega)) | exact ret_bool (nm_end hq (by omega) (by first | (rw [decide_eq_true (show 1 ≤ s.size by omega),Bool.true_and]; exact decide_eq_decide.2 (by omega)) | (rw [decide_eq_false (show ¬ 1 ≤ s.size by omega)]; rfl)))),hE1⟩
  ·
   refine q_geq false rfl rfl (decide_eq_false hc11) zN ?_
   refine q_move (.bool false) rfl zN ?_
   refine lw_skip (e := 39) (c := false) rfl rfl rfl rfl ?_
   refine lw_skip (e := 39) (c := false) rfl rfl rfl rfl ?_
   refine lw_skip (e := 39) (c := false) rfl rfl rfl rfl ?_
   refine q_pick false (.bool false) rfl rfl zN ?_
   refine q_assign (.bool false) rfl zN ?_
   refine lw_nil ?_
   refine wp_ret ?_
   exact post_ret [2] rfl (.bool false) rfl ⟨(by first | exact ret_bool (nm_bad (k := k) (by omega) (by omega)) | exact ret_bool (nm_end hq (by omega) (by first | (rw [decide_eq_true (show 1 ≤ s.size by omega),Bool.true_and]; exact decide_eq_decide.2 (by omega)) | (rw [decide_eq_false (show ¬ 1 ≤ s.size by omega)]; rfl)))),hE1⟩
set_option maxHeartbeats 4000000 in
set_option maxRecDepth 100000 in
theorem c_impl_ValidProgram_1 (w : World) (dx : Nat) (vo : Value) (x : Fn) (bf : Nat) (vf : Value) (f : Fn) (hx : RF [] dx w.heap vo x) (hBf : BX w.heap bf [.string f.name,.int .i64 f.params,vf])  :
  Calls Tryz.prog 118 #[(.agg #[(.string x.name),(.int .i64 x.params),vo]),.pointer (some ⟨bf,0,none⟩)] w (fun e w' => e = .returned (.bool (strE x.name f.name)) ∧ Ext w w') := by
 refine calls_mk [(.agg #[(.string x.name),(.int .i64 x.params),vo]),.pointer (some ⟨bf,0,none⟩)] 9 Tryz.func118 rfl rfl (by simp) ?_
 have hE0 : Ext w w := Ext.refl w
 have hl_vo := hx.rn.lenle
 unfold maxLen at hl_vo
 refine wp_seq ?_
 refine wp_plain _ [3,0] rfl ?_
 have hq2 := hBf.lt
 refine r_boxA (cs := #[(.string x.name),(.int .i64 x.params),vo]) rfl zN ?_
 intro w1 hX1 hz1 hB1
 have hzs1:=hX1.size
 have hE1:=hE0.trans hX1
 have hBfx1 := hBf.ext hX1
 replace hB1 : BX w1.heap w.heap.size [(.string x.name),(.int .i64 x.params),vo] := hB1
 refine q_assign (.bool false) rfl zN ?_
 refine lw_nil ?_
 refine wp_seq ?_
 refine wp_plain _ [0,2,0,2,0,0] rfl ?_
 refine q_fldP (p := (.pointer (some ⟨w.heap.size,0,none⟩))) (b := w.heap.size) (o := 0) 0 fd80_0 rfl rfl zN ?_
 refine q_load (p := (padd (.pointer (some ⟨w.heap.size,0,none⟩)) 0)) (.inr rfl) (.string x.name) one9 rfl (hB1.ldp (i := 0) (by simp)) zN ?_
 refine q_fldP (p := (.pointer (some ⟨bf,0,none⟩))) (b := bf) (o := 0) 0 fd80_0 rfl rfl zN ?_
 refine q_load (p := (padd (.pointer (some ⟨bf,0,none⟩)) 0)) (.inr rfl) (.string f.name) one9 rfl (hBfx1.ldp (i := 0) (by simp)) zN ?_
 refine q_eqls (strE x.name f.name) u9 rfl rfl rfl zN ?_
 refine q_assign (.bool (strE x.name f.name)) rfl zN ?_
 refine lw_nil ?_
 refine wp_ret ?_
 exact post_ret [3] rfl (.bool (strE x.name f.name)) rfl ⟨rfl,hE1⟩
set_option maxHeartbeats 4000000 in
set_option maxRecDepth 100000 in
theorem c_slices_IndexFunc___impl_Func_impl_Func_ (w : World) (da : Nat) (va : Value) (a : List Fn) (q : Nat) (qf qc : List Value) (pr : Fn → Bool) (ha : RP [] da w.heap va a) (hcf_q : ((Tryz.prog.funcs[q]?).map fun fn => (fn.name != "runtime.NumGoroutine") && fn.body.isSome) = some true) (hpr : ∀ (d9 : Nat) (u : Value) (x : Fn) w1,RF [] d9 w1.heap u x → Ext w w1 → Calls Tryz.prog q (qf ++ [Value.agg #[Value.string x.name,Value.int .i64 x.params,u]] ++ qc).toArray w1 (fun e w2 => e = .returned (.bool (pr x)) ∧ Ext w1 w2))  :
  Calls Tryz.prog 141 #[va,.func (.func q) qf.toArray qc.toArray] w (fun e w' => e = .returned (.int .i64 (ixF pr a)) ∧ Ext w w') := by
 refine calls_mk [va,.func (.func q) qf.toArray qc.toArray] 19 Tryz.func141 rfl rfl (by simp) ?_
 have hE0 : Ext w w := Ext.refl w
 have hl_va := ha.lenle
 unfold maxLen at hl_va
 refine wp_seq ?_
 refine wp_plain _ [0] rfl ?_
 refine q_assign (.int .i64 ((0 :Nat):Int)) rfl zN ?_
 refine lw_nil ?_
 refine wp_seq ?_
 refine wp_seq ?_
 refine wp_plain _ [0,0,0] rfl ?_
 refine q_move va rfl zN ?_
 refine q_len (v := va) u30 rfl ha.isSl zN ?_
 refine q_move (.int .i64 ((0 :Nat):Int)) rfl zN ?_
 refine lw_nil ?_
 refine wp_block ?_
 refine c_loop (S := Nat) (fun (k : Nat) => ([(8,(.int .i64 ((k :Nat):Int))),(0,va),(1,(.func (.func q) qf.toArray qc.toArray)),(7,(.int .i64 ((a.length :Nat):Int)))] : List (Nat × Value))) (fun (k : Nat) (W : World) => Ext w W ∧ k ≤ a.length ∧ (∀ j,j < k → pr (a.getD j Fn.zero) = false)) (fun (k : Nat) => a.length - k) 0 ⟨rfl,rfl,rfl,rfl,trivial⟩ ⟨hE0,(by first | omega | assumption | (simp; done) | (simp; omega)),(by intro j hj; omega)⟩ ?_
 clear hE0
 rintro k ρ1 w1 ⟨hE1,hp1_0,hq⟩
 have hzs1 : w.heap.size ≤ w1.heap.size := hE1.size
 refine wp_seq ?_
 refine wp_plain _ [0] rfl ?_
 by_cases hc2 : ((k :Nat):Int) < ((a.length :Nat):Int)
 ·
  refine q_lss true rfl rfl (decide_eq_true hc2) zN ?_
  refine lw_nil ?_
  refine wp_seq ?_
  refine c_cond_t rfl ?_
  refine wp_skip ?_
  refine wp_seq ?_
  refine wp_block ?_
  refine wp_seq ?_
  refine wp_plain _ [0,0] rfl ?_
  refine q_move (.int .i64 ((k :Nat):Int)) rfl zN ?_
  refine q_assign (.int .i64 ((k :Nat):Int)) rfl zN ?_
  refine lw_nil ?_
  refine wp_seq ?_
  refine wp_plain _ [0,0,0,0,2,3] rfl ?_
  refine q_move (.func (.func q) qf.toArray qc.toArray) rfl zN ?_
  refine q_move va rfl zN ?_
  refine q_move (.int .i64 ((k :Nat):Int)) rfl zN ?_
  refine q_idx (v := va) k u30 tiS80 rfl rfl ha.isSl rfl (by first | omega | assumption | (simp; done) | (simp; omega)) zN ?_
  obtain ⟨cs3,hr3,hl3⟩ := ha.get (good_rFn da) Fn.zero (k := k) (by first | omega | assumption | (simp; done) | (simp; omega))
  obtain ⟨ve3,rfl,hx3⟩ := RF.of hr3
  have hln3 := hx3.rn.lenle
  unfold maxLen at hln3
  refine q_loadA (p := eptr va k 3) (.inr rfl) [(.string ((a.getD k Fn.zero).name)),(.int .i64 ((a.getD k Fn.zero).params)),ve3] agg80 rfl (fun w9 hw9 => hl3 w9 (Chg.of_ext [] (hE1.trans hw9))) rfl zN ?_
  have hcall4 := hpr da ve3 (a.getD k Fn.zero) w1 ⟨hx3.rng,(hx3.rn.ext (good_rdS (good_rEx da)) hE1)⟩ hE1
  refine lw_call q qf qc _ rfl rfl hcf_q zN hcall4 ?_
  rintro e4 w4 ⟨rfl,hX4⟩
  refine ⟨_,rfl,hX4,?_⟩
  have hzs4:=hX4.size
  have hE4:=hE1.trans hX4
  cases hc4 : pr (a.getD k Fn.zero)
  ·
   refine lw_nil ?_
   refine c_cond_f rfl ?_
   refine wp_skip ?_
   refine wp_plain _ [0,0] rfl ?_
   refine q_add ((k + 1 :Nat):Int) rfl rfl (w64n (by omega) (by first | omega | assumption | (simp; done) | (simp; omega))) zN ?_
   refine q_move (.int .i64 ((k + 1 :Nat):Int)) rfl zN ?_
   refine lw_nil ?_
   exact ⟨(k + 1),_,rfl,⟨rfl,rfl,rfl,rfl,trivial⟩,⟨hE4,(by first | omega | assumption | (simp; done) | (simp; omega)),(by exact ix_step hq (by assumption))⟩,by first | omega | (dsimp only; omega)⟩
  ·
   refine lw_nil ?_
   refine c_cond_t rfl ?_
   refine wp_seq ?_
   refine wp_plain _ [0,0] rfl ?_
   refine q_move (.int .i64 ((k :Nat):Int)) rfl zN ?_
   refine q_assign (.int .i64 ((k :Nat):Int)) rfl zN ?_
   refine lw_nil ?_
   refine wp_ret ?_
   refine b_ret ?_
   refine t_ret ?_
   refine t_ret ?_
   refine b_ret ?_
   refine t_ret ?_
   exact post_ret [4] rfl (.int .i64 ((k :Nat):Int)) rfl ⟨(ret_int (ix_yes Fn.zero hq (by omega) (by assumption))),hE4⟩
 ·
  refine q_lss false rfl rfl (decide_eq_false hc2) zN ?_
  refine lw_nil ?_
  refine wp_seq ?_
  refine c_cond_f rfl ?_
  refine wp_exit ?_
  refine t_exit ?_
  refine t_exit ?_
  refine c_exit_here ?_
  refine wp_seq ?_
  refine wp_plain _ [0] rfl ?_
  refine q_assign (.int .i64 (-1)) rfl zN ?_
  refine lw_nil ?_
  refine wp_ret ?_
  exact post_ret [4] rfl (.int .i64 (-1)) rfl ⟨(ret_int (ix_no Fn.zero hq (by omega))),hE1⟩
set_option maxHeartbeats 4000000 in
set_option maxRecDepth 100000 in
theorem c_slices_ContainsFunc___impl_Func_impl_Func_ (w : World) (da : Nat) (va : Value) (a : List Fn) (q : Nat) (qf qc : List Value) (pr : Fn → Bool) (ha : RP [] da w.heap va a) (hcf_q : ((Tryz.prog.funcs[q]?).map fun fn => (fn.name != "runtime.NumGoroutine") && fn.body.isSome) = some true) (hpr : ∀ (d9 : Nat) (u : Value) (x : Fn) w1,RF [] d9 w1.heap u x → Ext w w1 → Calls Tryz.prog q (qf ++ [Value.agg #[Value.string x.name,Value.int .i64 x.params,u]] ++ qc).toArray w1 (fun e w2 => e = .returned (.bool (pr x)) ∧ Ext w1 w2))  :
  Calls Tryz.prog 117 #[va,.func (.func q) qf.toArray qc.toArray] w (fun e w' => e = .returned (.bool (a.any pr)) ∧ Ext w w') := by
 refine calls_mk [va,.func (.func q) qf.toArray qc.toArray] 9 Tryz.func117 rfl rfl (by simp) ?_
 have hE0 : Ext w w := Ext.refl w
 have hl_va := ha.lenle
 unfold maxLen at hl_va
 refine wp_seq ?_
 refine wp_plain _ [0] rfl ?_
 refine q_assign (.bool false) rfl zN ?_
 refine lw_nil ?_
 refine wp_seq ?_
 refine wp_plain _ [0,0,3,0,0] rfl ?_
 refine q_move va rfl zN ?_
 refine q_move (.func (.func q) qf.toArray qc.toArray) rfl zN ?_
 refine lw_call 141 [] [] [va,(.func (.func q) qf.toArray qc.toArray)] rfl rfl cf141 zN (c_slices_IndexFunc___impl_Func_impl_Func_ _ da va (a) q qf qc pr (ha.ext (good_rdS (good_rFn da)) hE0) hcf_q (fun d9 u x w1 hx hw => hpr d9 u x w1 hx (hE0.trans hw))) ?_
 rintro e1 w1 ⟨rfl,hX1⟩
 refine ⟨_,rfl,hX1,?_⟩
 have hzs1:=hX1.size
 have hE1:=hE0.trans hX1
 refine q_geq (decide (((0 :Nat):Int) ≤ ixF pr a)) rfl rfl rfl zN ?_
 refine q_assign (.bool (decide (((0 :Nat):Int) ≤ ixF pr a))) rfl zN ?_
 refine lw_nil ?_
 refine wp_ret ?_
 exact post_ret [4] rfl (.bool (decide (((0 :Nat):Int) ≤ ixF pr a))) rfl ⟨(ret_bool (ix_ge pr a)),hE1⟩
set_option maxHeartbeats 4000000 in
set_option maxRecDepth 100000 in
theorem c_impl_areVars (w : World) (vars : Int) (_hvars : -9223372036854775808 ≤ vars ∧ vars ≤ 9223372036854775807)  :
  Calls Tryz.prog 142 #[.int .i64 vars] w (fun e w' => e = .returned (.bool (inB vars 0 412)) ∧ w' = w) := by
 refine calls_mk [.int .i64 vars] 5 Tryz.func142 rfl rfl (by simp) ?_
 have hE0 : w = w := rfl
 refine wp_seq ?_
 refine wp_plain _ [0] rfl ?_
 refine q_assign (.bool false) rfl zN ?_
 refine lw_nil ?_
 refine wp_seq ?_
 refine wp_plain _ [0,0,0] rfl ?_
 refine q_move (.int .i64 vars) rfl zN ?_
 refine lw_callq 68 [] [] [(.int .i64 vars),(.int .i64 ((0 :Nat):Int)),(.int .i64 ((412 :Nat):Int))] rfl rfl cf68 zN (.bool (decide (((0 :Nat):Int) ≤ vars) && decide (vars ≤ ((412 :Nat):Int)))) (fun wq => c_impl_within wq _ _ _ _hvars (by omega) (by omega)) ?_
 refine q_assign (.bool (decide (((0 :Nat):Int) ≤ vars) && decide (vars ≤ ((412 :Nat):Int)))) rfl zN ?_
 refine lw_nil ?_
 refine wp_ret ?_
 exact post_ret [2] rfl (.bool (decide (((0 :Nat):Int) ≤ vars) && decide (vars ≤ ((412 :Nat):Int)))) rfl ⟨rfl,hE0⟩
theorem exB_t {p : List Fn} {e : Ex} {vars funcs : Int} (h : (0 ≤ vars ∧ vars ≤ 412) ∧ (0 ≤ funcs ∧ funcs ≤ ((p.length : Nat) : Int)) ∧ e.size ≤ 400 ∧ e.deep ≤ 60) : wf p funcs e vars = exB p e vars funcs := by
  unfold exB
  rw [inB_iff.2 h.1, inB_iff.2 h.2.1, decide_eq_true h.2.2.1, decide_eq_true h.2.2.2]; rfl
theorem exB_f {p : List Fn} {e : Ex} {vars funcs : Int} (h : ¬ ((0 ≤ vars ∧ vars ≤ 412) ∧ (0 ≤ funcs ∧ funcs ≤ ((p.length : Nat) : Int)) ∧ e.size ≤ 400 ∧ e.deep ≤ 60)) : false = exB p e vars funcs := by
  cases hh : exB p e vars funcs with
  | false => rfl
  | true =>
    unfold exB at hh
    simp only [Bool.and_eq_true, decide_eq_true_eq, inB_iff] at hh
    exact absurd ⟨hh.1, hh.2.1, hh.2.2.1, hh.2.2.2.1⟩ h
theorem exB_w {p : List Fn} {e : Ex} {vars funcs : Int} (h : wf p funcs e vars = false) : false = exB p e vars funcs := by
  unfold exB; rw [h]; simp
theorem inB_f {x a b : Int} (h : inB x a b = false) : ¬ (a ≤ x ∧ x ≤ b) := fun hh => by rw [inB_iff.2 hh] at h; cases h
theorem inB_d {x a b : Int} (h : (decide (a ≤ x) && decide (x ≤ b)) = false) : ¬ (a ≤ x ∧ x ≤ b) := inB_f h
theorem inB_e {x a b : Int} (h : (decide (a ≤ x) && decide (x ≤ b)) = true) : a ≤ x ∧ x ≤ b := inB_iff.1 h
set_option maxHeartbeats 4000000 in
set_option maxRecDepth 100000 in
theorem c_impl_ValidExpr (w : World) (dp : Nat) (vp : Value) (p : List Fn) (dex : Nat) (ve : Value) (ex : Ex) (vars : Int) (funcs : Int) (hp : RP [] dp w.heap vp p) (hex : RX [] dex w.heap ve ex) (_hvars : -9223372036854775808 ≤ vars ∧ vars ≤ 9223372036854775807) (_hfuncs : -9223372036854775808 ≤ funcs ∧ funcs ≤ 9223372036854775807) (hs : ex.size ≤ 1000000000) :
  Calls Tryz.prog 119 #[(.agg #[vp]),(.agg #[(.int .i64 ex.kind),(.int .i64 ex.num),(.int .i64 ex.pick),(.int .i64 ex.count),ve]),.int .i64 vars,.int .i64 funcs] w (fun e w' => e = .returned (.bool (exB p ex vars funcs)) ∧ Ext w w') := by
 refine calls_mk [(.agg #[vp]),(.agg #[(.int .i64 ex.kind),(.int .i64 ex.num),(.int .i64 ex.pick),(.int .i64 ex.count),ve]),.int .i64 vars,.int .i64 funcs] 36 Tryz.func119 rfl rfl (by simp) ?_
 have hE0 : Ext w w := Ext.refl w
 have hl_vp := hp.lenle
 unfold maxLen at hl_vp
 have hl_ve := hex.rn.lenle
 unfold maxLen at hl_ve
 refine wp_seq ?_
 refine wp_plain _ [3,3,0] rfl ?_
 refine r_boxA (cs := #[vp]) rfl zN ?_
 intro w1 hX1 hz1 hB1
 have hzs1:=hX1.size
 have hE1:=hE0.trans hX1
 replace hB1 : BX w1.heap w.heap.size [vp] := hB1
 have hq3 := hB1.lt
 refine r_boxA (cs := #[(.int .i64 ex.kind),(.int .i64 ex.num),(.int .i64 ex.pick),(.int .i64 ex.count),ve]) rfl zN ?_
 intro w2 hX2 hz2 hB2
 have hzs2:=hX2.size
 have hE2:=hE1.trans hX2
 have hB1x2 := hB1.ext hX2
 replace hB2 : BX w2.heap w1.heap.size [(.int .i64 ex.kind),(.int .i64 ex.num),(.int .i64 ex.pick),(.int .i64 ex.count),ve] := hB2
 refine q_assign (.bool false) rfl zN ?_
 refine lw_nil ?_
 refine wp_seq ?_
 refine wp_plain _ [0,0,0,0,0,2,0,0,0,0,2,3,0,0,0,2,3,0,0,0,2,0,0,2,0,3,0,0] rfl ?_
 refine q_move (.int .i64 vars) rfl zN ?_
 refine lw_callq 142 [] [] [(.int .i64 vars)] rfl rfl cf142 zN (.bool (inB vars 0 412)) (fun wq => c_impl_areVars wq _ _hvars) ?_
 refine q_move (.bool (inB vars 0 412)) rfl zN ?_
 cases hb5 : (inB vars 0 412)
 ·
  refine lw_skip (e := 11) (c := false) rfl rfl rfl rfl ?_
  refine lw_skip (e := 11) (c := false) rfl rfl rfl rfl ?_
  refine lw_skip (e := 11) (c := false) rfl rfl rfl rfl ?_
  refine lw_skip (e := 11) (c := false) rfl rfl rfl rfl ?_
  refine lw_skip (e := 11) (c := false) rfl rfl rfl rfl ?_
  refine q_pick false (.bool false) rfl rfl zN ?_
  refine q_move (.bool false) rfl zN ?_
  refine lw_skip (e := 18) (c := false) rfl rfl rfl rfl ?_
  refine lw_skip (e := 18) (c := false) rfl rfl rfl rfl ?_
  refine lw_skip (e := 18) (c := false) rfl rfl rfl rfl ?_
  refine q_pick false (.bool false) rfl rfl zN ?_
  refine q_move (.bool false) rfl zN ?_
  refine lw_skip (e := 23) (c := false) rfl rfl rfl rfl ?_
  refine lw_skip (e := 23) (c := false) rfl rfl rfl rfl ?_
  refine lw_skip (e := 23) (c := false) rfl rfl rfl rfl ?_
  refine q_pick false (.bool false) rfl rfl zN ?_
  refine q_move (.bool false) rfl zN ?_
  refine lw_skip (e := 28) (c := false) rfl rfl rfl rfl ?_
  refine lw_skip (e := 28) (c := false) rfl rfl rfl rfl ?_
  refine lw_skip (e := 28) (c := false) rfl rfl rfl rfl ?_
  refine lw_skip (e := 28) (c := false) rfl rfl rfl rfl ?_
  refine lw_skip (e := 28) (c := false) rfl rfl rfl rfl ?_
  refine lw_skip (e := 28) (c := false) rfl rfl rfl rfl ?_
  refine q_pick false (.bool false) rfl rfl zN ?_
  refine q_assign (.bool false) rfl zN ?_
  refine lw_nil ?_
  refine wp_ret ?_
  exact post_ret [8] rfl (.bool false) rfl ⟨(by first | exact ret_bool (exB_w (by assumption)) | exact ret_bool (exB_t ⟨inB_iff.1 (by assumption),inB_e (by assumption),by omega,by omega⟩) | exact ret_bool ((by assumption : wf p funcs ex vars = true).symm.trans (exB_t ⟨inB_iff.1 (by assumption),inB_e (by assumption),by omega,by omega⟩)) | exact ret_bool (exB_f fun hh => inB_f (by assumption) hh.1) | exact ret_bool (exB_f fun hh => inB_d (by assumption) hh.2.1) | exact ret_bool (exB_f (by omega))),hE2⟩
 ·
  refine q_move (.int .i64 funcs) rfl (zS (e := 11) rfl rfl rfl) ?_
  refine q_fldP (p := (.pointer (some ⟨w.heap.size,0,none⟩))) (b := w.heap.size) (o := 0) 0 fd32_0 rfl rfl (zS (e := 11) rfl rfl rfl) ?_
  refine q_load (p := (padd (.pointer (some ⟨w.heap.size,0,none⟩)) 0)) (.inr rfl) vp one30 rfl (hB1x2.ldp (i := 0) (by simp)) (zS (e := 11) rfl rfl rfl) ?_
  refine q_len (v := vp) u30 rfl hp.isSl (zS (e := 11) rfl rfl rfl) ?_
  refine lw_callq 68 [] [] [(.int .i64 funcs),(.int .i64 ((0 :Nat):Int)),(.int .i64 ((p.length :Nat):Int))] rfl rfl cf68 (zS (e := 11) rfl rfl rfl) (.bool (decide (((0 :Nat):Int) ≤ funcs) && decide (funcs ≤ ((p.length :Nat):Int)))) (fun wq => c_impl_within wq _ _ _ _hfuncs (by omega) (by omega)) ?_
  refine q_pick true (.bool (decide (((0 :Nat):Int) ≤ funcs) && decide (funcs ≤ ((p.length :Nat):Int)))) rfl rfl zN ?_
  refine q_move (.bool (decide (((0 :Nat):Int) ≤ funcs) && decide (funcs ≤ ((p.length :Nat):Int)))) rfl zN ?_
  cases hb7 : (decide (((0 :Nat):Int) ≤ funcs) && decide (funcs ≤ ((p.length :Nat):Int)))
  ·
   refine lw_skip (e := 18) (c := false) rfl rfl rfl rfl ?_
   refine lw_skip (e := 18) (c := false) rfl rfl rfl rfl ?_
   refine lw_skip (e := 18) (c := false) rfl rfl rfl rfl ?_
   refine q_pick false (.bool false) rfl rfl zN ?_
   refine q_move (.bool false) rfl zN ?_
   refine lw_skip (e := 23) (c := false) rfl rfl rfl rfl ?_
   refine lw_skip (e := 23) (c := false) rfl rfl rfl rfl ?_
   refine lw_skip (e := 23) (c := false) rfl rfl rfl rfl ?_
   refine q_pick false (.bool false) rfl rfl zN ?_
   refine q_move (.bool false) rfl zN ?_
   refine lw_skip (e := 28) (c := false) rfl rfl rfl rfl ?_
   refine lw_skip (e := 28) (c := false) rfl rfl rfl rfl ?_
   refine lw_skip (e := 28) (c := false) rfl rfl rfl rfl ?_
   refine lw_skip (e := 28) (c := false) rfl rfl rfl rfl ?_
   refine lw_skip (e := 28) (c := false) rfl rfl rfl rfl ?_
   refine lw_skip (e := 28) (c := false) rfl rfl rfl rfl ?_
   refine q_pick false (.bool false) rfl rfl zN ?_
   refine q_assign (.bool false) rfl zN ?_
   refine lw_nil ?_
   refine wp_ret ?_
   exact post_ret [8] rfl (.bool false) rfl ⟨(by first | exact ret_bool (exB_w (by assumption)) | exact ret_bool (exB_t ⟨inB_iff.1 (by assumption),inB_e (by assumption),by omega,by omega⟩) | exact ret_bool ((by assumption : wf p funcs ex vars = true).symm.trans (exB_t ⟨inB_iff.1 (by assumption),inB_e (by assumption),by omega,by omega⟩)) | exact ret_bool (exB_f fun hh => inB_f (by assumption) hh.1) | exact ret_bool (exB_f fun hh => inB_d (by assumption) hh.2.1) | exact ret_bool (exB_f (by omega))),hE2⟩
  ·
   refine q_loadA (p := (.pointer (some ⟨w1.heap.size,0,none⟩))) (.inr rfl) [(.int .i64 ex.kind),(.int .i64 ex.num),(.int .i64 ex.pick),(.int .i64 ex.count),ve] agg94 rfl (fun w9 hw9 => LD.of_box (BX.ext (w := w2) hB2 hw9)) rfl (zS (e := 18) rfl rfl rfl) ?_
   refine lw_call 120 [] [] [(.agg #[(.int .i64 ex.kind),(.int .i64 ex.num),(.int .i64 ex.pick),(.int .i64 ex.count),ve])] rfl rfl cf120 (zS (e := 18) rfl rfl rfl) (c_impl_ExprSize _ dex ve (ex) (hex.ext hE2) (by omega)) ?_
   rintro e8 w8 ⟨rfl,hX8⟩
   refine ⟨_,rfl,hX8,?_⟩
   have hzs8:=hX8.size
   have hE8:=hE2.trans hX8
   have hB1x8 := hB1x2.ext hX8
   have hB2x8 := hB2.ext hX8
   by_cases hc9 : ((ex.size :Nat):Int) ≤ ((400 :Nat):Int)
   ·
    refine q_leq true rfl rfl (decide_eq_true hc9) (zS (e := 18) rfl rfl rfl) ?_
    refine q_pick true (.bool true) rfl rfl zN ?_
    refine q_move (.bool true) rfl zN ?_
    refine q_loadA (p := (.pointer (some ⟨w1.heap.size,0,none⟩))) (.inr rfl) [(.int .i64 ex.kind),(.int .i64 ex.num),(.int .i64 ex.pick),(.int .i64 ex.count),ve] agg94 rfl (fun w9 hw9 => LD.of_box (BX.ext (w := w8) hB2x8 hw9)) rfl (zS (e := 23) rfl rfl rfl) ?_
    refine lw_call 143 [] [] [(.agg #[(.int .i64 ex.kind),(.int .i64 ex.num),(.int .i64 ex.pick),(.int .i64 ex.count),ve])] rfl rfl cf143 (zS (e := 23) rfl rfl rfl) (c_impl_ExprDepth _ dex ve (ex) (hex.ext hE8) (by omega)) ?_
    rintro e10 w10 ⟨rfl,hX10⟩
    refine ⟨_,rfl,hX10,?_⟩
    have hzs10:=hX10.size
    have hE10:=hE8.trans hX10
    have hB1x10 := hB1x8.ext hX10
    have hB2x10 := hB2x8.ext hX10
    by_cases hc11 : ((ex.deep :Nat):Int) ≤ ((60 :Nat):Int)
    ·
     refine q_leq true rfl rfl (decide_eq_true hc11) (zS (e := 23) rfl rfl rfl) ?_
     refine q_pick true (.bool true) rfl rfl zN ?_
     refine q_move (.bool true) rfl zN ?_
     refine q_loadA (p := (.pointer (some ⟨w.heap.size,0,none⟩))) (.inr rfl) [vp] agg32 rfl (fun w9 hw9 => LD.of_box (BX.ext (w := w10) hB1x10 hw9)) rfl (zS (e := 28) rfl rfl rfl) ?_
     refine q_move (.int .i64 funcs) rfl (zS (e := 28) rfl rfl rfl) ?_
     have hbd12 : ∀ (vp : Value) (m12_0 : Nat) (h12_0 : isSl vp m12_0) (wq : World),(Instr.build 166 #[(0,(.agg #[vp])),(1,(.int .i64 funcs))]).run Tryz.prog wq = .ok (.agg #[vp,(.int .i64 funcs)]) wq := by intro vp m12_0 h12_0 wq; obtain ⟨a12_0,c12_0,rfl,_⟩ := h12_0; kernel_rfl
     refine q_build (ps := #[(0,(.agg #[vp])),(1,(.int .i64 funcs))]) (.agg #[vp,(.int .i64 funcs)]) (by simp only [List.map_toArray,List.map_cons,List.map_nil]; rfl) (fun wq => hbd12 vp _ hp.isSl wq) (zS (e := 28) rfl rfl rfl) ?_
     refine q_loadA (p := (.pointer (some ⟨w1.heap.size,0,none⟩))) (.inr rfl) [(.int .i64 ex.kind),(.int .i64 ex.num),(.int .i64 ex.pick),(.int .i64 ex.count),ve] agg94 rfl (fun w9 hw9 => LD.of_box (BX.ext (w := w10) hB2x10 hw9)) rfl (zS (e := 28) rfl rfl rfl) ?_
     refine q_move (.int .i64 vars) rfl (zS (e := 28) rfl rfl rfl) ?_
     refine lw_call 144 [] [] [(.agg #[vp,(.int .i64 funcs)]),(.agg #[(.int .i64 ex.kind),(.int .i64 ex.num),(.int .i64 ex.pick),(.int .i64 ex.count),ve]),(.int .i64 vars)] rfl rfl cf144 (zS (e := 28) rfl rfl rfl) (c_impl_checker_isFormed _ dp vp (p) (funcs) dex ve (ex) _ (hp.ext (good_rdS (good_rFn dp)) hE10) _hfuncs (hex.ext hE10) _hvars (by have h1 := inB_iff.1 (by assumption : inB vars 0 412 = true); omega) (by have h2 := inB_e (by assumption : (decide (((0 :Nat):Int) ≤ funcs) && decide (funcs ≤ ((p.length :Nat):Int))) = true); omega)) ?_
     rintro e13 w13 ⟨rfl,hX13⟩
     refine ⟨_,rfl,hX13,?_⟩
     have hzs13:=hX13.size
     have hE13:=hE10.trans hX13
     have hB1x13 := hB1x10.ext hX13
     have hB2x13 := hB2x10.ext hX13
     refine q_pick true (.bool (wf p funcs ex vars)) rfl rfl zN ?_
     refine q_assign (.bool (wf p funcs ex vars)) rfl zN ?_
     refine lw_nil ?_
     refine wp_ret ?_
     exact post_ret [8] rfl (.bool (wf p funcs ex vars)) rfl ⟨(by first | exact ret_bool (exB_w (by assumption)) | exact ret_bool (exB_t ⟨inB_iff.1 (by assumption),inB_e (by assumption),by omega,by omega⟩) | exact ret_bool ((by assumption : wf p funcs ex vars = true).symm.trans (exB_t ⟨inB_iff.1 (by assumption),inB_e (by assumption),by omega,by omega⟩)) | exact ret_bool (exB_f fun hh => inB_f (by assumption) hh.1) | exact ret_bool (exB_f fun hh => inB_d (by assumption) hh.2.1) | exact ret_bool (exB_f (by omega))),hE13⟩
    ·
     refine q_leq false rfl rfl (decide_eq_false hc11) (zS (e := 23) rfl rfl rfl) ?_
     refine q_pick true (.bool false) rfl rfl zN ?_
     refine q_move (.bool false) rfl zN ?_
     refine lw_skip (e := 28) (c := false) rfl rfl rfl rfl ?_
     refine lw_skip (e := 28) (c := false) rfl rfl rfl rfl ?_
     refine lw_skip (e := 28) (c := false) rfl rfl rfl rfl ?_
     refine lw_skip (e := 28) (c := false) rfl rfl rfl rfl ?_
     refine lw_skip (e := 28) (c := false) rfl rfl rfl rfl ?_
     refine lw_skip (e := 28) (c := false) rfl rfl rfl rfl ?_
     refine q_pick false (.bool false) rfl rfl zN ?_
     refine q_assign (.bool false) rfl zN ?_
     refine lw_nil ?_
     refine wp_ret ?_
     exact post_ret [8] rfl (.bool false) rfl ⟨(by first | exact ret_bool (exB_w (by assumption)) | exact ret_bool (exB_t ⟨inB_iff.1 (by assumption),inB_e (by assumption),by omega,by omega⟩) | exact ret_bool ((by assumption : wf p funcs ex vars = true).symm.trans (exB_t ⟨inB_iff.1 (by assumption),inB_e (by assumption),by omega,by omega⟩)) | exact ret_bool (exB_f fun hh => inB_f (by assumption) hh.1) | exact ret_bool (exB_f fun hh => inB_d (by assumption) hh.2.1) | exact ret_bool (exB_f (by omega))),hE10⟩
   ·
    refine q_leq false rfl rfl (decide_eq_false hc9) (zS (e := 18) rfl rfl rfl) ?_
    refine q_pick true (.bool false) rfl rfl zN ?_
    refine q_move (.bool false) rfl zN ?_
    refine lw_skip (e := 23) (c := false) rfl rfl rfl rfl ?_
    refine lw_skip (e := 23) (c := false) rfl rfl rfl rfl ?_
    refine lw_skip (e := 23) (c := false) rfl rfl rfl rfl ?_
    refine q_pick false (.bool false) rfl rfl zN ?_
    refine q_move (.bool false) rfl zN ?_
    refine lw_skip (e := 28) (c := false) rfl rfl rfl rfl ?_
    refine lw_skip (e := 28) (c := false) rfl rfl rfl rfl ?_
    refine lw_skip (e := 28) (c := false) rfl rfl rfl rfl ?_
    refine lw_skip (e := 28) (c := false) rfl rfl rfl rfl ?_
    refine lw_skip (e := 28) (c := false) rfl rfl rfl rfl ?_
    refine lw_skip (e := 28) (c := false) rfl rfl rfl rfl ?_
    refine q_pick false (.bool false) rfl rfl zN ?_
    refine q_assign (.bool false) rfl zN ?_
    refine lw_nil ?_
    refine wp_ret ?_
    exact post_ret [8] rfl (.bool false) rfl ⟨(by first | exact ret_bool (exB_w (by assumption)) | exact ret_bool (exB_t ⟨inB_iff.1 (by assumption),inB_e (by assumption),by omega,by omega⟩) | exact ret_bool ((by assumption : wf p funcs ex vars = true).symm.trans (exB_t ⟨inB_iff.1 (by assumption),inB_e (by assumption),by omega,by omega⟩)) | exact ret_bool (exB_f fun hh => inB_f (by assumption) hh.1) | exact ret_bool (exB_f fun hh => inB_d (by assumption) hh.2.1) | exact ret_bool (exB_f (by omega))),hE8⟩
theorem ok_big {p : List Fn} (h : ¬ p.length ≤ 16) : false = okP p := by unfold okP; rw [decide_eq_false h]; rfl
theorem ok_bad {p : List Fn} {k : Nat} (hk : k < p.length) (h : fnB p k = false) : false = okP p := by unfold okP; rw [allR_fail hk h, Bool.and_false]
theorem ok_end {p : List Fn} {k : Nat} (hl : p.length ≤ 16) (hk : p.length ≤ k) (hk2 : k ≤ p.length) (h : (List.range k).all (fnB p) = true) : true = okP p := by
  have : k = p.length := by omega
  subst this; unfold okP; rw [h, decide_eq_true hl]; rfl
section
variable {p : List Fn} {k : Nat}
theorem fn_1 (h : nmB (p.getD k Fn.zero).name = false) : fnB p k = false := by unfold fnB; rw [h]; rfl
theorem fn_2 (h : (p.take k).any (fun g => strE g.name (p.getD k Fn.zero).name) = true) : fnB p k = false := by unfold fnB newB; rw [h]; simp
theorem fn_3 (h : (decide (((0 : Nat) : Int) ≤ (p.getD k Fn.zero).params) && decide ((p.getD k Fn.zero).params ≤ ((12 : Nat) : Int))) = false) : fnB p k = false := by
  have h' : inB (p.getD k Fn.zero).params 0 12 = false := h
  unfold fnB; rw [h']; simp
theorem fn_4 (h : (decide (((1 : Nat) : Int) ≤ (((p.getD k Fn.zero).outs.length : Nat) : Int)) && decide ((((p.getD k Fn.zero).outs.length : Nat) : Int) ≤ ((12 : Nat) : Int))) = false) : fnB p k = false := by
  have h' : inB (((p.getD k Fn.zero).outs.length : Nat) : Int) 1 12 = false := h
  unfold fnB; rw [h']; simp
theorem fn_5 {j : Nat} (hj : j < (p.getD k Fn.zero).outs.length) (h : exB p ((p.getD k Fn.zero).outs.getD j Ex.zero) (p.getD k Fn.zero).params ((k : Nat) : Int) = false) : fnB p k = false := by
  unfold fnB
  rw [allR_fail hj h]; simp
theorem fn_6 (h : ¬ Ex.sizes (p.getD k Fn.zero).outs ≤ 400) : fnB p k = false := by
  unfold fnB; rw [decide_eq_false h]; simp
theorem fn_ok {j : Nat} (h1 : nmB (p.getD k Fn.zero).name = true) (h2 : (p.take k).any (fun g => strE g.name (p.getD k Fn.zero).name) = false) (h3 : (decide (((0 : Nat) : Int) ≤ (p.getD k Fn.zero).params) && decide ((p.getD k Fn.zero).params ≤ ((12 : Nat) : Int))) = true) (h4 : (decide (((1 : Nat) : Int) ≤ (((p.getD k Fn.zero).outs.length : Nat) : Int)) && decide ((((p.getD k Fn.zero).outs.length : Nat) : Int) ≤ ((12 : Nat) : Int))) = true) (h5 : (List.range j).all (fun j => exB p ((p.getD k Fn.zero).outs.getD j Ex.zero) (p.getD k Fn.zero).params ((k : Nat) : Int)) = true) (hj : j = (p.getD k Fn.zero).outs.length) (h6 : Ex.sizes (p.getD k Fn.zero).outs ≤ 400) : fnB p k = true := by
  have h3' : inB (p.getD k Fn.zero).params 0 12 = true := h3
  have h4' : inB (((p.getD k Fn.zero).outs.length : Nat) : Int) 1 12 = true := h4
  subst hj
  unfold fnB newB
  rw [h1, h2, h3', h4', h5, decide_eq_true h6]; rfl
end
theorem bn_f {b : Bool} (h : (!b) = false) : b = true := by cases b <;> simp_all
theorem bn_t {b : Bool} (h : (!b) = true) : b = false := by cases b <;> simp_all
set_option maxHeartbeats 4000000 in
set_option maxRecDepth 100000 in
theorem c_impl_ValidProgram (w : World) (dp : Nat) (vp : Value) (p : List Fn) (hp : RP [] dp w.heap vp p) (hz : SzP p) :
  Calls Tryz.prog 83 #[(.agg #[vp])] w (fun e w' => e = .returned (.bool (okP p)) ∧ Ext w w') := by
 refine calls_mk [(.agg #[vp])] 65 Tryz.func83 rfl rfl (by simp) ?_
 have hE0 : Ext w w := Ext.refl w
 have hl_vp := hp.lenle
 unfold maxLen at hl_vp
 refine wp_seq ?_
 refine wp_plain _ [3,0] rfl ?_
 refine r_boxA (cs := #[vp]) rfl zN ?_
 intro w1 hX1 hz1 hB1
 have hzs1:=hX1.size
 have hE1:=hE0.trans hX1
 replace hB1 : BX w1.heap w.heap.size [vp] := hB1
 refine q_assign (.bool false) rfl zN ?_
 refine lw_nil ?_
 refine wp_seq ?_
 refine wp_seq ?_
 refine wp_plain _ [0,2,0,0] rfl ?_
 refine q_fldP (p := (.pointer (some ⟨w.heap.size,0,none⟩))) (b := w.heap.size) (o := 0) 0 fd32_0 rfl rfl zN ?_
 refine q_load (p := (padd (.pointer (some ⟨w.heap.size,0,none⟩)) 0)) (.inr rfl) vp one30 rfl (hB1.ldp (i := 0) (by simp)) zN ?_
 refine q_len (v := vp) u30 rfl hp.isSl zN ?_
 by_cases hc2 : ((16 :Nat):Int) < ((p.length :Nat):Int)
 ·
  refine q_gtr true rfl rfl (decide_eq_true hc2) zN ?_
  refine lw_nil ?_
  refine c_cond_t rfl ?_
  refine wp_seq ?_
  refine wp_plain _ [0] rfl ?_
  refine q_assign (.bool false) rfl zN ?_
  refine lw_nil ?_
  refine wp_ret ?_
  refine t_ret ?_
  exact post_ret [2] rfl (.bool false) rfl ⟨(by first | exact ret_bool (ok_big (by omega)) | exact ret_bool (ok_end (by omega) (by omega) (by omega) hq) | exact ret_bool (ok_bad (k := k) (by omega) (fn_1 (bn_t (by assumption)))) | exact ret_bool (ok_bad (k := k) (by omega) (fn_2 (by assumption))) | exact ret_bool (ok_bad (k := k) (by omega) (fn_3 (bn_t (by assumption)))) | exact ret_bool (ok_bad (k := k) (by omega) (fn_4 (bn_t (by assumption)))) | exact ret_bool (ok_bad (k := k) (by omega) (fn_5 (j := j) (by omega) (bn_t (by assumption)))) | exact ret_bool (ok_bad (k := k) (by omega) (fn_6 (by omega)))),hE1⟩
 ·
  refine q_gtr false rfl rfl (decide_eq_false hc2) zN ?_
  refine lw_nil ?_
  refine c_cond_f rfl ?_
  refine wp_skip ?_
  refine wp_seq ?_
  refine wp_seq ?_
  refine wp_plain _ [0,2,0,0] rfl ?_
  refine q_fldP (p := (.pointer (some ⟨w.heap.size,0,none⟩))) (b := w.heap.size) (o := 0) 0 fd32_0 rfl rfl zN ?_
  refine q_load (p := (padd (.pointer (some ⟨w.heap.size,0,none⟩)) 0)) (.inr rfl) vp one30 rfl (hB1.ldp (i := 0) (by simp)) zN ?_
  refine q_len (v := vp) u30 rfl hp.isSl zN ?_
  refine q_move (.int .i64 ((0 :Nat):Int)) rfl zN ?_
  refine lw_nil ?_
  refine wp_block ?_
  refine c_loop (S := Nat) (fun (k : Nat) => ([(15,(.int .i64 ((k :Nat):Int))),(1,(.pointer (some ⟨w.heap.size,0,none⟩))),(13,vp),(14,(.int .i64 ((p.length :Nat):Int)))] : List (Nat × Value))) (fun (k : Nat) (W : World) => Ext w W ∧ BX W.heap w.heap.size [vp] ∧ k ≤ p.length ∧ (List.range k).all (fnB p) = true) (fun (k : Nat) => p.length - k) 0 ⟨rfl,rfl,rfl,rfl,trivial⟩ ⟨hE1,hB1,(by first | omega | assumption | (simp; done) | (simp; omega)),(by rfl)⟩ ?_
  clear hE0 hz1 hX1 hzs1 hE1
  rintro k ρ3 w3 ⟨hE3,hL3_0,hp3_0,hq⟩
  have hzs3 : w.heap.size ≤ w3.heap.size := hE3.size
  have hq4 := hL3_0.lt
  refine wp_seq ?_
  refine wp_plain _ [0] rfl ?_
  by_cases hc5 : ((k :Nat):Int) < ((p.length :Nat):Int)
  ·
   refine q_lss true rfl rfl (decide_eq_true hc5) zN ?_
   refine lw_nil ?_
   refine wp_seq ?_
   refine c_cond_t rfl ?_
   refine wp_skip ?_
   refine wp_seq ?_
   refine wp_block ?_
   refine wp_seq ?_
   refine wp_plain _ [0,0,2,3,0,4] rfl ?_
   refine q_move (.int .i64 ((k :Nat):Int)) rfl zN ?_
   refine q_idx (v := vp) k u30 tiS80 rfl rfl hp.isSl rfl (by first | omega | assumption | (simp; done) | (simp; omega)) zN ?_
   obtain ⟨cs6,hr6,hl6⟩ := hp.get (good_rFn dp) Fn.zero (k := k) (by first | omega | assumption | (simp; done) | (simp; omega))
   obtain ⟨ve6,rfl,hx6⟩ := RF.of hr6
   have hln6 := hx6.rn.lenle
   unfold maxLen at hln6
   refine q_loadA (p := eptr vp k 3) (.inr rfl) [(.string ((p.getD k Fn.zero).name)),(.int .i64 ((p.getD k Fn.zero).params)),ve6] agg80 rfl (fun w9 hw9 => hl6 w9 (Chg.of_ext [] (hE3.trans hw9))) rfl zN ?_
   have hq8 := hL3_0.lt
   refine r_allocA (z := .agg #[.string ByteArray.empty,.int .i64 0,.slice none 0 0]) zr80 zN ?_
   intro w7 hX7 hz7 hB7
   have hzs7:=hX7.size
   have hE7:=hE3.trans hX7
   have hL3_0x7 := hL3_0.ext hX7
   replace hB7 : BX w7.heap w3.heap.size [(.string ByteArray.empty),(.int .i64 0),(.slice none 0 0)] := hB7
   refine q_assign (.int .i64 ((k :Nat):Int)) rfl zN ?_
   refine e_setA (vs := [(.string ((p.getD k Fn.zero).name)),(.int .i64 ((p.getD k Fn.zero).params)),ve6]) agg80 rfl rfl hx6.ones hB7 rfl rfl zN ?_
   intro w9 hC9 hz9 hB9
   replace hB9 : BX w9.heap w3.heap.size [(.string ((p.getD k Fn.zero).name)),(.int .i64 ((p.getD k Fn.zero).params)),ve6] := hB9
   have hE9 : Ext w w9 := hC9.below hE7 (fun c hc => by have := List.mem_singleton.1 hc; omega) hE7.size
   have hzs9:=hC9.size
   have hF10 := hL3_0x7.chg hC9 (fun hm => by have := List.mem_singleton.1 hm; omega)
   refine lw_nil ?_
   refine wp_seq ?_
   refine wp_seq ?_
   refine wp_plain _ [0,2,0,0,0,0,2,0,0,0,3,0] rfl ?_
   have hzk := hz k (by omega)
   refine q_fldP (p := (.pointer (some ⟨w3.heap.size,0,none⟩))) (b := w3.heap.size) (o := 0) 0 fd80_0 rfl rfl zN ?_
   refine q_load (p := (padd (.pointer (some ⟨w3.heap.size,0,none⟩)) 0)) (.inr rfl) (.string ((p.getD k Fn.zero).name)) one9 rfl (hB9.ldp (i := 0) (by simp)) zN ?_
   refine lw_callq 116 [] [] [(.string ((p.getD k Fn.zero).name))] rfl rfl cf116 zN (.bool (nmB ((p.getD k Fn.zero).name))) (fun wq => c_impl_IsName wq ((p.getD k Fn.zero).name) (by omega)) ?_
   refine q_not (!(nmB ((p.getD k Fn.zero).name))) rfl rfl zN ?_
   refine q_move (.bool (!(nmB ((p.getD k Fn.zero).name)))) rfl zN ?_
   cases hb12 : (!(nmB ((p.getD k Fn.zero).name)))
   ·
    refine q_fldP (p := (.pointer (some ⟨w.heap.size,0,none⟩))) (b := w.heap.size) (o := 0) 0 fd32_0 rfl rfl (zS (e := 24) rfl rfl rfl) ?_
    refine q_load (p := (padd (.pointer (some ⟨w.heap.size,0,none⟩)) 0)) (.inr rfl) vp one30 rfl (hF10.ldp (i := 0) (by simp)) (zS (e := 24) rfl rfl rfl) ?_
    refine q_move (.int .i64 ((k :Nat):Int)) rfl (zS (e := 24) rfl rfl rfl) ?_
    refine q_pref (v := vp) (k := k) u30 tiS80 rfl hp.isSl hp.capS rfl (by first | omega | assumption | (simp; done) | (simp; omega)) (zS (e := 24) rfl rfl rfl) ?_
    have hpf13 := RN.pref (good_rFn dp) (k := k) hp (by first | omega | assumption | (simp; done) | (simp; omega))
    refine q_func [] [(.pointer (some ⟨w3.heap.size,0,none⟩))] rfl rfl (zS (e := 24) rfl rfl rfl) ?_
    refine lw_call 117 [] [] [(prefV vp k),(.func (.func 118) #[] #[(.pointer (some ⟨w3.heap.size,0,none⟩))])] rfl rfl cf117 (zS (e := 24) rfl rfl rfl) (c_slices_ContainsFunc___impl_Func_impl_Func_ _ dp (prefV vp k) (p.take k) 118 [] [(.pointer (some ⟨w3.heap.size,0,none⟩))] (fun g => strE g.name (p.getD k Fn.zero).name) (hpf13.ext (good_rdS (good_rFn dp)) hE9) cf118 (fun d9 u x w1 hx hw => c_impl_ValidProgram_1 w1 d9 u x w3.heap.size ve6 (p.getD k Fn.zero) hx (hB9.ext hw))) ?_
    rintro e14 w14 ⟨rfl,hX14⟩
    refine ⟨_,rfl,hX14,?_⟩
    have hzs14:=hX14.size
    have hE14:=hE9.trans hX14
    have hF10x14 := hF10.ext hX14
    have hB9x14 := hB9.ext hX14
    refine q_pick false (.bool ((p.take k).any (fun g => strE g.name (p.getD k Fn.zero).name))) rfl rfl zN ?_
    refine lw_nil ?_
    cases hb15 : ((p.take k).any (fun g => strE g.name (p.getD k Fn.zero).name))
    ·
     refine c_cond_f (by first | rfl | (show Value.bool _ = _; rw [hb15])) ?_
     refine wp_skip ?_
     refine wp_seq ?_
     refine wp_seq ?_
     refine wp_plain _ [0,2,0,0,0,0,2,0,0,0,0] rfl ?_
     refine q_fldP (p := (.pointer (some ⟨w3.heap.size,0,none⟩))) (b := w3.heap.size) (o := 0) 1 fd80_1 rfl rfl zN ?_
     refine q_load (p := (padd (.pointer (some ⟨w3.heap.size,0,none⟩)) 1)) (.inr rfl) (.int .i64 ((p.getD k Fn.zero).params)) one2 rfl (hB9x14.ldp (i := 1) (by simp)) zN ?_
     refine lw_callq 68 [] [] [(.int .i64 ((p.getD k Fn.zero).params)),(.int .i64 ((0 :Nat):Int)),(.int .i64 ((12 :Nat):Int))] rfl rfl cf68 zN (.bool (decide (((0 :Nat):Int) ≤ ((p.getD k Fn.zero).params)) && decide (((p.getD k Fn.zero).params) ≤ ((12 :Nat):Int)))) (fun wq => c_impl_within wq _ _ _ hx6.rng (by omega) (by omega)) ?_
     refine q_not (!(decide (((0 :Nat):Int) ≤ ((p.getD k Fn.zero).params)) && decide (((p.getD k Fn.zero).params) ≤ ((12 :Nat):Int)))) rfl rfl zN ?_
     refine q_move (.bool (!(decide (((0 :Nat):Int) ≤ ((p.getD k Fn.zero).params)) && decide (((p.getD k Fn.zero).params) ≤ ((12 :Nat):Int))))) rfl zN ?_
     cases hb17 : (!(decide (((0 :Nat):Int) ≤ ((p.getD k Fn.zero).params)) && decide (((p.getD k Fn.zero).params) ≤ ((12 :Nat):Int))))
     ·
      refine q_fldP (p := (.pointer (some ⟨w3.heap.size,0,none⟩))) (b := w3.heap.size) (o := 0) 2 fd80_2 rfl rfl (zS (e := 36) rfl rfl rfl) ?_
      refine q_load (p := (padd (.pointer (some ⟨w3.heap.size,0,none⟩)) 2)) (.inr rfl) ve6 one78 rfl (hB9x14.ldp (i := 2) (by simp)) (zS (e := 36) rfl rfl rfl) ?_
      refine q_len (v := ve6) u78 rfl hx6.rn.isSl (zS (e := 36) rfl rfl rfl) ?_
      refine lw_callq 68 [] [] [(.int .i64 ((((p.getD k Fn.zero).outs).length :Nat):Int)),(.int .i64 ((1 :Nat):Int)),(.int .i64 ((12 :Nat):Int))] rfl rfl cf68 (zS (e := 36) rfl rfl rfl) (.bool (decide (((1 :Nat):Int) ≤ ((((p.getD k Fn.zero).outs).length :Nat):Int)) && decide (((((p.getD k Fn.zero).outs).length :Nat):Int) ≤ ((12 :Nat):Int)))) (fun wq => c_impl_within wq _ _ _ (by omega) (by omega) (by omega)) ?_
      refine q_not (!(decide (((1 :Nat):Int) ≤ ((((p.getD k Fn.zero).outs).length :Nat):Int)) && decide (((((p.getD k Fn.zero).outs).length :Nat):Int) ≤ ((12 :Nat):Int)))) rfl rfl (zS (e := 36) rfl rfl rfl) ?_
      refine q_pick false (.bool (!(decide (((1 :Nat):Int) ≤ ((((p.getD k Fn.zero).outs).length :Nat):Int)) && decide (((((p.getD k Fn.zero).outs).length :Nat):Int) ≤ ((12 :Nat):Int))))) rfl rfl zN ?_
      refine lw_nil ?_
      cases hb19 : (!(decide (((1 :Nat):Int) ≤ ((((p.getD k Fn.zero).outs).length :Nat):Int)) && decide (((((p.getD k Fn.zero).outs).length :Nat):Int) ≤ ((12 :Nat):Int))))
      ·
       refine c_cond_f (by first | rfl | (show Value.bool _ = _; rw [hb19])) ?_
       refine wp_skip ?_
       refine wp_seq ?_
       refine wp_plain _ [0] rfl ?_
       refine q_assign (.int .i64 ((0 :Nat):Int)) rfl zN ?_
       refine lw_nil ?_
       refine wp_seq ?_
       refine wp_seq ?_
       refine wp_plain _ [0,2,0,0] rfl ?_
       refine q_fldP (p := (.pointer (some ⟨w3.heap.size,0,none⟩))) (b := w3.heap.size) (o := 0) 2 fd80_2 rfl rfl zN ?_
       refine q_load (p := (padd (.pointer (some ⟨w3.heap.size,0,none⟩)) 2)) (.inr rfl) ve6 one78 rfl (hB9x14.ldp (i := 2) (by simp)) zN ?_
       refine q_len (v := ve6) u78 rfl hx6.rn.isSl zN ?_
       refine q_move (.int .i64 ((0 :Nat):Int)) rfl zN ?_
       refine lw_nil ?_
       refine wp_block ?_
       refine c_loop (S := Nat × Nat) (fun (⟨j,sz⟩ : Nat × Nat) => ([(5,(.int .i64 ((sz :Nat):Int))),(46,(.int .i64 ((j :Nat):Int))),(1,(.pointer (some ⟨w.heap.size,0,none⟩))),(3,(.int .i64 ((k :Nat):Int))),(4,(.pointer (some ⟨w3.heap.size,0,none⟩))),(13,vp),(14,(.int .i64 ((p.length :Nat):Int))),(15,(.int .i64 ((k :Nat):Int))),(44,ve6),(45,(.int .i64 ((((p.getD k Fn.zero).outs).length :Nat):Int)))] : List (Nat × Value))) (fun (⟨j,sz⟩ : Nat × Nat) (W : World) => Ext w W ∧ BX W.heap w.heap.size [vp] ∧ BX W.heap w3.heap.size [(.string ((p.getD k Fn.zero).name)),(.int .i64 ((p.getD k Fn.zero).params)),ve6] ∧ j ≤ (p.getD k Fn.zero).outs.length ∧ sz = Ex.sizes ((p.getD k Fn.zero).outs.take j) ∧ (List.range j).all (fun j => exB p ((p.getD k Fn.zero).outs.getD j Ex.zero) (p.getD k Fn.zero).params ((k :Nat):Int)) = true) (fun (⟨j,sz⟩ : Nat × Nat) => (p.getD k Fn.zero).outs.length - j) (0,0) ⟨rfl,rfl,rfl,rfl,rfl,rfl,rfl,rfl,rfl,rfl,trivial⟩ ⟨hE14,hF10x14,hB9x14,(by first | omega | assumption | (simp; done) | (simp; omega)),(by rw [List.take_zero,sizes_nil]),(by rfl)⟩ ?_
       clear hL3_0 hE3 hzs3 hln6 hz7 hX7 hzs7 hE7 hL3_0x7 hz9 hC9 hE9 hzs9 hF10 hX14 hzs14 hE14 hF10x14
       rintro ⟨j,sz⟩ ρ20 w20 ⟨hE20,hL20_0,hL20_1,hp20_0,hsz,hqe⟩
       have hzs20 : w.heap.size ≤ w20.heap.size := hE20.size
       have hq21 := hL20_0.lt
       have hq22 := hL20_1.lt
       refine wp_seq ?_
       refine wp_plain _ [0] rfl ?_
       by_cases hc23 : ((j :Nat):Int) < ((((p.getD k Fn.zero).outs).length :Nat):Int)
       ·
        refine q_lss true rfl rfl (decide_eq_true hc23) zN ?_
        refine lw_nil ?_
        refine wp_seq ?_
        refine c_cond_t rfl ?_
        refine wp_skip ?_
        refine wp_seq ?_
        refine wp_block ?_
        refine wp_seq ?_
        refine wp_plain _ [0,2,3,4] rfl ?_
        refine q_idx (v := ve6) j u78 tiS94 rfl rfl hx6.rn.isSl rfl (by first | omega | assumption | (simp; done) | (simp; omega)) zN ?_
        obtain ⟨cs24,hr24,hl24⟩ := hx6.rn.get (good_rEx dp) Ex.zero (k := j) (by first | omega | assumption | (simp; done) | (simp; omega))
        obtain ⟨dd24,ve24,hd24,rfl,hx24⟩ := RX.of hr24
        have hln24 := hx24.rn.lenle
        unfold maxLen at hln24
        refine q_loadA (p := eptr ve6 j 5) (.inr rfl) [(.int .i64 ((((p.getD k Fn.zero).outs).getD j Ex.zero).kind)),(.int .i64 ((((p.getD k Fn.zero).outs).getD j Ex.zero).num)),(.int .i64 ((((p.getD k Fn.zero).outs).getD j Ex.zero).pick)),(.int .i64 ((((p.getD k Fn.zero).outs).getD j Ex.zero).count)),ve24] agg94 rfl (fun w9 hw9 => hl24 w9 (Chg.of_ext [] (hE20.trans hw9))) rfl zN ?_
        have hq26 := hL20_0.lt
        have hq27 := hL20_1.lt
        refine r_allocA (z := .agg #[.int .i64 0,.int .i64 0,.int .i64 0,.int .i64 0,.slice none 0 0]) zr94 zN ?_
        intro w25 hX25 hz25 hB25
        have hzs25:=hX25.size
        have hE25:=hE20.trans hX25
        have hL20_0x25 := hL20_0.ext hX25
        have hL20_1x25 := hL20_1.ext hX25
        replace hB25 : BX w25.heap w20.heap.size [(.int .i64 0),(.int .i64 0),(.int .i64 0),(.int .i64 0),(.slice none 0 0)] := hB25
        refine e_setA (vs := [(.int .i64 ((((p.getD k Fn.zero).outs).getD j Ex.zero).kind)),(.int .i64 ((((p.getD k Fn.zero).outs).getD j Ex.zero).num)),(.int .i64 ((((p.getD k Fn.zero).outs).getD j Ex.zero).pick)),(.int .i64 ((((p.getD k Fn.zero).outs).getD j Ex.zero).count)),ve24]) agg94 rfl rfl hx24.ones hB25 rfl rfl zN ?_
        intro w28 hC28 hz28 hB28
        replace hB28 : BX w28.heap w20.heap.size [(.int .i64 ((((p.getD k Fn.zero).outs).getD j Ex.zero).kind)),(.int .i64 ((((p.getD k Fn.zero).outs).getD j Ex.zero).num)),(.int .i64 ((((p.getD k Fn.zero).outs).getD j Ex.zero).pick)),(.int .i64 ((((p.getD k Fn.zero).outs).getD j Ex.zero).count)),ve24] := hB28
        have hE28 : Ext w w28 := hC28.below hE25 (fun c hc => by have := List.mem_singleton.1 hc; omega) hE25.size
        have hzs28:=hC28.size
        have hF29 := hL20_0x25.chg hC28 (fun hm => by have := List.mem_singleton.1 hm; omega)
        have hF30 := hL20_1x25.chg hC28 (fun hm => by have := List.mem_singleton.1 hm; omega)
        refine lw_nil ?_
        refine wp_seq ?_
        refine wp_seq ?_
        refine wp_plain _ [2,2,0,2,0,3,0] rfl ?_
        have hst := sizes_step (l := (p.getD k Fn.zero).outs) (k := j) (by omega)
        have hle := sizes_take (p.getD k Fn.zero).outs (j + 1)
        refine q_loadA (p := (.pointer (some ⟨w.heap.size,0,none⟩))) (.inr rfl) [vp] agg32 rfl (fun w9 hw9 => LD.of_box (BX.ext (w := w28) hF29 hw9)) rfl zN ?_
        refine q_loadA (p := (.pointer (some ⟨w20.heap.size,0,none⟩))) (.inr rfl) [(.int .i64 ((((p.getD k Fn.zero).outs).getD j Ex.zero).kind)),(.int .i64 ((((p.getD k Fn.zero).outs).getD j Ex.zero).num)),(.int .i64 ((((p.getD k Fn.zero).outs).getD j Ex.zero).pick)),(.int .i64 ((((p.getD k Fn.zero).outs).getD j Ex.zero).count)),ve24] agg94 rfl (fun w9 hw9 => LD.of_box (BX.ext (w := w28) hB28 hw9)) rfl zN ?_
        refine q_fldP (p := (.pointer (some ⟨w3.heap.size,0,none⟩))) (b := w3.heap.size) (o := 0) 1 fd80_1 rfl rfl zN ?_
        refine q_load (p := (padd (.pointer (some ⟨w3.heap.size,0,none⟩)) 1)) (.inr rfl) (.int .i64 ((p.getD k Fn.zero).params)) one2 rfl (hF30.ldp (i := 1) (by simp)) zN ?_
        refine q_move (.int .i64 ((k :Nat):Int)) rfl zN ?_
        refine lw_call 119 [] [] [(.agg #[vp]),(.agg #[(.int .i64 ((((p.getD k Fn.zero).outs).getD j Ex.zero).kind)),(.int .i64 ((((p.getD k Fn.zero).outs).getD j Ex.zero).num)),(.int .i64 ((((p.getD k Fn.zero).outs).getD j Ex.zero).pick)),(.int .i64 ((((p.getD k Fn.zero).outs).getD j Ex.zero).count)),ve24]),(.int .i64 ((p.getD k Fn.zero).params)),(.int .i64 ((k :Nat):Int))] rfl rfl cf119 zN (c_impl_ValidExpr _ dp vp (p) dd24 ve24 (((p.getD k Fn.zero).outs).getD j Ex.zero) _ _ (hp.ext (good_rdS (good_rFn dp)) hE28) (hx24.ext hE28) hx6.rng (by omega) (by omega)) ?_
        rintro e31 w31 ⟨rfl,hX31⟩
        refine ⟨_,rfl,hX31,?_⟩
        have hzs31:=hX31.size
        have hE31:=hE28.trans hX31
        have hF29x31 := hF29.ext hX31
        have hF30x31 := hF30.ext hX31
        have hB28x31 := hB28.ext hX31
        refine q_not (!(exB p (((p.getD k Fn.zero).outs).getD j Ex.zero) ((p.getD k Fn.zero).params) ((k :Nat):Int))) rfl rfl zN ?_
        refine lw_nil ?_
        cases hb32 : (!(exB p (((p.getD k Fn.zero).outs).getD j Ex.zero) ((p.getD k Fn.zero).params) ((k :Nat):Int)))
        ·
         refine c_cond_f (by first | rfl | (show Value.bool _ = _; rw [hb32])) ?_
         refine wp_skip ?_
         refine wp_plain _ [0,2,3,0,0] rfl ?_
         refine q_move (.int .i64 ((sz :Nat):Int)) rfl zN ?_
         refine q_loadA (p := (.pointer (some ⟨w20.heap.size,0,none⟩))) (.inr rfl) [(.int .i64 ((((p.getD k Fn.zero).outs).getD j Ex.zero).kind)),(.int .i64 ((((p.getD k Fn.zero).outs).getD j Ex.zero).num)),(.int .i64 ((((p.getD k Fn.zero).outs).getD j Ex.zero).pick)),(.int .i64 ((((p.getD k Fn.zero).outs).getD j Ex.zero).count)),ve24] agg94 rfl (fun w9 hw9 => LD.of_box (BX.ext (w := w31) hB28x31 hw9)) rfl zN ?_
         refine lw_call 120 [] [] [(.agg #[(.int .i64 ((((p.getD k Fn.zero).outs).getD j Ex.zero).kind)),(.int .i64 ((((p.getD k Fn.zero).outs).getD j Ex.zero).num)),(.int .i64 ((((p.getD k Fn.zero).outs).getD j Ex.zero).pick)),(.int .i64 ((((p.getD k Fn.zero).outs).getD j Ex.zero).count)),ve24])] rfl rfl cf120 zN (c_impl_ExprSize _ dd24 ve24 (((p.getD k Fn.zero).outs).getD j Ex.zero) (hx24.ext hE31) (by omega)) ?_
         rintro e33 w33 ⟨rfl,hX33⟩
         refine ⟨_,rfl,hX33,?_⟩
         have hzs33:=hX33.size
         have hE33:=hE31.trans hX33
         have hF29x33 := hF29x31.ext hX33
         have hF30x33 := hF30x31.ext hX33
         have hB28x33 := hB28x31.ext hX33
         refine q_add ((sz + ((p.getD k Fn.zero).outs.getD j Ex.zero).size :Nat):Int) rfl rfl (w64n (by omega) (by omega)) zN ?_
         refine q_assign (.int .i64 ((sz + ((p.getD k Fn.zero).outs.getD j Ex.zero).size :Nat):Int)) rfl zN ?_
         refine lw_nil ?_
         refine wp_plain _ [0,0] rfl ?_
         refine q_add ((j + 1 :Nat):Int) rfl rfl (w64n (by omega) (by first | omega | assumption | (simp; done) | (simp; omega))) zN ?_
         refine q_move (.int .i64 ((j + 1 :Nat):Int)) rfl zN ?_
         refine lw_nil ?_
         exact ⟨((j + 1),(sz + ((p.getD k Fn.zero).outs.getD j Ex.zero).size)),_,rfl,⟨rfl,rfl,rfl,rfl,rfl,rfl,rfl,rfl,rfl,rfl,trivial⟩,⟨hE33,hF29x33,hF30x33,(by first | omega | assumption | (simp; done) | (simp; omega)),(by omega),(by exact allR_succ hqe (bn_f (by assumption)))⟩,by first | omega | (dsimp only; omega)⟩
        ·
         refine c_cond_t (by first | rfl | (show Value.bool _ = _; rw [hb32])) ?_
         refine wp_seq ?_
         refine wp_plain _ [0] rfl ?_
         refine q_assign (.bool false) rfl zN ?_
         refine lw_nil ?_
         refine wp_ret ?_
         refine t_ret ?_
         refine b_ret ?_
         refine t_ret ?_
         refine t_ret ?_
         refine b_ret ?_
         refine t_ret ?_
         refine b_ret ?_
         refine t_ret ?_
         refine t_ret ?_
         refine b_ret ?_
         refine t_ret ?_
         exact post_ret [2] rfl (.bool false) rfl ⟨(by first | exact ret_bool (ok_big (by omega)) | exact ret_bool (ok_end (by omega) (by omega) (by omega) hq) | exact ret_bool (ok_bad (k := k) (by omega) (fn_1 (bn_t (by assumption)))) | exact ret_bool (ok_bad (k := k) (by omega) (fn_2 (by assumption))) | exact ret_bool (ok_bad (k := k) (by omega) (fn_3 (bn_t (by assumption)))) | exact ret_bool (ok_bad (k := k) (by omega) (fn_4 (bn_t (by assumption)))) | exact ret_bool (ok_bad (k := k) (by omega) (fn_5 (j := j) (by omega) (bn_t (by assumption)))) | exact ret_bool (ok_bad (k := k) (by omega) (fn_6 (by omega)))),hE31⟩
       ·
        refine q_lss false rfl rfl (decide_eq_false hc23) zN ?_
        refine lw_nil ?_
        refine wp_seq ?_
        refine c_cond_f rfl ?_
        refine wp_exit ?_
        refine t_exit ?_
        refine t_exit ?_
        refine c_exit_here ?_
        refine wp_seq ?_
        refine wp_plain _ [0,0] rfl ?_
        have hal := sizes_all (l := (p.getD k Fn.zero).outs) (k := j) (by omega)
        refine q_move (.int .i64 ((sz :Nat):Int)) rfl zN ?_
        by_cases hc34 : ((400 :Nat):Int) < ((sz :Nat):Int)
        ·
         refine q_gtr true rfl rfl (decide_eq_true hc34) zN ?_
         refine lw_nil ?_
         refine c_cond_t rfl ?_
         refine wp_seq ?_
         refine wp_plain _ [0] rfl ?_
         refine q_assign (.bool false) rfl zN ?_
         refine lw_nil ?_
         refine wp_ret ?_
         refine b_ret ?_
         refine t_ret ?_
         refine t_ret ?_
         refine b_ret ?_
         refine t_ret ?_
         exact post_ret [2] rfl (.bool false) rfl ⟨(by first | exact ret_bool (ok_big (by omega)) | exact ret_bool (ok_end (by omega) (by omega) (by omega) hq) | exact ret_bool (ok_bad (k := k) (by omega) (fn_1 (bn_t (by assumption)))) | exact ret_bool (ok_bad (k := k) (by omega) (fn_2 (by assumption))) | exact ret_bool (ok_bad (k := k) (by omega) (fn_3 (bn_t (by assumption)))) | exact ret_bool (ok_bad (k := k) (by omega) (fn_4 (bn_t (by assumption)))) | exact ret_bool (ok_bad (k := k) (by omega) (fn_5 (j := j) (by omega) (bn_t (by assumption)))) | exact ret_bool (ok_bad (k := k) (by omega) (fn_6 (by omega)))),hE20⟩
        ·
         refine q_gtr false rfl rfl (decide_eq_false hc34) zN ?_
         refine lw_nil ?_
         refine c_cond_f rfl ?_
         refine wp_skip ?_
         refine wp_plain _ [0,0] rfl ?_
         refine q_add ((k + 1 :Nat):Int) rfl rfl (w64n (by omega) (by first | omega | assumption | (simp; done) | (simp; omega))) zN ?_
         refine q_move (.int .i64 ((k + 1 :Nat):Int)) rfl zN ?_
         refine lw_nil ?_
         exact ⟨(k + 1),_,rfl,⟨rfl,rfl,rfl,rfl,trivial⟩,⟨hE20,hL20_0,(by first | omega | assumption | (simp; done) | (simp; omega)),(by exact allR_succ hq (fn_ok (bn_f (by assumption)) (by assumption) (bn_f (by assumption)) (bn_f (by assumption)) hqe (by omega) (by omega)))⟩,by first | omega | (dsimp only; omega)⟩
      ·
       refine c_cond_t (by first | rfl | (show Value.bool _ = _; rw [hb19])) ?_
       refine wp_seq ?_
       refine wp_plain _ [0] rfl ?_
       refine q_assign (.bool false) rfl zN ?_
       refine lw_nil ?_
       refine wp_ret ?_
       refine t_ret ?_
       refine b_ret ?_
       refine t_ret ?_
       refine t_ret ?_
       refine b_ret ?_
       refine t_ret ?_
       exact post_ret [2] rfl (.bool false) rfl ⟨(by first | exact ret_bool (ok_big (by omega)) | exact ret_bool (ok_end (by omega) (by omega) (by omega) hq) | exact ret_bool (ok_bad (k := k) (by omega) (fn_1 (bn_t (by assumption)))) | exact ret_bool (ok_bad (k := k) (by omega) (fn_2 (by assumption))) | exact ret_bool (ok_bad (k := k) (by omega) (fn_3 (bn_t (by assumption)))) | exact ret_bool (ok_bad (k := k) (by omega) (fn_4 (bn_t (by assumption)))) | exact ret_bool (ok_bad (k := k) (by omega) (fn_5 (j := j) (by omega) (bn_t (by assumption)))) | exact ret_bool (ok_bad (k := k) (by omega) (fn_6 (by omega)))),hE14⟩
     ·
      refine lw_skip (e := 36) (c := true) rfl rfl rfl rfl ?_
      refine lw_skip (e := 36) (c := true) rfl rfl rfl rfl ?_
      refine lw_skip (e := 36) (c := true) rfl rfl rfl rfl ?_
      refine lw_skip (e := 36) (c := true) rfl rfl rfl rfl ?_
      refine lw_skip (e := 36) (c := true) rfl rfl rfl rfl ?_
      refine q_pick true (.bool true) rfl rfl zN ?_
      refine lw_nil ?_
      refine c_cond_t rfl ?_
      refine wp_seq ?_
      refine wp_plain _ [0] rfl ?_
      refine q_assign (.bool false) rfl zN ?_
      refine lw_nil ?_
      refine wp_ret ?_
      refine t_ret ?_
      refine b_ret ?_
      refine t_ret ?_
      refine t_ret ?_
      refine b_ret ?_
      refine t_ret ?_
      exact post_ret [2] rfl (.bool false) rfl ⟨(by first | exact ret_bool (ok_big (by omega)) | exact ret_bool (ok_end (by omega) (by omega) (by omega) hq) | exact ret_bool (ok_bad (k := k) (by omega) (fn_1 (bn_t (by assumption)))) | exact ret_bool (ok_bad (k := k) (by omega) (fn_2 (by assumption))) | exact ret_bool (ok_bad (k := k) (by omega) (fn_3 (bn_t (by assumption)))) | exact ret_bool (ok_bad (k := k) (by omega) (fn_4 (bn_t (by assumption)))) | exact ret_bool (ok_bad (k := k) (by omega) (fn_5 (j := j) (by omega) (bn_t (by assumption)))) | exact ret_bool (ok_bad (k := k) (by omega) (fn_6 (by omega)))),hE14⟩
    ·
     refine c_cond_t (by first | rfl | (show Value.bool _ = _; rw [hb15])) ?_
     refine wp_seq ?_
     refine wp_plain _ [0] rfl ?_
     refine q_assign (.bool false) rfl zN ?_
     refine lw_nil ?_
     refine wp_ret ?_
     refine t_ret ?_
     refine b_ret ?_
     refine t_ret ?_
     refine t_ret ?_
     refine b_ret ?_
     refine t_ret ?_
     exact post_ret [2] rfl (.bool false) rfl ⟨(by first | exact ret_bool (ok_big (by omega)) | exact ret_bool (ok_end (by omega) (by omega) (by omega) hq) | exact ret_bool (ok_bad (k := k) (by omega) (fn_1 (bn_t (by assumption)))) | exact ret_bool (ok_bad (k := k) (by omega) (fn_2 (by assumption))) | exact ret_bool (ok_bad (k := k) (by omega) (fn_3 (bn_t (by assumption)))) | exact ret_bool (ok_bad (k := k) (by omega) (fn_4 (bn_t (by assumption)))) | exact ret_bool (ok_bad (k := k) (by omega) (fn_5 (j := j) (by omega) (bn_t (by assumption)))) | exact ret_bool (ok_bad (k := k) (by omega) (fn_6 (by omega)))),hE14⟩
   ·
    refine lw_skip (e := 24) (c := true) rfl rfl rfl rfl ?_
    refine lw_skip (e := 24) (c := true) rfl rfl rfl rfl ?_
    refine lw_skip (e := 24) (c := true) rfl rfl rfl rfl ?_
    refine lw_skip (e := 24) (c := true) rfl rfl rfl rfl ?_
    refine lw_skip (e := 24) (c := true) rfl rfl rfl rfl ?_
    refine lw_skip (e := 24) (c := true) rfl rfl rfl rfl ?_
    refine q_pick true (.bool true) rfl rfl zN ?_
    refine lw_nil ?_
    refine c_cond_t rfl ?_
    refine wp_seq ?_
    refine wp_plain _ [0] rfl ?_
    refine q_assign (.bool false) rfl zN ?_
    refine lw_nil ?_
    refine wp_ret ?_
    refine t_ret ?_
    refine b_ret ?_
    refine t_ret ?_
    refine t_ret ?_
    refine b_ret ?_
    refine t_ret ?_
    exact post_ret [2] rfl (.bool false) rfl ⟨(by first | exact ret_bool (ok_big (by omega)) | exact ret_bool (ok_end (by omega) (by omega) (by omega) hq) | exact ret_bool (ok_bad (k := k) (by omega) (fn_1 (bn_t (by assumption)))) | exact ret_bool (ok_bad (k := k) (by omega) (fn_2 (by assumption))) | exact ret_bool (ok_bad (k := k) (by omega) (fn_3 (bn_t (by assumption)))) | exact ret_bool (ok_bad (k := k) (by omega) (fn_4 (bn_t (by assumption)))) | exact ret_bool (ok_bad (k := k) (by omega) (fn_5 (j := j) (by omega) (bn_t (by assumption)))) | exact ret_bool (ok_bad (k := k) (by omega) (fn_6 (by omega)))),hE9⟩
  ·
   refine q_lss false rfl rfl (decide_eq_false hc5) zN ?_
   refine lw_nil ?_
   refine wp_seq ?_
   refine c_cond_f rfl ?_
   refine wp_exit ?_
   refine t_exit ?_
   refine t_exit ?_
   refine c_exit_here ?_
   refine wp_seq ?_
   refine wp_plain _ [0] rfl ?_
   refine q_assign (.bool true) rfl zN ?_
   refine lw_nil ?_
   refine wp_ret ?_
   exact post_ret [2] rfl (.bool true) rfl ⟨(by first | exact ret_bool (ok_big (by omega)) | exact ret_bool (ok_end (by omega) (by omega) (by omega) hq) | exact ret_bool (ok_bad (k := k) (by omega) (fn_1 (bn_t (by assumption)))) | exact ret_bool (ok_bad (k := k) (by omega) (fn_2 (by assumption))) | exact ret_bool (ok_bad (k := k) (by omega) (fn_3 (bn_t (by assumption)))) | exact ret_bool (ok_bad (k := k) (by omega) (fn_4 (bn_t (by assumption)))) | exact ret_bool (ok_bad (k := k) (by omega) (fn_5 (j := j) (by omega) (bn_t (by assumption)))) | exact ret_bool (ok_bad (k := k) (by omega) (fn_6 (by omega)))),hE3⟩
end Go.Proofs.YtnofbmdpabcjaaaGreat
namespace Go.Proofs.YtnofbmdpabcjaaaGreat
open Go Go.RowKit
set_option linter.unusedVariables false
set_option linter.unusedSimpArgs false
attribute [local irreducible] LW
theorem isF_1 {p : List Fn} {f : Int} (h : okP p = false) : 1 = isF p f := by unfold isF; rw [h]; rfl
theorem isF_2 {p : List Fn} {f : Int} (h : okP p = true) (h2 : ¬ (0 ≤ f ∧ f ≤ ((p.length : Nat) : Int) - 1)) : 2 = isF p f := by unfold isF; rw [if_pos h, if_neg h2]
theorem isF_3 {p : List Fn} {f : Int} (h : okP p = true) (h2 : 0 ≤ f ∧ f ≤ ((p.length : Nat) : Int) - 1) : 0 = isF p f := by unfold isF; rw [if_pos h, if_pos h2]
set_option maxHeartbeats 4000000 in
set_option maxRecDepth 100000 in
theorem c_impl_isFunc (w : World) (dp : Nat) (vp : Value) (p : List Fn) (f : Int) (hp : RP [] dp w.heap vp p) (_hf : -9223372036854775808 ≤ f ∧ f ≤ 9223372036854775807) (hz : SzP p) :
  Calls Tryz.prog 67 #[(.agg #[vp]),.int .i64 f] w (fun e w' => e = .returned (.int .i64 (isF p f)) ∧ Ext w w') := by
 refine calls_mk [(.agg #[vp]),.int .i64 f] 17 Tryz.func67 rfl rfl (by simp) ?_
 have hE0 : Ext w w := Ext.refl w
 have hl_vp := hp.lenle
 unfold maxLen at hl_vp
 refine wp_seq ?_
 refine wp_plain _ [3,0] rfl ?_
 refine r_boxA (cs := #[vp]) rfl zN ?_
 intro w1 hX1 hz1 hB1
 have hzs1:=hX1.size
 have hE1:=hE0.trans hX1
 replace hB1 : BX w1.heap w.heap.size [vp] := hB1
 refine q_assign (.int .i64 ((0 :Nat):Int)) rfl zN ?_
 refine lw_nil ?_
 refine wp_seq ?_
 refine wp_block ?_
 refine wp_seq ?_
 refine wp_plain _ [2,3,0,0] rfl ?_
 refine q_loadA (p := (.pointer (some ⟨w.heap.size,0,none⟩))) (.inr rfl) [vp] agg32 rfl (fun w9 hw9 => LD.of_box (BX.ext (w := w1) hB1 hw9)) rfl zN ?_
 refine lw_call 83 [] [] [(.agg #[vp])] rfl rfl cf83 zN (c_impl_ValidProgram _ dp vp (p) (hp.ext (good_rdS (good_rFn dp)) hE1) (by exact hz)) ?_
 rintro e2 w2 ⟨rfl,hX2⟩
 refine ⟨_,rfl,hX2,?_⟩
 have hzs2:=hX2.size
 have hE2:=hE1.trans hX2
 have hB1x2 := hB1.ext hX2
 refine q_not (!(okP p)) rfl rfl zN ?_
 refine q_assign (.bool (!(okP p))) rfl zN ?_
 refine lw_nil ?_
 cases hb3 : (!(okP p))
 ·
  refine c_cond_f (by first | rfl | (show Value.bool _ = _; rw [hb3])) ?_
  refine wp_seq ?_
  refine wp_plain _ [0,0,2,0,0,0,0,0] rfl ?_
  refine q_move (.int .i64 f) rfl zN ?_
  refine q_fldP (p := (.pointer (some ⟨w.heap.size,0,none⟩))) (b := w.heap.size) (o := 0) 0 fd32_0 rfl rfl zN ?_
  refine q_load (p := (padd (.pointer (some ⟨w.heap.size,0,none⟩)) 0)) (.inr rfl) vp one30 rfl (hB1x2.ldp (i := 0) (by simp)) zN ?_
  refine q_len (v := vp) u30 rfl hp.isSl zN ?_
  refine q_sub (((p.length :Nat):Int) - 1) rfl rfl (w64 (by omega) (by omega)) zN ?_
  refine lw_callq 68 [] [] [(.int .i64 f),(.int .i64 ((0 :Nat):Int)),(.int .i64 (((p.length :Nat):Int) - 1))] rfl rfl cf68 zN (.bool (decide (((0 :Nat):Int) ≤ f) && decide (f ≤ (((p.length :Nat):Int) - 1)))) (fun wq => c_impl_within wq _ _ _ _hf (by omega) (by omega)) ?_
  refine q_not (!(decide (((0 :Nat):Int) ≤ f) && decide (f ≤ (((p.length :Nat):Int) - 1)))) rfl rfl zN ?_
  refine q_assign (.bool (!(decide (((0 :Nat):Int) ≤ f) && decide (f ≤ (((p.length :Nat):Int) - 1))))) rfl zN ?_
  refine lw_nil ?_
  cases hb5 : (!(decide (((0 :Nat):Int) ≤ f) && decide (f ≤ (((p.length :Nat):Int) - 1))))
  ·
   refine c_cond_f (by first | rfl | (show Value.bool _ = _; rw [hb5])) ?_
   refine wp_skip ?_
   refine wp_seq ?_
   refine wp_plain _ [0] rfl ?_
   refine q_assign (.int .i64 ((0 :Nat):Int)) rfl zN ?_
   refine lw_nil ?_
   refine wp_ret ?_
   exact post_ret [4] rfl (.int .i64 ((0 :Nat):Int)) rfl ⟨(by first | exact ret_int (isF_1 (bn_t (by assumption))) | exact ret_int (isF_2 (bn_f (by assumption)) (inB_d (bn_t (by assumption)))) | exact ret_int (isF_3 (bn_f (by assumption)) (inB_e (bn_f (by assumption))))),hE2⟩
  ·
   refine c_cond_t (by first | rfl | (show Value.bool _ = _; rw [hb5])) ?_
   refine wp_seq ?_
   refine wp_plain _ [0] rfl ?_
   refine q_assign (.int .i64 ((2 :Nat):Int)) rfl zN ?_
   refine lw_nil ?_
   refine wp_ret ?_
   refine b_ret ?_
   refine t_ret ?_
   exact post_ret [4] rfl (.int .i64 ((2 :Nat):Int)) rfl ⟨(by first | exact ret_int (isF_1 (bn_t (by assumption))) | exact ret_int (isF_2 (bn_f (by assumption)) (inB_d (bn_t (by assumption)))) | exact ret_int (isF_3 (bn_f (by assumption)) (inB_e (bn_f (by assumption))))),hE2⟩
 ·
  refine c_cond_t (by first | rfl | (show Value.bool _ = _; rw [hb3])) ?_
  refine wp_seq ?_
  refine wp_plain _ [0] rfl ?_
  refine q_assign (.int .i64 ((1 :Nat):Int)) rfl zN ?_
  refine lw_nil ?_
  refine wp_ret ?_
  refine b_ret ?_
  refine t_ret ?_
  exact post_ret [4] rfl (.int .i64 ((1 :Nat):Int)) rfl ⟨(by first | exact ret_int (isF_1 (bn_t (by assumption))) | exact ret_int (isF_2 (bn_f (by assumption)) (inB_d (bn_t (by assumption)))) | exact ret_int (isF_3 (bn_f (by assumption)) (inB_e (bn_f (by assumption))))),hE2⟩
end Go.Proofs.YtnofbmdpabcjaaaGreat
namespace Go.Proofs.YtnofbmdpabcjaaaGreat
open Go Go.RowKit
set_option linter.unusedVariables false
set_option linter.unusedSimpArgs false
attribute [local irreducible] LW
theorem rn_1 {p : List Fn} {f : Int} (h : isF p f ≠ 0) : rnB p f = false := by
  unfold isF at h
  unfold rnB
  by_cases h1 : okP p = true
  · rw [if_pos h1] at h
    cases h2 : rnF p f with
    | false => rw [Bool.and_false]
    | true => rw [if_pos (rnF_iff.1 h2).1] at h; exact absurd rfl h
  · rw [show okP p = false from by simpa using h1]; rfl
theorem rn_2 {p : List Fn} {f : Int} (h : isF p f = 0) {b : Bool} (hb : b = (decide (1 ≤ (p.getD f.toNat Fn.zero).params) && decide ((((p.getD f.toNat Fn.zero).outs.length : Nat) : Int) = (p.getD f.toNat Fn.zero).params))) : rnB p f = b := by
  obtain ⟨h1, h2⟩ := isF_0 h
  unfold rnB rnF
  rw [h1, show inB f 0 (((p.length : Nat) : Int) - 1) = true from inB_iff.2 ⟨h2.1, by omega⟩, hb, Bool.true_and, Bool.true_and]
set_option maxHeartbeats 4000000 in
set_option maxRecDepth 100000 in
theorem c_impl_ValidRound (w : World) (dp : Nat) (vp : Value) (p : List Fn) (f : Int) (hp : RP [] dp w.heap vp p) (_hf : -9223372036854775808 ≤ f ∧ f ≤ 9223372036854775807) (hz : SzP p) :
  Calls Tryz.prog 84 #[(.agg #[vp]),.int .i64 f] w (fun e w' => e = .returned (.bool (rnB p f)) ∧ Ext w w') := by
 refine calls_mk [(.agg #[vp]),.int .i64 f] 34 Tryz.func84 rfl rfl (by simp) ?_
 have hE0 : Ext w w := Ext.refl w
 have hl_vp := hp.lenle
 unfold maxLen at hl_vp
 refine wp_seq ?_
 refine wp_plain _ [3,0] rfl ?_
 refine r_boxA (cs := #[vp]) rfl zN ?_
 intro w1 hX1 hz1 hB1
 have hzs1:=hX1.size
 have hE1:=hE0.trans hX1
 replace hB1 : BX w1.heap w.heap.size [vp] := hB1
 refine q_assign (.bool false) rfl zN ?_
 refine lw_nil ?_
 refine wp_seq ?_
 refine wp_draw _ [1,0,3,0,0,0,2,0,0,0,2,0,0,0,0,2,0,0,0,2,0,0,2,0,0,0,2,0,0,0] mixed (by kernel_rfl) ?_
 refine q_loadA (p := (.pointer (some ⟨w.heap.size,0,none⟩))) (.inl rfl) [vp] agg32 rfl (fun w9 hw9 => LD.of_box (BX.ext (w := w1.drew) hB1 hw9)) rfl zN ?_
 refine q_move (.int .i64 f) rfl zN ?_
 refine lw_call 67 [] [] [(.agg #[vp]),(.int .i64 f)] rfl rfl cf67 zN (c_impl_isFunc _ dp vp (p) _ (hp.ext (good_rdS (good_rFn dp)) hE1.drew) _hf (by exact hz)) ?_
 rintro e2 w2 ⟨rfl,hX2⟩
 refine ⟨_,rfl,hX2,?_⟩
 replace hX2 := hX2.of_drew
 have hzs2:=hX2.size
 have hE2:=hE1.trans hX2
 have hB1x2 := hB1.ext hX2
 by_cases hc3 : isF p f = ((0 :Nat):Int)
 ·
  refine q_eql true rfl rfl (decide_eq_true hc3) zN ?_
  refine q_move (.bool true) rfl zN ?_
  have hi0 := isF_0 (p := p) (f := f) (by omega)
  refine q_fldP (p := (.pointer (some ⟨w.heap.size,0,none⟩))) (b := w.heap.size) (o := 0) 0 fd32_0 rfl rfl (zS (e := 9) rfl rfl rfl) ?_
  refine q_load (p := (padd (.pointer (some ⟨w.heap.size,0,none⟩)) 0)) (.inr rfl) vp one30 rfl (hB1x2.ldp (i := 0) (by simp)) (zS (e := 9) rfl rfl rfl) ?_
  refine q_move (.int .i64 f) rfl (zS (e := 9) rfl rfl rfl) ?_
  refine q_idx (v := vp) ((f).toNat) u30 tiS80 rfl rfl hp.isSl (by omega) (by first | omega | assumption | (simp; done) | (simp; omega)) (zS (e := 9) rfl rfl rfl) ?_
  obtain ⟨cs4,hr4,hl4⟩ := hp.get (good_rFn dp) Fn.zero (k := ((f).toNat)) (by first | omega | assumption | (simp; done) | (simp; omega))
  obtain ⟨ve4,rfl,hx4⟩ := RF.of hr4
  have hln4 := hx4.rn.lenle
  unfold maxLen at hln4
  refine q_fldL (p := eptr vp ((f).toNat) 3) 1 fd80_1 rfl (hl4 _ (Chg.of_ext [] hE2)) (zS (e := 9) rfl rfl rfl) ?_
  refine q_load (p := (padd (eptr vp ((f).toNat) 3) 1)) (.inr rfl) (.int .i64 ((p.getD ((f).toNat) Fn.zero).params)) one2 rfl ((hl4 _ (Chg.of_ext [] hE2)).ld (i := 1) (by simp [exC,fnC])) (zS (e := 9) rfl rfl rfl) ?_
  by_cases hc5 : ((1 :Nat):Int) ≤ (p.getD ((f).toNat) Fn.zero).params
  ·
   refine q_geq true rfl rfl (decide_eq_true hc5) (zS (e := 9) rfl rfl rfl) ?_
   refine q_pick true (.bool true) rfl rfl zN ?_
   refine q_move (.bool true) rfl zN ?_
   refine q_fldP (p := (.pointer (some ⟨w.heap.size,0,none⟩))) (b := w.heap.size) (o := 0) 0 fd32_0 rfl rfl (zS (e := 18) rfl rfl rfl) ?_
   refine q_load (p := (padd (.pointer (some ⟨w.heap.size,0,none⟩)) 0)) (.inr rfl) vp one30 rfl (hB1x2.ldp (i := 0) (by simp)) (zS (e := 18) rfl rfl rfl) ?_
   refine q_move (.int .i64 f) rfl (zS (e := 18) rfl rfl rfl) ?_
   refine q_idx (v := vp) ((f).toNat) u30 tiS80 rfl rfl hp.isSl (by omega) (by first | omega | assumption | (simp; done) | (simp; omega)) (zS (e := 18) rfl rfl rfl) ?_
   refine q_fldL (p := eptr vp ((f).toNat) 3) 2 fd80_2 rfl (hl4 _ (Chg.of_ext [] hE2)) (zS (e := 18) rfl rfl rfl) ?_
   refine q_load (p := (padd (eptr vp ((f).toNat) 3) 2)) (.inr rfl) ve4 one78 rfl ((hl4 _ (Chg.of_ext [] hE2)).ld (i := 2) (by simp [exC,fnC])) (zS (e := 18) rfl rfl rfl) ?_
   refine q_len (v := ve4) u78 rfl hx4.rn.isSl (zS (e := 18) rfl rfl rfl) ?_
   refine q_fldP (p := (.pointer (some ⟨w.heap.size,0,none⟩))) (b := w.heap.size) (o := 0) 0 fd32_0 rfl rfl (zS (e := 18) rfl rfl rfl) ?_
   refine q_load (p := (padd (.pointer (some ⟨w.heap.size,0,none⟩)) 0)) (.inr rfl) vp one30 rfl (hB1x2.ldp (i := 0) (by simp)) (zS (e := 18) rfl rfl rfl) ?_
   refine q_move (.int .i64 f) rfl (zS (e := 18) rfl rfl rfl) ?_
   refine q_idx (v := vp) ((f).toNat) u30 tiS80 rfl rfl hp.isSl (by omega) (by first | omega | assumption | (simp; done) | (simp; omega)) (zS (e := 18) rfl rfl rfl) ?_
   refine q_fldL (p := eptr vp ((f).toNat) 3) 1 fd80_1 rfl (hl4 _ (Chg.of_ext [] hE2)) (zS (e := 18) rfl rfl rfl) ?_
   refine q_load (p := (padd (eptr vp ((f).toNat) 3) 1)) (.inr rfl) (.int .i64 ((p.getD ((f).toNat) Fn.zero).params)) one2 rfl ((hl4 _ (Chg.of_ext [] hE2)).ld (i := 1) (by simp [exC,fnC])) (zS (e := 18) rfl rfl rfl) ?_
   refine q_eql (decide (((((p.getD ((f).toNat) Fn.zero).outs).length :Nat):Int) = (p.getD ((f).toNat) Fn.zero).params)) rfl rfl rfl (zS (e := 18) rfl rfl rfl) ?_
   refine q_pick true (.bool (decide (((((p.getD ((f).toNat) Fn.zero).outs).length :Nat):Int) = (p.getD ((f).toNat) Fn.zero).params))) rfl rfl zN ?_
   refine q_assign (.bool (decide (((((p.getD ((f).toNat) Fn.zero).outs).length :Nat):Int) = (p.getD ((f).toNat) Fn.zero).params))) rfl zN ?_
   refine lw_nil ?_
   refine wp_ret ?_
   exact post_ret [4] rfl (.bool (decide (((((p.getD ((f).toNat) Fn.zero).outs).length :Nat):Int) = (p.getD ((f).toNat) Fn.zero).params))) rfl ⟨(by first | exact ret_bool (rn_1 (by omega)).symm | exact ret_bool (rn_2 (by omega) (by rw [decide_eq_true (show 1 ≤ (p.getD f.toNat Fn.zero).params by omega),Bool.true_and])).symm | exact ret_bool (rn_2 (by omega) (by rw [decide_eq_false (show ¬ 1 ≤ (p.getD f.toNat Fn.zero).params by omega),Bool.false_and])).symm),hE2⟩
  ·
   refine q_geq false rfl rfl (decide_eq_false hc5) (zS (e := 9) rfl rfl rfl) ?_
   refine q_pick true (.bool false) rfl rfl zN ?_
   refine q_move (.bool false) rfl zN ?_
   refine lw_skip (e := 18) (c := false) rfl rfl rfl rfl ?_
   refine lw_skip (e := 18) (c := false) rfl rfl rfl rfl ?_
   refine lw_skip (e := 18) (c := false) rfl rfl rfl rfl ?_
   refine lw_skip (e := 18) (c := false) rfl rfl rfl rfl ?_
   refine lw_skip (e := 18) (c := false) rfl rfl rfl rfl ?_
   refine lw_skip (e := 18) (c := false) rfl rfl rfl rfl ?_
   refine lw_skip (e := 18) (c := false) rfl rfl rfl rfl ?_
   refine lw_skip (e := 18) (c := false) rfl rfl rfl rfl ?_
   refine lw_skip (e := 18) (c := false) rfl rfl rfl rfl ?_
   refine lw_skip (e := 18) (c := false) rfl rfl rfl rfl ?_
   refine lw_skip (e := 18) (c := false) rfl rfl rfl rfl ?_
   refine lw_skip (e := 18) (c := false) rfl rfl rfl rfl ?_
   refine lw_skip (e := 18) (c := false) rfl rfl rfl rfl ?_
   refine lw_skip (e := 18) (c := false) rfl rfl rfl rfl ?_
   refine q_pick false (.bool false) rfl rfl zN ?_
   refine q_assign (.bool false) rfl zN ?_
   refine lw_nil ?_
   refine wp_ret ?_
   exact post_ret [4] rfl (.bool false) rfl ⟨(by first | exact ret_bool (rn_1 (by omega)).symm | exact ret_bool (rn_2 (by omega) (by rw [decide_eq_true (show 1 ≤ (p.getD f.toNat Fn.zero).params by omega),Bool.true_and])).symm | exact ret_bool (rn_2 (by omega) (by rw [decide_eq_false (show ¬ 1 ≤ (p.getD f.toNat Fn.zero).params by omega),Bool.false_and])).symm),hE2⟩
 ·
  refine q_eql false rfl rfl (decide_eq_false hc3) zN ?_
  refine q_move (.bool false) rfl zN ?_
  refine lw_skip (e := 9) (c := false) rfl rfl rfl rfl ?_
  refine lw_skip (e := 9) (c := false) rfl rfl rfl rfl ?_
  refine lw_skip (e := 9) (c := false) rfl rfl rfl rfl ?_
  refine lw_skip (e := 9) (c := false) rfl rfl rfl rfl ?_
  refine lw_skip (e := 9) (c := false) rfl rfl rfl rfl ?_
  refine lw_skip (e := 9) (c := false) rfl rfl rfl rfl ?_
  refine lw_skip (e := 9) (c := false) rfl rfl rfl rfl ?_
  refine q_pick false (.bool false) rfl rfl zN ?_
  refine q_move (.bool false) rfl zN ?_
  refine lw_skip (e := 18) (c := false) rfl rfl rfl rfl ?_
  refine lw_skip (e := 18) (c := false) rfl rfl rfl rfl ?_
  refine lw_skip (e := 18) (c := false) rfl rfl rfl rfl ?_
  refine lw_skip (e := 18) (c := false) rfl rfl rfl rfl ?_
  refine lw_skip (e := 18) (c := false) rfl rfl rfl rfl ?_
  refine lw_skip (e := 18) (c := false) rfl rfl rfl rfl ?_
  refine lw_skip (e := 18) (c := false) rfl rfl rfl rfl ?_
  refine lw_skip (e := 18) (c := false) rfl rfl rfl rfl ?_
  refine lw_skip (e := 18) (c := false) rfl rfl rfl rfl ?_
  refine lw_skip (e := 18) (c := false) rfl rfl rfl rfl ?_
  refine lw_skip (e := 18) (c := false) rfl rfl rfl rfl ?_
  refine lw_skip (e := 18) (c := false) rfl rfl rfl rfl ?_
  refine lw_skip (e := 18) (c := false) rfl rfl rfl rfl ?_
  refine lw_skip (e := 18) (c := false) rfl rfl rfl rfl ?_
  refine q_pick false (.bool false) rfl rfl zN ?_
  refine q_assign (.bool false) rfl zN ?_
  refine lw_nil ?_
  refine wp_ret ?_
  exact post_ret [4] rfl (.bool false) rfl ⟨(by first | exact ret_bool (rn_1 (by omega)).symm | exact ret_bool (rn_2 (by omega) (by rw [decide_eq_true (show 1 ≤ (p.getD f.toNat Fn.zero).params by omega),Bool.true_and])).symm | exact ret_bool (rn_2 (by omega) (by rw [decide_eq_false (show ¬ 1 ≤ (p.getD f.toNat Fn.zero).params by omega),Bool.false_and])).symm),hE2⟩
theorem ch_1 {p : List Fn} {f : Int} {l : List Sr} (h : okP p = false) : 1 = chC p f l := by unfold chC; rw [h]; rfl
theorem ch_2 {p : List Fn} {f : Int} {l : List Sr} (h : okP p = true) (h2 : rnB p f = false) : 2 = chC p f l := by
  unfold rnB at h2; rw [h, Bool.true_and] at h2
  unfold chC; rw [if_pos h, h2]; rfl
theorem ch_l {p : List Fn} {f : Int} {l : List Sr} {k : Nat} (h : rnB p f = true) (hk : k < l.length) (hb : (decide ((((l.getD k []).length : Nat) : Int) = (p.getD f.toNat Fn.zero).params) && allN (l.getD k [])) = false) : 2 = chC p f l := by
  unfold rnB at h; rw [Bool.and_eq_true] at h
  unfold chC; rw [if_pos h.1, if_pos h.2, all_fail (f := (fun s => decide (((s.length : Nat) : Int) = (p.getD f.toNat Fn.zero).params) && allN s)) [] hk hb]; rfl
theorem ch_0 {p : List Fn} {f : Int} {l : List Sr} {k : Nat} (h : rnB p f = true) (hl : (l.take k).all (fun s => decide (((s.length : Nat) : Int) = (p.getD f.toNat Fn.zero).params) && allN s) = true) (hk : l.length ≤ k) : 0 = chC p f l := by
  unfold rnB at h; rw [Bool.and_eq_true] at h
  unfold chC; rw [if_pos h.1, if_pos h.2, all_done hl hk]; rfl
set_option maxHeartbeats 4000000 in
set_option maxRecDepth 100000 in
theorem c_impl_isChained (w : World) (dp : Nat) (vp : Value) (p : List Fn) (f : Int) (vl : Value) (l : List (List Int)) (hp : RP [] dp w.heap vp p) (_hf : -9223372036854775808 ≤ f ∧ f ≤ 9223372036854775807) (hl : RN [] (rdL (rdL rI)) w.heap vl l) (hql : CapS vl) (hz : SzP p) :
  Calls Tryz.prog 45 #[(.agg #[vp]),.int .i64 f,vl] w (fun e w' => e = .returned (.int .i64 (chC p f l)) ∧ Ext w w') := by
 refine calls_mk [(.agg #[vp]),.int .i64 f,vl] 34 Tryz.func45 rfl rfl (by simp) ?_
 have hE0 : Ext w w := Ext.refl w
 have hl_vp := hp.lenle
 unfold maxLen at hl_vp
 have hl_vl := hl.lenL
 unfold maxLen at hl_vl
 refine wp_seq ?_
 refine wp_plain _ [3,0] rfl ?_
 refine r_boxA (cs := #[vp]) rfl zN ?_
 intro w1 hX1 hz1 hB1
 have hzs1:=hX1.size
 have hE1:=hE0.trans hX1
 replace hB1 : BX w1.heap w.heap.size [vp] := hB1
 refine q_assign (.int .i64 ((0 :Nat):Int)) rfl zN ?_
 refine lw_nil ?_
 refine wp_seq ?_
 refine wp_block ?_
 refine wp_seq ?_
 refine wp_plain _ [2,3,0,0] rfl ?_
 refine q_loadA (p := (.pointer (some ⟨w.heap.size,0,none⟩))) (.inr rfl) [vp] agg32 rfl (fun w9 hw9 => LD.of_box (BX.ext (w := w1) hB1 hw9)) rfl zN ?_
 refine lw_call 83 [] [] [(.agg #[vp])] rfl rfl cf83 zN (c_impl_ValidProgram _ dp vp (p) (hp.ext (good_rdS (good_rFn dp)) hE1) (by exact hz)) ?_
 rintro e2 w2 ⟨rfl,hX2⟩
 refine ⟨_,rfl,hX2,?_⟩
 have hzs2:=hX2.size
 have hE2:=hE1.trans hX2
 have hB1x2 := hB1.ext hX2
 refine q_not (!(okP p)) rfl rfl zN ?_
 refine q_assign (.bool (!(okP p))) rfl zN ?_
 refine lw_nil ?_
 cases hb3 : (!(okP p))
 ·
  refine c_cond_f (by first | rfl | (show Value.bool _ = _; rw [hb3])) ?_
  refine wp_seq ?_
  refine wp_plain _ [2,0,3,0,0] rfl ?_
  refine q_loadA (p := (.pointer (some ⟨w.heap.size,0,none⟩))) (.inr rfl) [vp] agg32 rfl (fun w9 hw9 => LD.of_box (BX.ext (w := w2) hB1x2 hw9)) rfl zN ?_
  refine q_move (.int .i64 f) rfl zN ?_
  refine lw_call 84 [] [] [(.agg #[vp]),(.int .i64 f)] rfl rfl cf84 zN (c_impl_ValidRound _ dp vp (p) _ (hp.ext (good_rdS (good_rFn dp)) hE2) _hf (by exact hz)) ?_
  rintro e4 w4 ⟨rfl,hX4⟩
  refine ⟨_,rfl,hX4,?_⟩
  have hzs4:=hX4.size
  have hE4:=hE2.trans hX4
  have hB1x4 := hB1x2.ext hX4
  refine q_not (!(rnB p f)) rfl rfl zN ?_
  refine q_assign (.bool (!(rnB p f))) rfl zN ?_
  refine lw_nil ?_
  cases hb5 : (!(rnB p f))
  ·
   refine c_cond_f (by first | rfl | (show Value.bool _ = _; rw [hb5])) ?_
   refine wp_skip ?_
   refine wp_seq ?_
   refine wp_seq ?_
   refine wp_plain _ [0,0,0] rfl ?_
   have hrn : rnB p f = true := bn_f (by assumption)
   have hrf := rnF_iff.1 (Bool.and_eq_true .. ▸ hrn : okP p = true ∧ rnF p f = true).2
   refine q_move vl rfl zN ?_
   refine q_len (v := vl) u27 rfl hl.slL zN ?_
   refine q_move (.int .i64 ((0 :Nat):Int)) rfl zN ?_
   refine lw_nil ?_
   refine wp_block ?_
   refine c_loop (S := Nat) (fun (k : Nat) => ([(20,(.int .i64 ((k :Nat):Int))),(1,(.int .i64 f)),(3,(.pointer (some ⟨w.heap.size,0,none⟩))),(18,vl),(19,(.int .i64 ((l.length :Nat):Int)))] : List (Nat × Value))) (fun (k : Nat) (W : World) => Ext w W ∧ BX W.heap w.heap.size [vp] ∧ k ≤ l.length ∧ (l.take k).all (fun s => decide (((s.length :Nat):Int) = (p.getD f.toNat Fn.zero).params) && allN s) = true) (fun (k : Nat) => l.length - k) 0 ⟨rfl,rfl,rfl,rfl,rfl,trivial⟩ ⟨hE4,hB1x4,(by first | omega | assumption | (simp; done) | (simp; omega)),(by exact rfl)⟩ ?_
   clear hE0 hz1 hX1 hzs1 hE1 hX2 hzs2 hE2 hX4 hzs4 hE4
   rintro k ρ6 w6 ⟨hE6,hL6_0,hp6_0,hq⟩
   have hzs6 : w.heap.size ≤ w6.heap.size := hE6.size
   have hq7 := hL6_0.lt
   refine wp_seq ?_
   refine wp_plain _ [0] rfl ?_
   by_cases hc8 : ((k :Nat):Int) < ((l.length :Nat):Int)
   ·
    refine q_lss true rfl rfl (decide_eq_true hc8) zN ?_
    refine lw_nil ?_
    refine wp_seq ?_
    refine c_cond_t rfl ?_
    refine wp_skip ?_
    refine wp_seq ?_
    refine wp_block ?_
    refine wp_seq ?_
    refine wp_plain _ [0,2,0] rfl ?_
    refine q_idx (v := vl) k u27 ti25 rfl rfl hl.slL rfl (by first | omega | assumption | (simp; done) | (simp; omega)) zN ?_
    obtain ⟨ue9,hl9,hr9⟩ := RN.getL (w := w) g1 [] (k := k) hl (by first | omega | assumption | (simp; done) | (simp; omega))
    have hln9 := hr9.lenL
    unfold maxLen at hln9
    refine q_load (p := eptr vl k 1) (.inr rfl) ue9 one25 rfl (hl9 _ (Chg.of_ext [] hE6)) zN ?_
    refine q_assign ue9 rfl zN ?_
    refine lw_nil ?_
    refine wp_seq ?_
    refine wp_plain _ [0,0,2,0,0,0,2,3,0] rfl ?_
    refine q_move ue9 rfl zN ?_
    refine q_fldP (p := (.pointer (some ⟨w.heap.size,0,none⟩))) (b := w.heap.size) (o := 0) 0 fd32_0 rfl rfl zN ?_
    refine q_load (p := (padd (.pointer (some ⟨w.heap.size,0,none⟩)) 0)) (.inr rfl) vp one30 rfl (hL6_0.ldp (i := 0) (by simp)) zN ?_
    refine q_move (.int .i64 f) rfl zN ?_
    refine q_idx (v := vp) ((f).toNat) u30 tiS80 rfl rfl hp.isSl (by omega) (by first | omega | assumption | (simp; done) | (simp; omega)) zN ?_
    obtain ⟨cs10,hr10,hl10⟩ := hp.get (good_rFn dp) Fn.zero (k := ((f).toNat)) (by first | omega | assumption | (simp; done) | (simp; omega))
    obtain ⟨ve10,rfl,hx10⟩ := RF.of hr10
    have hln10 := hx10.rn.lenle
    unfold maxLen at hln10
    refine q_fldL (p := eptr vp ((f).toNat) 3) 1 fd80_1 rfl (hl10 _ (Chg.of_ext [] hE6)) zN ?_
    refine q_load (p := (padd (eptr vp ((f).toNat) 3) 1)) (.inr rfl) (.int .i64 ((p.getD ((f).toNat) Fn.zero).params)) one2 rfl ((hl10 _ (Chg.of_ext [] hE6)).ld (i := 1) (by simp [exC,fnC])) zN ?_
    refine lw_call 85 [] [] [ue9,(.int .i64 ((p.getD ((f).toNat) Fn.zero).params))] rfl rfl cf85 zN (c_impl_areNumbers _ _ _ _ ((hr9.ext g1 hE6)).rd hx10.rng) ?_
    rintro e11 w11 ⟨rfl,hX11⟩
    refine ⟨_,rfl,hX11,?_⟩
    have hzs11:=hX11.size
    have hE11:=hE6.trans hX11
    have hL6_0x11 := hL6_0.ext hX11
    refine q_not (!(decide ((((l.getD k []).length :Nat):Int) = ((p.getD ((f).toNat) Fn.zero).params)) && allN (l.getD k []))) rfl rfl zN ?_
    refine lw_nil ?_
    cases hb12 : (!(decide ((((l.getD k []).length :Nat):Int) = ((p.getD ((f).toNat) Fn.zero).params)) && allN (l.getD k [])))
    ·
     refine c_cond_f (by first | rfl | (show Value.bool _ = _; rw [hb12])) ?_
     refine wp_skip ?_
     refine wp_plain _ [0,0] rfl ?_
     refine q_add ((k + 1 :Nat):Int) rfl rfl (w64n (by omega) (by first | omega | assumption | (simp; done) | (simp; omega))) zN ?_
     refine q_move (.int .i64 ((k + 1 :Nat):Int)) rfl zN ?_
     refine lw_nil ?_
     exact ⟨(k + 1),_,rfl,⟨rfl,rfl,rfl,rfl,rfl,trivial⟩,⟨hE11,hL6_0x11,(by first | omega | assumption | (simp; done) | (simp; omega)),(by exact all_succ (f := (fun s => decide (((s.length :Nat):Int) = (p.getD f.toNat Fn.zero).params) && allN s)) [] hq (by omega) (bn_f (by assumption)))⟩,by first | omega | (dsimp only; omega)⟩
    ·
     refine c_cond_t (by first | rfl | (show Value.bool _ = _; rw [hb12])) ?_
     refine wp_seq ?_
     refine wp_plain _ [0] rfl ?_
     refine q_assign (.int .i64 ((2 :Nat):Int)) rfl zN ?_
     refine lw_nil ?_
     refine wp_ret ?_
     refine b_ret ?_
     refine t_ret ?_
     refine t_ret ?_
     refine b_ret ?_
     refine t_ret ?_
     exact post_ret [6] rfl (.int .i64 ((2 :Nat):Int)) rfl ⟨(by first | exact ret_int (ch_1 (bn_t (by assumption))) | exact ret_int (ch_2 (bn_f (by assumption)) (bn_t (by assumption))) | exact ret_int (ch_l (k := k) hrn (by omega) (bn_t (by assumption))) | exact ret_int (ch_0 hrn hq (by omega))),hE11⟩
   ·
    refine q_lss false rfl rfl (decide_eq_false hc8) zN ?_
    refine lw_nil ?_
    refine wp_seq ?_
    refine c_cond_f rfl ?_
    refine wp_exit ?_
    refine t_exit ?_
    refine t_exit ?_
    refine c_exit_here ?_
    refine wp_seq ?_
    refine wp_plain _ [0] rfl ?_
    refine q_assign (.int .i64 ((0 :Nat):Int)) rfl zN ?_
    refine lw_nil ?_
    refine wp_ret ?_
    exact post_ret [6] rfl (.int .i64 ((0 :Nat):Int)) rfl ⟨(by first | exact ret_int (ch_1 (bn_t (by assumption))) | exact ret_int (ch_2 (bn_f (by assumption)) (bn_t (by assumption))) | exact ret_int (ch_l (k := k) hrn (by omega) (bn_t (by assumption))) | exact ret_int (ch_0 hrn hq (by omega))),hE6⟩
  ·
   refine c_cond_t (by first | rfl | (show Value.bool _ = _; rw [hb5])) ?_
   refine wp_seq ?_
   refine wp_plain _ [0] rfl ?_
   refine q_assign (.int .i64 ((2 :Nat):Int)) rfl zN ?_
   refine lw_nil ?_
   refine wp_ret ?_
   refine b_ret ?_
   refine t_ret ?_
   exact post_ret [6] rfl (.int .i64 ((2 :Nat):Int)) rfl ⟨(by first | exact ret_int (ch_1 (bn_t (by assumption))) | exact ret_int (ch_2 (bn_f (by assumption)) (bn_t (by assumption))) | exact ret_int (ch_l (k := k) hrn (by omega) (bn_t (by assumption))) | exact ret_int (ch_0 hrn hq (by omega))),hE4⟩
 ·
  refine c_cond_t (by first | rfl | (show Value.bool _ = _; rw [hb3])) ?_
  refine wp_seq ?_
  refine wp_plain _ [0] rfl ?_
  refine q_assign (.int .i64 ((1 :Nat):Int)) rfl zN ?_
  refine lw_nil ?_
  refine wp_ret ?_
  refine b_ret ?_
  refine t_ret ?_
  exact post_ret [6] rfl (.int .i64 ((1 :Nat):Int)) rfl ⟨(by first | exact ret_int (ch_1 (bn_t (by assumption))) | exact ret_int (ch_2 (bn_f (by assumption)) (bn_t (by assumption))) | exact ret_int (ch_l (k := k) hrn (by omega) (bn_t (by assumption))) | exact ret_int (ch_0 hrn hq (by omega))),hE2⟩
set_option maxHeartbeats 4000000 in
set_option maxRecDepth 100000 in
theorem c_impl_areSteps (w : World) (n : Int) (_hn : -9223372036854775808 ≤ n ∧ n ≤ 9223372036854775807)  :
  Calls Tryz.prog 46 #[.int .i64 n] w (fun e w' => e = .returned (.bool (inB n 0 40)) ∧ Ext w w') := by
 refine calls_mk [.int .i64 n] 5 Tryz.func46 rfl rfl (by simp) ?_
 have hE0 : Ext w w := Ext.refl w
 refine wp_seq ?_
 refine wp_plain _ [0] rfl ?_
 refine q_assign (.bool false) rfl zN ?_
 refine lw_nil ?_
 refine wp_seq ?_
 refine wp_plain _ [0,0,0] rfl ?_
 refine q_move (.int .i64 n) rfl zN ?_
 refine lw_callq 68 [] [] [(.int .i64 n),(.int .i64 ((0 :Nat):Int)),(.int .i64 ((40 :Nat):Int))] rfl rfl cf68 zN (.bool (decide (((0 :Nat):Int) ≤ n) && decide (n ≤ ((40 :Nat):Int)))) (fun wq => c_impl_within wq _ _ _ _hn (by omega) (by omega)) ?_
 refine q_assign (.bool (decide (((0 :Nat):Int) ≤ n) && decide (n ≤ ((40 :Nat):Int)))) rfl zN ?_
 refine lw_nil ?_
 refine wp_ret ?_
 exact post_ret [2] rfl (.bool (decide (((0 :Nat):Int) ≤ n) && decide (n ≤ ((40 :Nat):Int)))) rfl ⟨rfl,hE0⟩
set_option maxHeartbeats 4000000 in
set_option maxRecDepth 100000 in
theorem c_impl_Program_next (w : World) (dp : Nat) (vp : Value) (p : List Fn) (f : Int) (va : Value) (a : List Int) (hp : RP [] dp w.heap vp p) (_hf : -9223372036854775808 ≤ f ∧ f ≤ 9223372036854775807) (ha : Rd (rdL rI) w.heap va a) (hvp : VPr p) (hf : 0 ≤ f ∧ f < ((p.length :Nat):Int)) (hl : ((a.length :Nat):Int) = (p.getD f.toNat Fn.zero).params) (hna : allN a = true) :
  Calls Tryz.prog 87 #[(.agg #[vp]),.int .i64 f,va] w (fun e w' => ∃ v0 : Value,e = .returned (.tuple #[v0,.int .i64 (nxC p f.toNat a)]) ∧ Ext w w' ∧ Fr (owL rI 2) w.heap.size w'.heap.size w'.heap v0 (nxR p f.toNat a) ∧ NxP p f.toNat a) := by
 refine calls_mk [(.agg #[vp]),.int .i64 f,va] 25 Tryz.func87 rfl rfl (by simp) ?_
 have hE0 : Ext w w := Ext.refl w
 have hl_vp := hp.lenle
 unfold maxLen at hl_vp
 have hl_va := ha.lenle
 have hpar := hvp.par f.toNat (by omega)
 have hsl : (sing a).length = a.length := by unfold sing; rw [List.length_map]
 refine wp_seq ?_
 refine wp_plain _ [3,0,0] rfl ?_
 refine r_boxA (cs := #[vp]) rfl zN ?_
 intro w1 hX1 hz1 hB1
 have hzs1:=hX1.size
 have hE1:=hE0.trans hX1
 replace hB1 : BX w1.heap w.heap.size [vp] := hB1
 refine q_assign (.slice none 0 0) rfl zN ?_
 refine q_assign (.int .i64 ((0 :Nat):Int)) rfl zN ?_
 refine lw_nil ?_
 refine wp_seq ?_
 refine wp_draw _ [1,0,0,3,3,0,0,0,0,0,0,0] mixed (by kernel_rfl) ?_
 refine q_loadA (p := (.pointer (some ⟨w.heap.size,0,none⟩))) (.inl rfl) [vp] agg32 rfl (fun w9 hw9 => LD.of_box (BX.ext (w := w1.drew) hB1 hw9)) rfl zN ?_
 refine q_move (.int .i64 f) rfl zN ?_
 refine q_move va rfl zN ?_
 refine lw_call 124 [] [] [va] rfl rfl cf124 zN (c_impl_singles _ _ _ (ha.ext g1 hE1.drew) (by omega)) ?_
 rintro e2 w2 ⟨v2_0,rfl,hX2,hO2_0⟩
 refine ⟨_,rfl,hX2,?_⟩
 replace hX2 := hX2.of_drew
 have hzs2:=hX2.size
 have hE2:=hE1.trans hX2
 have hB1x2 := hB1.ext hX2
 replace hO2_0 := hO2_0.low (B' := w1.heap.size) (Nat.le_refl _)
 refine lw_call 69 [] [] [(.agg #[vp]),(.int .i64 f),v2_0,(.int .i64 ((0 :Nat):Int))] rfl rfl cf69 zN (c_impl_Program_evaluated _ dp vp (p) _ v2_0 (sing a) (0) (hp.ext (good_rdS (good_rFn dp)) hE2) _hf (RN.of_fr2 hO2_0 (fun b hb => by cases hb)) hO2_0.cap (by exact hvp) (by omega) (by omega) (by exact sing_ser hna) (by omega)) ?_
 rintro e3 w3 ⟨v3_0,rfl,hX3,hO3_0,hP3_0⟩
 refine ⟨_,rfl,hX3,?_⟩
 have hzs3:=hX3.size
 have hE3:=hE2.trans hX3
 have hB1x3 := hB1x2.ext hX3
 have hO2_0x3 := hO2_0.ext (o2) hX3
 refine q_move (.tuple #[v3_0,(.int .i64 ((evT p (0 + 1) f.toNat (sing a) :Nat):Int)),(.int .i64 (evD p (0 + 1) f.toNat (sing a)))]) rfl zN ?_
 refine q_extract (vs := [v3_0,(.int .i64 ((evT p (0 + 1) f.toNat (sing a) :Nat):Int)),(.int .i64 (evD p (0 + 1) f.toNat (sing a)))]) v3_0 rfl rfl zN ?_
 refine q_extract (vs := [v3_0,(.int .i64 ((evT p (0 + 1) f.toNat (sing a) :Nat):Int)),(.int .i64 (evD p (0 + 1) f.toNat (sing a)))]) (.int .i64 ((evT p (0 + 1) f.toNat (sing a) :Nat):Int)) rfl rfl zN ?_
 refine q_extract (vs := [v3_0,(.int .i64 ((evT p (0 + 1) f.toNat (sing a) :Nat):Int)),(.int .i64 (evD p (0 + 1) f.toNat (sing a)))]) (.int .i64 (evD p (0 + 1) f.toNat (sing a))) rfl rfl zN ?_
 refine q_assign v3_0 rfl zN ?_
 refine q_assign (.int .i64 ((evT p (0 + 1) f.toNat (sing a) :Nat):Int)) rfl zN ?_
 refine q_assign (.int .i64 (evD p (0 + 1) f.toNat (sing a))) rfl zN ?_
 refine lw_nil ?_
 refine wp_seq ?_
 refine wp_seq ?_
 refine wp_plain _ [0,0] rfl ?_
 have hEV := ‹EvP p (0 + 1) f.toNat (sing a)›
 have hec : 0 ≤ nxC p f.toNat a ∧ nxC p f.toNat a ≤ 9 := hEV.code
 have hes := hEV.ser
 have hel := hEV.len
 have hne : nxC p f.toNat a = evD p (0 + 1) f.toNat (sing a) := rfl
 have hou := hvp.outs f.toNat (by omega)
 refine q_move (.int .i64 (evD p (0 + 1) f.toNat (sing a))) rfl zN ?_
 by_cases hc4 : evD p (0 + 1) f.toNat (sing a) ≠ ((0 :Nat):Int)
 ·
  refine q_neq true rfl rfl (decide_eq_true hc4) zN ?_
  refine lw_nil ?_
  refine c_cond_t rfl ?_
  refine wp_seq ?_
  refine wp_plain _ [0,0,0] rfl ?_
  refine q_move (.int .i64 (evD p (0 + 1) f.toNat (sing a))) rfl zN ?_
  refine q_assign (.slice none 0 0) rfl zN ?_
  refine q_assign (.int .i64 (evD p (0 + 1) f.toNat (sing a))) rfl zN ?_
  refine lw_nil ?_
  refine wp_ret ?_
  refine t_ret ?_
  exact post_ret [6,7] rfl (.tuple #[(.slice none 0 0),(.int .i64 (evD p (0 + 1) f.toNat (sing a)))]) rfl ⟨(.slice none 0 0),rfl,hE3,(by rw [(NxP.mk' hEV).non (by omega)]; exact frNil _ _ _),(NxP.mk' hEV)⟩
 ·
  refine q_neq false rfl rfl (decide_eq_false hc4) zN ?_
  refine lw_nil ?_
  refine c_cond_f rfl ?_
  refine wp_skip ?_
  refine wp_seq ?_
  refine wp_plain _ [0,3,0,0] rfl ?_
  refine q_move v3_0 rfl zN ?_
  refine lw_call 55 [] [] [v3_0] rfl rfl cf55 zN (c_impl_firsts _ _ _ hO3_0.rd2 (by omega) (by intro k9 hk9; have := (hes k9 hk9).1; omega)) ?_
  rintro e5 w5 ⟨v5_0,rfl,hX5,hO5_0⟩
  refine ⟨_,rfl,hX5,?_⟩
  have hzs5:=hX5.size
  have hE5:=hE3.trans hX5
  have hB1x5 := hB1x3.ext hX5
  have hO2_0x5 := hO2_0x3.ext (o2) hX5
  have hO3_0x5 := hO3_0.ext (o2) hX5
  refine q_assign v5_0 rfl zN ?_
  refine q_assign (.int .i64 ((0 :Nat):Int)) rfl zN ?_
  refine lw_nil ?_
  refine wp_ret ?_
  exact post_ret [6,7] rfl (.tuple #[v5_0,(.int .i64 ((0 :Nat):Int))]) rfl ⟨v5_0,(by rw [show nxC p f.toNat a = 0 from by omega]; rfl),hE5,(hO5_0.up o1).low hE3.size,(NxP.mk' hEV)⟩
set_option maxHeartbeats 4000000 in
set_option maxRecDepth 100000 in
theorem c_impl_Program_states (w : World) (dp : Nat) (vp : Value) (p : List Fn) (f : Int) (va : Value) (a : List Int) (n : Int) (hp : RP [] dp w.heap vp p) (_hf : -9223372036854775808 ≤ f ∧ f ≤ 9223372036854775807) (ha : Rd (rdL rI) w.heap va a) (_hn : -9223372036854775808 ≤ n ∧ n ≤ 9223372036854775807) (hvp : VPr p) (hf : 0 ≤ f ∧ f < ((p.length :Nat):Int)) (hl : ((a.length :Nat):Int) = (p.getD f.toNat Fn.zero).params) (hna : allN a = true) (hn : 0 ≤ n ∧ n ≤ 40) (hou : ((p.getD f.toNat Fn.zero).outs.length : Int) = (p.getD f.toNat Fn.zero).params) :
  Calls Tryz.prog 47 #[(.agg #[vp]),.int .i64 f,va,.int .i64 n] w (fun e w' => ∃ v0 : Value,e = .returned (.tuple #[v0,.int .i64 (rsK p f.toNat a n.toNat)]) ∧ Ext w w' ∧ Fr (owL (owL rI 2) 25) w.heap.size w'.heap.size w'.heap v0 (rsR p f.toNat a n.toNat) ∧ RsP p f.toNat a n.toNat) := by
 refine calls_mk [(.agg #[vp]),.int .i64 f,va,.int .i64 n] 40 Tryz.func47 rfl rfl (by simp) ?_
 have hE0 : Ext w w := Ext.refl w
 have hl_vp := hp.lenle
 unfold maxLen at hl_vp
 have hl_va := ha.lenle
 have hpar := hvp.par f.toNat (by omega)
 refine wp_seq ?_
 refine wp_plain _ [3,0,0] rfl ?_
 refine r_boxA (cs := #[vp]) rfl zN ?_
 intro w1 hX1 hz1 hB1
 have hzs1:=hX1.size
 have hE1:=hE0.trans hX1
 replace hB1 : BX w1.heap w.heap.size [vp] := hB1
 refine q_assign (.slice none 0 0) rfl zN ?_
 refine q_assign (.int .i64 ((0 :Nat):Int)) rfl zN ?_
 refine lw_nil ?_
 refine wp_seq ?_
 refine wp_plain _ [0,3,3,0] rfl ?_
 refine q_move va rfl zN ?_
 refine lw_call 86 [] [] [va] rfl rfl cf86 zN (c_slices_Clone___int64_int64_ _ _ _ (ha.ext g1 hE1) (by omega)) ?_
 rintro e2 w2 ⟨v2_0,rfl,hX2,hO2_0⟩
 refine ⟨_,rfl,hX2,?_⟩
 have hzs2:=hX2.size
 have hE2:=hE1.trans hX2
 have hB1x2 := hB1.ext hX2
 refine r_one (u := v2_0) (B := w1.heap.size) o1 u27 ti25 rfl rfl hO2_0 (by first | exact Nat.le_refl _ | omega) zN ?_
 intro v3 w3 hX3 hz3 hO3
 have hzs3:=hX3.size
 have hE3:=hE2.trans hX3
 have hB1x3 := hB1x2.ext hX3
 refine q_assign v3 rfl zN ?_
 refine lw_nil ?_
 refine wp_seq ?_
 refine wp_seq ?_
 refine wp_plain _ [0,0] rfl ?_
 refine q_move (.int .i64 n) rfl zN ?_
 refine q_move (.int .i64 ((0 :Nat):Int)) rfl zN ?_
 refine lw_nil ?_
 refine wp_block ?_
 refine c_loop (S := Nat × Value) (fun (⟨k,vo⟩ : Nat × Value) => ([(10,vo),(18,(.int .i64 ((k :Nat):Int))),(1,(.int .i64 f)),(4,(.pointer (some ⟨w.heap.size,0,none⟩))),(17,(.int .i64 n))] : List (Nat × Value))) (fun (⟨k,vo⟩ : Nat × Value) (W : World) => Ext w W ∧ Fr (owL (owL rI 2) 25) w1.heap.size W.heap.size W.heap vo (tab (k + 1) (rsI p f.toNat a)) ∧ BX W.heap w.heap.size [vp] ∧ k ≤ n.toNat ∧ rsK p f.toNat a k = 0 ∧ ((rsI p f.toNat a k).length : Int) = (p.getD f.toNat Fn.zero).params ∧ allN (rsI p f.toNat a k) = true ∧ (∀ j,j ≤ k → (rsI p f.toNat a j).length = a.length) ∧ w.heap.size < w1.heap.size ∧ w1.heap.size ≤ W.heap.size) (fun (⟨k,vo⟩ : Nat × Value) => n.toNat - k) (0,v3) ⟨rfl,rfl,rfl,rfl,rfl,trivial⟩ ⟨hE3,hO3.up o2,hB1x3,(by first | omega | assumption | (simp; done) | (simp; omega)),(by rfl),(by exact hl),(by exact hna),(by intro j hj; rw [show j = 0 from by omega]; rfl),(by omega),(by omega)⟩ ?_
 clear hE0 hz1 hX1 hO2_0 hX2 hzs2 hE2 hO3 hz3 hX3 hzs3 hE3
 rintro ⟨k,vo⟩ ρ5 w5 ⟨hE5,hL5_0,hL5_1,hp5_0,hrk,hrl,hrn,hrj,hkg4,hkB6⟩
 have hzs5 : w.heap.size ≤ w5.heap.size := hE5.size
 have hti := tab_get (f := rsI p f.toNat a) (n := k + 1) (k := k) [] (by omega)
 have htl : (tab (k + 1) (rsI p f.toNat a)).length = k + 1 := by simp [tab]
 have hq7 := hL5_1.lt
 refine wp_seq ?_
 refine wp_plain _ [0] rfl ?_
 by_cases hc8 : ((k :Nat):Int) < n
 ·
  refine q_lss true rfl rfl (decide_eq_true hc8) zN ?_
  refine lw_nil ?_
  refine wp_seq ?_
  refine c_cond_t rfl ?_
  refine wp_skip ?_
  refine wp_seq ?_
  refine wp_block ?_
  refine wp_seq ?_
  refine wp_plain _ [0,0] rfl ?_
  refine q_move (.int .i64 ((k :Nat):Int)) rfl zN ?_
  refine q_assign (.int .i64 ((k :Nat):Int)) rfl zN ?_
  refine lw_nil ?_
  refine wp_seq ?_
  refine wp_draw _ [1,0,0,0,0,1,3,0,0,0,0,0] mixed (by kernel_rfl) ?_
  refine q_loadA (p := (.pointer (some ⟨w.heap.size,0,none⟩))) (.inl rfl) [vp] agg32 rfl (fun w9 hw9 => LD.of_box (BX.ext (w := w5.drew) hL5_1 hw9)) rfl zN ?_
  refine q_move (.int .i64 f) rfl zN ?_
  refine q_move vo rfl zN ?_
  refine q_move (.int .i64 ((k :Nat):Int)) rfl zN ?_
  refine q_idx (v := vo) k u27 ti25 rfl rfl hL5_0.isSl rfl (by first | omega | assumption | (simp; done) | (simp; omega)) zN ?_
  obtain ⟨ue9,hl9,hd9⟩ := hL5_0.rd2.get (k := k) [] (by first | omega | assumption | (simp; done) | (simp; omega))
  have hln9 := hd9.lenle
  refine q_load (p := eptr vo k 1) (.inl rfl) ue9 one25 rfl hl9 zN ?_
  refine lw_call 87 [] [] [(.agg #[vp]),(.int .i64 f),ue9] rfl rfl cf87 zN (c_impl_Program_next _ dp vp (p) _ _ _ (hp.ext (good_rdS (good_rFn dp)) hE5.drew) _hf hd9 (by exact hvp) (by omega) (by rw [hti]; exact hrl) (by rw [hti]; exact hrn)) ?_
  rintro e10 w10 ⟨v10_0,rfl,hX10,hO10_0,hP10_0⟩
  refine ⟨_,rfl,hX10,?_⟩
  replace hX10 := hX10.of_drew
  have hzs10:=hX10.size
  have hE10:=hE5.trans hX10
  have hL5_0x10 := hL5_0.ext (o2) hX10
  have hL5_1x10 := hL5_1.ext hX10
  have hd9x10 := hd9.ext g1 hX10
  have hlx11 := ldH_ext hX10 hl9
  replace hO10_0 := hO10_0.low (B' := w5.heap.size) (Nat.le_refl _)
  refine q_move (.tuple #[v10_0,(.int .i64 (nxC p f.toNat ((tab (k + 1) (rsI p f.toNat a)).getD k [])))]) rfl zN ?_
  refine q_extract (vs := [v10_0,(.int .i64 (nxC p f.toNat ((tab (k + 1) (rsI p f.toNat a)).getD k [])))]) v10_0 rfl rfl zN ?_
  refine q_extract (vs := [v10_0,(.int .i64 (nxC p f.toNat ((tab (k + 1) (rsI p f.toNat a)).getD k [])))]) (.int .i64 (nxC p f.toNat ((tab (k + 1) (rsI p f.toNat a)).getD k []))) rfl rfl zN ?_
  refine q_assign v10_0 rfl zN ?_
  refine q_assign (.int .i64 (nxC p f.toNat ((tab (k + 1) (rsI p f.toNat a)).getD k []))) rfl zN ?_
  refine lw_nil ?_
  refine wp_seq ?_
  refine wp_seq ?_
  refine wp_plain _ [0,0] rfl ?_
  have hNX := ‹NxP p f.toNat ((tab (k + 1) (rsI p f.toNat a)).getD k [])›
  rw [hti] at hNX
  have hnc := hNX.code
  have hcd : nxC p f.toNat ((tab (k + 1) (rsI p f.toNat a)).getD k []) = nxC p f.toNat (rsI p f.toNat a k) := by rw [hti]
  refine q_move (.int .i64 (nxC p f.toNat ((tab (k + 1) (rsI p f.toNat a)).getD k []))) rfl zN ?_
  by_cases hc12 : nxC p f.toNat ((tab (k + 1) (rsI p f.toNat a)).getD k []) ≠ ((0 :Nat):Int)
  ·
   refine q_neq true rfl rfl (decide_eq_true hc12) zN ?_
   refine lw_nil ?_
   refine c_cond_t rfl ?_
   refine wp_seq ?_
   refine wp_plain _ [0,0,0] rfl ?_
   refine q_move (.int .i64 (nxC p f.toNat ((tab (k + 1) (rsI p f.toNat a)).getD k []))) rfl zN ?_
   refine q_assign (.slice none 0 0) rfl zN ?_
   refine q_assign (.int .i64 (nxC p f.toNat ((tab (k + 1) (rsI p f.toNat a)).getD k []))) rfl zN ?_
   refine lw_nil ?_
   refine wp_ret ?_
   refine t_ret ?_
   refine b_ret ?_
   refine t_ret ?_
   refine t_ret ?_
   refine b_ret ?_
   refine t_ret ?_
   have hfc : rsK p f.toNat a n.toNat = nxC p f.toNat (rsI p f.toNat a k) := by rw [rsK_stop (k := k + 1) (by rw [rsK_succ hrk]; omega) (by omega),rsK_succ hrk]
   exact post_ret [8,9] rfl (.tuple #[(.slice none 0 0),(.int .i64 (nxC p f.toNat ((tab (k + 1) (rsI p f.toNat a)).getD k [])))]) rfl ⟨(.slice none 0 0),(by rw [hfc,hti]),hE10,(by rw [rsR_e (by rw [hfc]; omega)]; exact frNil _ _ _),(RsP.err hfc (by omega) hnc)⟩
  ·
   refine q_neq false rfl rfl (decide_eq_false hc12) zN ?_
   refine lw_nil ?_
   refine c_cond_f rfl ?_
   refine wp_skip ?_
   refine wp_plain _ [0,0,3,4,0] rfl ?_
   refine q_move vo rfl zN ?_
   refine q_move v10_0 rfl zN ?_
   refine r_one (u := v10_0) (B := w5.heap.size) o1 u27 ti25 rfl rfl hO10_0 (by first | exact Nat.le_refl _ | omega) zN ?_
   intro v13 w13 hX13 hz13 hO13
   have hzs13:=hX13.size
   have hE13:=hE10.trans hX13
   have hL5_0x13 := hL5_0x10.ext (o2) hX13
   have hL5_1x13 := hL5_1x10.ext hX13
   have hd9x13 := hd9x10.ext g1 hX13
   have hlx14 := ldH_ext hX13 hlx11
   refine e_appF o1 (v := vo) (a := v13) u27 ti25 rfl rfl rfl hL5_0x13 (by omega) hO13 (by omega) (by omega) (by first | omega | assumption | (simp; done) | (simp; omega)) (by unfold maxLen; first | omega | assumption | (simp; done) | (simp; omega)) zN ?_
   intro v15 w15 F15 hC15 hF15 hO15
   have hE15 : Ext w w15 := hC15.below hE13 (fun c hc => Nat.le_trans hE1.size (hF15 c hc).1) hE13.size
   have hzs15:=hC15.size
   have hF16 := hL5_1x13.chg hC15 (fun hm => by have := hF15 _ hm; omega)
   refine q_assign v15 rfl zN ?_
   refine lw_nil ?_
   refine wp_plain _ [0,0] rfl ?_
   refine q_add ((k + 1 :Nat):Int) rfl rfl (w64n (by omega) (by omega)) zN ?_
   refine q_move (.int .i64 ((k + 1 :Nat):Int)) rfl zN ?_
   refine lw_nil ?_
   exact ⟨((k + 1),v15),_,rfl,⟨rfl,rfl,rfl,rfl,rfl,trivial⟩,⟨hE15,(by have h := hO15.up o2; rw [hti] at h; rw [tab_succ]; exact h),hF16,(by first | omega | assumption | (simp; done) | (simp; omega)),(by rw [rsK_succ hrk]; omega),(by have := hNX.len (by omega); show (((nxR p f.toNat (rsI p f.toNat a k)).length :Nat):Int) = _; omega),(by exact hNX.num),(by intro j hj; by_cases e9 : j ≤ k; (exact hrj j e9); (rw [show j = k + 1 from by omega]; have := hNX.len (by omega); show (nxR p f.toNat (rsI p f.toNat a k)).length = _; omega)),(by omega),(by omega)⟩,by first | omega | (dsimp only; omega)⟩
 ·
  refine q_lss false rfl rfl (decide_eq_false hc8) zN ?_
  refine lw_nil ?_
  refine wp_seq ?_
  refine c_cond_f rfl ?_
  refine wp_exit ?_
  refine t_exit ?_
  refine t_exit ?_
  refine c_exit_here ?_
  refine wp_seq ?_
  refine wp_plain _ [0,0,0] rfl ?_
  refine q_move vo rfl zN ?_
  refine q_assign vo rfl zN ?_
  refine q_assign (.int .i64 ((0 :Nat):Int)) rfl zN ?_
  refine lw_nil ?_
  refine wp_ret ?_
  have hke : k = n.toNat := by omega
  exact post_ret [8,9] rfl (.tuple #[vo,(.int .i64 ((0 :Nat):Int))]) rfl ⟨vo,(by rw [← hke,hrk]; rfl),hE5,(by have h := (hL5_0.up o2).low hE1.size; rw [← hke,rsR_o hrk]; exact h),(RsP.ok (by rw [← hke]; exact hrk) (by rw [← hke]; exact hrj))⟩
theorem rd_n {p : List Fn} {f n : Int} {a : Sr} (h : chC p f [a] ≠ 0) : rdC p f a n = chC p f [a] := if_neg h
theorem rd_2 {p : List Fn} {f n : Int} {a : Sr} (h : chC p f [a] = 0) (h2 : inB n 0 40 = false) : rdC p f a n = 2 := by unfold rdC; rw [if_pos h, h2]; rfl
theorem rd_0 {p : List Fn} {f n : Int} {a : Sr} (h : chC p f [a] = 0) (h2 : inB n 0 40 = true) : rdC p f a n = 0 := by unfold rdC; rw [if_pos h, h2]; rfl
theorem rt_n {p : List Fn} {f n : Int} {a : Sr} (h : rdC p f a n ≠ 0) : (0 ≤ rtC p f a n ∧ rtC p f a n ≤ 9) ∧ ((rtR p f a n).length ≤ 41 ∧ ∀ k, ((rtR p f a n).getD k []).length ≤ a.length) := by
  have := rdC_rng p f a n
  rw [rtC_n h, rtR_n h]
  exact ⟨by omega, by simp, fun k => by simp⟩
set_option maxHeartbeats 4000000 in
set_option maxRecDepth 100000 in
theorem c_impl_RoundStates (w : World) (dp : Nat) (vp : Value) (p : List Fn) (f : Int) (va : Value) (a : List Int) (n : Int) (hp : RP [] dp w.heap vp p) (_hf : -9223372036854775808 ≤ f ∧ f ≤ 9223372036854775807) (ha : Rd (rdL rI) w.heap va a) (_hn : -9223372036854775808 ≤ n ∧ n ≤ 9223372036854775807) (hz : SzP p) :
  Calls Tryz.prog 13 #[(.agg #[vp]),.int .i64 f,va,.int .i64 n] w (fun e w' => ∃ v0 : Value,e = .returned (.tuple #[v0,.int .i64 (rtC p f a n)]) ∧ Ext w w' ∧ Fr (owL (owL rI 2) 25) w.heap.size w'.heap.size w'.heap v0 (rtR p f a n) ∧ (0 ≤ rtC p f a n ∧ rtC p f a n ≤ 9) ∧ ((rtR p f a n).length ≤ 41 ∧ ∀ k,((rtR p f a n).getD k []).length ≤ a.length)) := by
 refine calls_mk [(.agg #[vp]),.int .i64 f,va,.int .i64 n] 33 Tryz.func13 rfl rfl (by simp) ?_
 have hE0 : Ext w w := Ext.refl w
 have hl_vp := hp.lenle
 unfold maxLen at hl_vp
 have hl_va := ha.lenle
 refine wp_seq ?_
 refine wp_plain _ [3,0,0] rfl ?_
 refine r_boxA (cs := #[vp]) rfl zN ?_
 intro w1 hX1 hz1 hB1
 have hzs1:=hX1.size
 have hE1:=hE0.trans hX1
 replace hB1 : BX w1.heap w.heap.size [vp] := hB1
 refine q_assign (.slice none 0 0) rfl zN ?_
 refine q_assign (.int .i64 ((0 :Nat):Int)) rfl zN ?_
 refine lw_nil ?_
 refine wp_seq ?_
 refine wp_plain _ [2,0,0,3,3,0] rfl ?_
 refine q_loadA (p := (.pointer (some ⟨w.heap.size,0,none⟩))) (.inr rfl) [vp] agg32 rfl (fun w9 hw9 => LD.of_box (BX.ext (w := w1) hB1 hw9)) rfl zN ?_
 refine q_move (.int .i64 f) rfl zN ?_
 refine q_move va rfl zN ?_
 refine r_one (u := va) (B := w1.heap.size) good_rV u27 ti25 rfl rfl (frV w1.heap.size w1.heap.size _ ((RN.of ha).one1 g1)) (Nat.le_refl _) zN ?_
 intro v2 w2 hX2 hz2 hO2
 have hzs2:=hX2.size
 have hE2:=hE1.trans hX2
 have hB1x2 := hB1.ext hX2
 refine lw_call 45 [] [] [(.agg #[vp]),(.int .i64 f),v2] rfl rfl cf45 zN (c_impl_isChained _ dp vp (p) _ v2 ([a]) (hp.ext (good_rdS (good_rFn dp)) hE2) _hf (RN.ofOne hO2 ((RN.of ha).ext g1 hE2) (fun b hb => by cases hb)) (one_cap hO2) (by exact hz)) ?_
 rintro e3 w3 ⟨rfl,hX3⟩
 refine ⟨_,rfl,hX3,?_⟩
 have hzs3:=hX3.size
 have hE3:=hE2.trans hX3
 have hB1x3 := hB1x2.ext hX3
 refine q_assign (.int .i64 (chC p f ([a]))) rfl zN ?_
 refine lw_nil ?_
 refine wp_seq ?_
 refine wp_seq ?_
 refine wp_plain _ [0,0,0,0,3,0,0] rfl ?_
 have hcr := chC_rng p f [a]
 refine q_move (.int .i64 (chC p f ([a]))) rfl zN ?_
 by_cases hc4 : chC p f ([a]) = ((0 :Nat):Int)
 ·
  refine q_eql true rfl rfl (decide_eq_true hc4) zN ?_
  refine q_move (.bool true) rfl zN ?_
  refine q_move (.int .i64 n) rfl (zS (e := 18) rfl rfl rfl) ?_
  refine lw_call 46 [] [] [(.int .i64 n)] rfl rfl cf46 (zS (e := 18) rfl rfl rfl) (c_impl_areSteps _ _ _hn) ?_
  rintro e5 w5 ⟨rfl,hX5⟩
  refine ⟨_,rfl,hX5,?_⟩
  have hzs5:=hX5.size
  have hE5:=hE3.trans hX5
  have hB1x5 := hB1x3.ext hX5
  refine q_not (!(inB n 0 40)) rfl rfl (zS (e := 18) rfl rfl rfl) ?_
  refine q_pick true (.bool (!(inB n 0 40))) rfl rfl zN ?_
  refine lw_nil ?_
  cases hb6 : (!(inB n 0 40))
  ·
   refine c_cond_f (by first | rfl | (show Value.bool _ = _; rw [hb6])) ?_
   refine wp_skip ?_
   refine wp_seq ?_
   refine wp_seq ?_
   refine wp_plain _ [0,0] rfl ?_
   have hdr := rdC_rng p f a n
   refine q_move (.int .i64 (chC p f ([a]))) rfl zN ?_
   by_cases hc7 : chC p f ([a]) ≠ ((0 :Nat):Int)
   ·
    refine q_neq true rfl rfl (decide_eq_true hc7) zN ?_
    refine lw_nil ?_
    refine c_cond_t rfl ?_
    refine wp_seq ?_
    refine wp_plain _ [0,0,0] rfl ?_
    refine q_move (.int .i64 (chC p f ([a]))) rfl zN ?_
    refine q_assign (.slice none 0 0) rfl zN ?_
    refine q_assign (.int .i64 (chC p f ([a]))) rfl zN ?_
    refine lw_nil ?_
    refine wp_ret ?_
    refine t_ret ?_
    exact post_ret [8,9] rfl (.tuple #[(.slice none 0 0),(.int .i64 (chC p f ([a])))]) rfl ⟨(.slice none 0 0),(by first | rw [rtC_0 hg0] | rw [rtC_n (by rw [rd_n (by omega)]; omega),rd_n (by omega)] | (rw [rtC_n (by rw [rd_2 (by omega) (bn_t (by assumption))]; omega),rd_2 (by omega) (bn_t (by assumption))]; rfl)),hE5,(by first | (rw [rtR_0 hg0]; exact frNil _ _ _) | (rw [rtR_n (by rw [rd_n (by omega)]; omega)]; exact frNil _ _ _) | (rw [rtR_n (by rw [rd_2 (by omega) (bn_t (by assumption))]; omega)]; exact frNil _ _ _)),(by first | (rw [rtC_0 hg0]; exact ‹RsP p f.toNat a n.toNat›.code) | exact (rt_n (by rw [rd_n (by omega)]; omega)).1 | exact (rt_n (by rw [rd_2 (by omega) (bn_t (by assumption))]; omega)).1),(by first | (rw [rtR_0 hg0]; exact ⟨by have := ‹RsP p f.toNat a n.toNat›.len; omega,‹RsP p f.toNat a n.toNat›.rows⟩) | exact (rt_n (by rw [rd_n (by omega)]; omega)).2 | exact (rt_n (by rw [rd_2 (by omega) (bn_t (by assumption))]; omega)).2)⟩
   ·
    refine q_neq false rfl rfl (decide_eq_false hc7) zN ?_
    refine lw_nil ?_
    refine c_cond_f rfl ?_
    refine wp_skip ?_
    refine wp_seq ?_
    refine wp_plain _ [2,0,0,0,3,0,0,0,0] rfl ?_
    have hg0 : rdC p f a n = 0 := by first | exact rd_0 (by omega) (bn_f (by assumption)) | (exfalso; omega)
    have hq0 := rdC_0 hg0
    have hvp := okP_vpr hq0.1
    refine q_loadA (p := (.pointer (some ⟨w.heap.size,0,none⟩))) (.inr rfl) [vp] agg32 rfl (fun w9 hw9 => LD.of_box (BX.ext (w := w5) hB1x5 hw9)) rfl zN ?_
    refine q_move (.int .i64 f) rfl zN ?_
    refine q_move va rfl zN ?_
    refine q_move (.int .i64 n) rfl zN ?_
    refine lw_call 47 [] [] [(.agg #[vp]),(.int .i64 f),va,(.int .i64 n)] rfl rfl cf47 zN (c_impl_Program_states _ dp vp (p) _ _ _ _ (hp.ext (good_rdS (good_rFn dp)) hE5) _hf (ha.ext g1 hE5) _hn (by exact hvp) (by omega) (by omega) (by exact hq0.2.2.2.2.1) (by omega) (by omega)) ?_
    rintro e8 w8 ⟨v8_0,rfl,hX8,hO8_0,hP8_0⟩
    refine ⟨_,rfl,hX8,?_⟩
    have hzs8:=hX8.size
    have hE8:=hE5.trans hX8
    have hB1x8 := hB1x5.ext hX8
    refine q_extract (vs := [v8_0,(.int .i64 (rsK p f.toNat a n.toNat))]) v8_0 rfl rfl zN ?_
    refine q_extract (vs := [v8_0,(.int .i64 (rsK p f.toNat a n.toNat))]) (.int .i64 (rsK p f.toNat a n.toNat)) rfl rfl zN ?_
    refine q_assign v8_0 rfl zN ?_
    refine q_assign (.int .i64 (rsK p f.toNat a n.toNat)) rfl zN ?_
    refine lw_nil ?_
    refine wp_ret ?_
    exact post_ret [8,9] rfl (.tuple #[v8_0,(.int .i64 (rsK p f.toNat a n.toNat))]) rfl ⟨v8_0,(by first | rw [rtC_0 hg0] | rw [rtC_n (by rw [rd_n (by omega)]; omega),rd_n (by omega)] | (rw [rtC_n (by rw [rd_2 (by omega) (bn_t (by assumption))]; omega),rd_2 (by omega) (bn_t (by assumption))]; rfl)),hE8,(by first | (rw [rtR_0 hg0]; exact (hO8_0.up o2).low hE5.size) | (rw [rtR_n (by rw [rd_n (by omega)]; omega)]; exact (hO8_0.up o2).low hE5.size) | (rw [rtR_n (by rw [rd_2 (by omega) (bn_t (by assumption))]; omega)]; exact (hO8_0.up o2).low hE5.size)),(by first | (rw [rtC_0 hg0]; exact ‹RsP p f.toNat a n.toNat›.code) | exact (rt_n (by rw [rd_n (by omega)]; omega)).1 | exact (rt_n (by rw [rd_2 (by omega) (bn_t (by assumption))]; omega)).1),(by first | (rw [rtR_0 hg0]; exact ⟨by have := ‹RsP p f.toNat a n.toNat›.len; omega,‹RsP p f.toNat a n.toNat›.rows⟩) | exact (rt_n (by rw [rd_n (by omega)]; omega)).2 | exact (rt_n (by rw [rd_2 (by omega) (bn_t (by assumption))]; omega)).2)⟩
  ·
   refine c_cond_t (by first | rfl | (show Value.bool _ = _; rw [hb6])) ?_
   refine wp_plain _ [0] rfl ?_
   refine q_assign (.int .i64 ((2 :Nat):Int)) rfl zN ?_
   refine lw_nil ?_
   refine wp_seq ?_
   refine wp_seq ?_
   refine wp_plain _ [0,0] rfl ?_
   have hdr := rdC_rng p f a n
   refine q_move (.int .i64 ((2 :Nat):Int)) rfl zN ?_
   refine q_neq true rfl rfl (by decide) zN ?_
   refine lw_nil ?_
   refine c_cond_t rfl ?_
   refine wp_seq ?_
   refine wp_plain _ [0,0,0] rfl ?_
   refine q_move (.int .i64 ((2 :Nat):Int)) rfl zN ?_
   refine q_assign (.slice none 0 0) rfl zN ?_
   refine q_assign (.int .i64 ((2 :Nat):Int)) rfl zN ?_
   refine lw_nil ?_
   refine wp_ret ?_
   refine t_ret ?_
   exact post_ret [8,9] rfl (.tuple #[(.slice none 0 0),(.int .i64 ((2 :Nat):Int))]) rfl ⟨(.slice none 0 0),(by first | rw [rtC_0 hg0] | rw [rtC_n (by rw [rd_n (by omega)]; omega),rd_n (by omega)] | (rw [rtC_n (by rw [rd_2 (by omega) (bn_t (by assumption))]; omega),rd_2 (by omega) (bn_t (by assumption))]; rfl)),hE5,(by first | (rw [rtR_0 hg0]; exact frNil _ _ _) | (rw [rtR_n (by rw [rd_n (by omega)]; omega)]; exact frNil _ _ _) | (rw [rtR_n (by rw [rd_2 (by omega) (bn_t (by assumption))]; omega)]; exact frNil _ _ _)),(by first | (rw [rtC_0 hg0]; exact ‹RsP p f.toNat a n.toNat›.code) | exact (rt_n (by rw [rd_n (by omega)]; omega)).1 | exact (rt_n (by rw [rd_2 (by omega) (bn_t (by assumption))]; omega)).1),(by first | (rw [rtR_0 hg0]; exact ⟨by have := ‹RsP p f.toNat a n.toNat›.len; omega,‹RsP p f.toNat a n.toNat›.rows⟩) | exact (rt_n (by rw [rd_n (by omega)]; omega)).2 | exact (rt_n (by rw [rd_2 (by omega) (bn_t (by assumption))]; omega)).2)⟩
 ·
  refine q_eql false rfl rfl (decide_eq_false hc4) zN ?_
  refine q_move (.bool false) rfl zN ?_
  refine lw_skip (e := 18) (c := false) rfl rfl rfl rfl ?_
  refine lw_skip (e := 18) (c := false) rfl rfl rfl rfl ?_
  refine lw_skip (e := 18) (c := false) rfl rfl rfl rfl ?_
  refine q_pick false (.bool false) rfl rfl zN ?_
  refine lw_nil ?_
  refine c_cond_f rfl ?_
  refine wp_skip ?_
  refine wp_seq ?_
  refine wp_seq ?_
  refine wp_plain _ [0,0] rfl ?_
  have hdr := rdC_rng p f a n
  refine q_move (.int .i64 (chC p f ([a]))) rfl zN ?_
  by_cases hc9 : chC p f ([a]) ≠ ((0 :Nat):Int)
  ·
   refine q_neq true rfl rfl (decide_eq_true hc9) zN ?_
   refine lw_nil ?_
   refine c_cond_t rfl ?_
   refine wp_seq ?_
   refine wp_plain _ [0,0,0] rfl ?_
   refine q_move (.int .i64 (chC p f ([a]))) rfl zN ?_
   refine q_assign (.slice none 0 0) rfl zN ?_
   refine q_assign (.int .i64 (chC p f ([a]))) rfl zN ?_
   refine lw_nil ?_
   refine wp_ret ?_
   refine t_ret ?_
   exact post_ret [8,9] rfl (.tuple #[(.slice none 0 0),(.int .i64 (chC p f ([a])))]) rfl ⟨(.slice none 0 0),(by first | rw [rtC_0 hg0] | rw [rtC_n (by rw [rd_n (by omega)]; omega),rd_n (by omega)] | (rw [rtC_n (by rw [rd_2 (by omega) (bn_t (by assumption))]; omega),rd_2 (by omega) (bn_t (by assumption))]; rfl)),hE3,(by first | (rw [rtR_0 hg0]; exact frNil _ _ _) | (rw [rtR_n (by rw [rd_n (by omega)]; omega)]; exact frNil _ _ _) | (rw [rtR_n (by rw [rd_2 (by omega) (bn_t (by assumption))]; omega)]; exact frNil _ _ _)),(by first | (rw [rtC_0 hg0]; exact ‹RsP p f.toNat a n.toNat›.code) | exact (rt_n (by rw [rd_n (by omega)]; omega)).1 | exact (rt_n (by rw [rd_2 (by omega) (bn_t (by assumption))]; omega)).1),(by first | (rw [rtR_0 hg0]; exact ⟨by have := ‹RsP p f.toNat a n.toNat›.len; omega,‹RsP p f.toNat a n.toNat›.rows⟩) | exact (rt_n (by rw [rd_n (by omega)]; omega)).2 | exact (rt_n (by rw [rd_2 (by omega) (bn_t (by assumption))]; omega)).2)⟩
  ·
   refine q_neq false rfl rfl (decide_eq_false hc9) zN ?_
   refine lw_nil ?_
   refine c_cond_f rfl ?_
   refine wp_skip ?_
   refine wp_seq ?_
   refine wp_plain _ [2,0,0,0,3,0,0,0,0] rfl ?_
   have hg0 : rdC p f a n = 0 := by first | exact rd_0 (by omega) (bn_f (by assumption)) | (exfalso; omega)
   have hq0 := rdC_0 hg0
   have hvp := okP_vpr hq0.1
   refine q_loadA (p := (.pointer (some ⟨w.heap.size,0,none⟩))) (.inr rfl) [vp] agg32 rfl (fun w9 hw9 => LD.of_box (BX.ext (w := w3) hB1x3 hw9)) rfl zN ?_
   refine q_move (.int .i64 f) rfl zN ?_
   refine q_move va rfl zN ?_
   refine q_move (.int .i64 n) rfl zN ?_
   refine lw_call 47 [] [] [(.agg #[vp]),(.int .i64 f),va,(.int .i64 n)] rfl rfl cf47 zN (c_impl_Program_states _ dp vp (p) _ _ _ _ (hp.ext (good_rdS (good_rFn dp)) hE3) _hf (ha.ext g1 hE3) _hn (by exact hvp) (by omega) (by omega) (by exact hq0.2.2.2.2.1) (by omega) (by omega)) ?_
   rintro e10 w10 ⟨v10_0,rfl,hX10,hO10_0,hP10_0⟩
   refine ⟨_,rfl,hX10,?_⟩
   have hzs10:=hX10.size
   have hE10:=hE3.trans hX10
   have hB1x10 := hB1x3.ext hX10
   refine q_extract (vs := [v10_0,(.int .i64 (rsK p f.toNat a n.toNat))]) v10_0 rfl rfl zN ?_
   refine q_extract (vs := [v10_0,(.int .i64 (rsK p f.toNat a n.toNat))]) (.int .i64 (rsK p f.toNat a n.toNat)) rfl rfl zN ?_
   refine q_assign v10_0 rfl zN ?_
   refine q_assign (.int .i64 (rsK p f.toNat a n.toNat)) rfl zN ?_
   refine lw_nil ?_
   refine wp_ret ?_
   exact post_ret [8,9] rfl (.tuple #[v10_0,(.int .i64 (rsK p f.toNat a n.toNat))]) rfl ⟨v10_0,(by first | rw [rtC_0 hg0] | rw [rtC_n (by rw [rd_n (by omega)]; omega),rd_n (by omega)] | (rw [rtC_n (by rw [rd_2 (by omega) (bn_t (by assumption))]; omega),rd_2 (by omega) (bn_t (by assumption))]; rfl)),hE10,(by first | (rw [rtR_0 hg0]; exact (hO10_0.up o2).low hE3.size) | (rw [rtR_n (by rw [rd_n (by omega)]; omega)]; exact (hO10_0.up o2).low hE3.size) | (rw [rtR_n (by rw [rd_2 (by omega) (bn_t (by assumption))]; omega)]; exact (hO10_0.up o2).low hE3.size)),(by first | (rw [rtC_0 hg0]; exact ‹RsP p f.toNat a n.toNat›.code) | exact (rt_n (by rw [rd_n (by omega)]; omega)).1 | exact (rt_n (by rw [rd_2 (by omega) (bn_t (by assumption))]; omega)).1),(by first | (rw [rtR_0 hg0]; exact ⟨by have := ‹RsP p f.toNat a n.toNat›.len; omega,‹RsP p f.toNat a n.toNat›.rows⟩) | exact (rt_n (by rw [rd_n (by omega)]; omega)).2 | exact (rt_n (by rw [rd_2 (by omega) (bn_t (by assumption))]; omega)).2)⟩
end Go.Proofs.YtnofbmdpabcjaaaGreat
