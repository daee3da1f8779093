/- Vj, Vm, Vo, Xg, Yx: texts of this claim, joined; what the claim does not come to is left out. -/
import Derived.Test.YtjnbnlniafmblaaQA2
import Derived.Test.YtjnbnlniafmblaaProg
set_option linter.unusedVariables false
set_option linter.unusedSimpArgs false
namespace Go.Proofs.Ytjnbnlniafmblaa
open Go Go.RowKit
set_option linter.unusedVariables false
set_option linter.unusedSimpArgs false
set_option maxHeartbeats 4000000
set_option maxRecDepth 100000
attribute [local irreducible] LW
theorem any_step {α : Type} {l : List α} {f : α → Bool} {k : Nat} (d : α) (hk : k < l.length) (h : (l.take k).any f = false) (h2 : f (l.getD k d) = false) : (l.take (k + 1)).any f = false := by
  rw [List.take_succ_eq_append_getElem hk, List.any_append, h]
  have : l.getD k d = l[k] := by simp [hk]
  rw [this] at h2
  simp [h2]
theorem any_hit {α : Type} {l : List α} {f : α → Bool} {k n : Nat} (d : α) (hk : k < n) (hn : n ≤ l.length) (h : f (l.getD k d) = true) : (l.take n).any f = true := by
  rw [List.any_eq_true]
  have hkl : k < l.length := by omega
  have e : l.getD k d = l[k] := by simp [hkl]
  refine ⟨l[k], ?_, by rw [← e]; exact h⟩
  rw [List.mem_take_iff_getElem]
  exact ⟨k, by omega, rfl⟩
theorem left_ok {p : List Fn} {a j : Nat} {x : Int} (hx : x = lfts ((p.getD a Fn.zero).outs.take j) ((400 : Nat) : Int)) (h : 0 ≤ x) (hj : (p.getD a Fn.zero).outs.length ≤ j) : Ex.sizes (p.getD a Fn.zero).outs ≤ 400 := by
  rw [List.take_of_length_le hj] at hx
  rcases lfts_spec (p.getD a Fn.zero).outs ((400 : Nat) : Int) (Int.natCast_nonneg _) with h2 | h2
  · have := h2.2; omega
  · have := h2.1; omega
theorem left_neg {p : List Fn} {a j : Nat} (h : lfts ((p.getD a Fn.zero).outs.take j) ((400 : Nat) : Int) < 0) : fnB p a = false := fn_6 (by
  have h1 := lfts_stop h
  rcases lfts_spec (p.getD a Fn.zero).outs ((400 : Nat) : Int) (Int.natCast_nonneg _) with h2 | h2
  · have := h2.1; have := h2.2; omega
  · have := h2.2; omega)
theorem z118_0 {p : Prop} (h : p := by first | exact ret_bool (fn_1 (bn_t (by assumption))).symm | exact ret_bool (fn_3 (bn_t (by assumption))).symm | exact ret_bool (fn_4 (bn_t (by assumption))).symm | exact ret_bool (fn_2 (any_hit (k := k) Fn.zero oM oM (by assumption))).symm | exact ret_bool (left_neg (j := j + 1) (by rw [hnx, ← hx]; omega)).symm | exact ret_bool (fn_5 (j := j) oM (bn_t (by assumption))).symm | exact ret_bool (fn_ok (bn_f (by assumption)) hqa (bn_f (by assumption)) (bn_f (by assumption)) hqe oM (left_ok hx oM oM)).symm) : p := h
theorem z118_1 {p : Prop} (h : p := by simp [exC, fnC]) : p := h
theorem c_spec_l02Func (w : World) (dp : Nat) (vp : Value) (p : List Fn) (a : Nat) (hp : RN [] (rP (rPr dp)) w.heap vp p) (ha : a < p.length) (hpl : p.length ≤ 1000000) (hz : SzP p) :
  Calls Try.prog 118 #[vp,.int .i64 ((a :Nat):Int)] w (fun e w' => e = .returned (.bool (fnB p a)) ∧ Ext w w') := by
 refine calls_mk [vp,.int .i64 ((a :Nat):Int)] 91 Try.func118 rfl rfl sM ?_
 have hE0 : Ext w w := Ext.refl w
 have hza := hz a ha
 refine wp_seq (wp_plain _ [0] rfl (lw_tvn 1 rfl (wp_seq (wp_plain _ [0,0,0,2,0,0,0] rfl (lw_tv 1 rfl (q_nilP (hp.isPtr) rfl zN ?_))))))
 obtain ⟨cs1,hr1,hl1⟩ := RN.at (good_rPr _) hp
 obtain ⟨ve1,rfl,hx1⟩ := RPr.of hr1
 have hln1 := hx1.lenle
 unfold maxLen at hln1
 refine q_fldL (p := vp) 0 fd52_0 rfl (hl1 _ (Chg.of_ext [] hE0)) zN (q_load (p := (padd vp 0)) (.inr rfl) ve1 one50 rfl ((hl1 _ (Chg.of_ext [] hE0)).ld (i := 0) z118_1) zN (lw_tv 1 rfl (q_idx (v := ve1) a u50 tiS49 rfl rfl hx1.isSl rfl sD zN (lw_tvn 1 rfl (wp_seq (wp_seq (wp_plain _ [0,0,0,2,0,0,0,0,0,0,2,0,0,0,0,0,0,0,2,0,0,0,0] rfl (lw_tv 1 rfl ?_))))))))
 refine q_nilP (RN.isPtr (RN.ptr (good_rFn dp) (by decide) Fn.zero hx1 sD)) rfl zN ?_
 obtain ⟨cs2,hr2,hl2⟩ := hx1.get (good_rFn dp) Fn.zero (k := a) sD
 obtain ⟨ve2,rfl,hx2⟩ := RF.of hr2
 have hln2 := hx2.rn.lenle
 unfold maxLen at hln2
 refine q_fldL (p := eptr ve1 a 3) 0 fd49_0 rfl (hl2 _ (Chg.of_ext [] hE0)) zN (q_load (p := (padd (eptr ve1 a 3) 0)) (.inr rfl) (.string ((p.getD a Fn.zero).name)) one9 rfl ((hl2 _ (Chg.of_ext [] hE0)).ld (i := 0) z118_1) zN (lw_callq 141 [] [] [(.string ((p.getD a Fn.zero).name))] rfl rfl cf141 zN (.bool (nmB ((p.getD a Fn.zero).name))) (fun wq => c_spec_IsName wq ((p.getD a Fn.zero).name) oM) (q_not (!(nmB ((p.getD a Fn.zero).name))) rfl rfl zN (lw_tv 1 rfl ?_))))
 cases hb4 : (!(nmB ((p.getD a Fn.zero).name)))
 ·
  refine lw_tv 1 rfl (q_nilP (RN.isPtr (RN.ptr (good_rFn dp) (by decide) Fn.zero hx1 sD)) rfl (zS (e := 21) rfl rfl rfl) (q_fldL (p := eptr ve1 a 3) 1 fd49_1 rfl (hl2 _ (Chg.of_ext [] hE0)) (zS (e := 21) rfl rfl rfl) (q_load (p := (padd (eptr ve1 a 3) 1)) (.inr rfl) (.int .i64 ((p.getD a Fn.zero).params)) one2 rfl ((hl2 _ (Chg.of_ext [] hE0)).ld (i := 1) z118_1) (zS (e := 21) rfl rfl rfl) ?_)))
  refine lw_callq 79 [] [] [(.int .i64 ((p.getD a Fn.zero).params)),(.int .i64 ((0 :Nat):Int)),(.int .i64 ((12 :Nat):Int))] rfl rfl cf79 (zS (e := 21) rfl rfl rfl) (.bool (decide (((0 :Nat):Int) ≤ ((p.getD a Fn.zero).params)) && decide (((p.getD a Fn.zero).params) ≤ ((12 :Nat):Int)))) (fun wq => c_spec_l00In wq _ _ _ hx2.rng oM oM) (q_not (!(decide (((0 :Nat):Int) ≤ ((p.getD a Fn.zero).params)) && decide (((p.getD a Fn.zero).params) ≤ ((12 :Nat):Int)))) rfl rfl (zS (e := 21) rfl rfl rfl) (lw_tv 2 rfl ?_))
  cases hb6 : (!(decide (((0 :Nat):Int) ≤ ((p.getD a Fn.zero).params)) && decide (((p.getD a Fn.zero).params) ≤ ((12 :Nat):Int))))
  ·
   refine lw_tv 1 rfl (q_nilP (RN.isPtr (RN.ptr (good_rFn dp) (by decide) Fn.zero hx1 sD)) rfl (zS (e := 29) rfl rfl rfl) (q_fldL (p := eptr ve1 a 3) 2 fd49_2 rfl (hl2 _ (Chg.of_ext [] hE0)) (zS (e := 29) rfl rfl rfl) (q_load (p := (padd (eptr ve1 a 3) 2)) (.inr rfl) ve2 one44 rfl ((hl2 _ (Chg.of_ext [] hE0)).ld (i := 2) z118_1) (zS (e := 29) rfl rfl rfl) (q_len (v := ve2) u44 rfl hx2.rn.isSl (zS (e := 29) rfl rfl rfl) ?_))))
   refine lw_callq 79 [] [] [(.int .i64 ((((p.getD a Fn.zero).outs).length :Nat):Int)),(.int .i64 ((1 :Nat):Int)),(.int .i64 ((12 :Nat):Int))] rfl rfl cf79 (zS (e := 29) rfl rfl rfl) (.bool (decide (((1 :Nat):Int) ≤ ((((p.getD a Fn.zero).outs).length :Nat):Int)) && decide (((((p.getD a Fn.zero).outs).length :Nat):Int) ≤ ((12 :Nat):Int)))) (fun wq => c_spec_l00In wq _ _ _ oM oM oM) (q_not (!(decide (((1 :Nat):Int) ≤ ((((p.getD a Fn.zero).outs).length :Nat):Int)) && decide (((((p.getD a Fn.zero).outs).length :Nat):Int) ≤ ((12 :Nat):Int)))) rfl rfl (zS (e := 29) rfl rfl rfl) (lw_tvn 1 rfl ?_))
   cases hb8 : (!(decide (((1 :Nat):Int) ≤ ((((p.getD a Fn.zero).outs).length :Nat):Int)) && decide (((((p.getD a Fn.zero).outs).length :Nat):Int) ≤ ((12 :Nat):Int))))
   ·
    refine c_cond_f (by first | rfl | (show Value.bool _ = _; rw [hb8])) (wp_skip (wp_seq (wp_seq (wp_plain _ [0] rfl (lw_tvn 1 rfl (wp_block ?_))))))
    refine c_loop (S := Nat) (fun (k : Nat) => ([(6,(.int .i64 ((k :Nat):Int))),(0,vp),(1,(.int .i64 ((a :Nat):Int))),(5,(eptr ve1 a 3))] : List (Nat × Value))) (fun (k : Nat) (W : World) => Ext w W ∧ k ≤ a ∧ (p.take k).any (fun g => strE g.name (p.getD a Fn.zero).name) = false) (fun (k : Nat) => a - k) 0 ⟨rfl,rfl,rfl,rfl,trivial⟩ ⟨hE0,sD,(by rfl)⟩ ?_
    clear hE0 hln1 hln2
    rintro k ρ9 w9 ⟨hE9,hp9_0,hq⟩
    have hzs9 : w.heap.size ≤ w9.heap.size := hE9.size
    refine wp_seq (wp_seq (wp_plain _ [0,0,0] rfl (lw_tv 2 rfl ?_)))
    by_cases hc10 : ((k :Nat):Int) < ((a :Nat):Int)
    ·
     refine q_lss true rfl rfl (decide_eq_true hc10) zN (lw_nil (c_cond_t rfl (wp_skip (wp_seq (wp_block (wp_seq (wp_draw _ [0,0,0,1,0,0,0,1,0,0,0,1,0] mixed (by kernel_rfl) (lw_tv 1 rfl (q_nilP (hp.isPtr) rfl zN (q_fldL (p := vp) 0 fd52_0 rfl (hl1 _ (Chg.of_ext [] hE9.drew)) zN (q_load (p := (padd vp 0)) (.inl rfl) ve1 one50 rfl ((hl1 _ (Chg.of_ext [] hE9.drew)).ld (i := 0) z118_1) zN (lw_tv 1 rfl ?_))))))))))))
     refine q_idx (v := ve1) k u50 tiS49 rfl rfl hx1.isSl rfl sD zN ?_
     obtain ⟨cs11,hr11,hl11⟩ := hx1.get (good_rFn dp) Fn.zero (k := k) sD
     obtain ⟨ve11,rfl,hx11⟩ := RF.of hr11
     have hln11 := hx11.rn.lenle
     unfold maxLen at hln11
     refine q_fldL (p := eptr ve1 k 3) 0 fd49_0 rfl (hl11 _ (Chg.of_ext [] hE9.drew)) zN (q_load (p := (padd (eptr ve1 k 3) 0)) (.inl rfl) (.string ((p.getD k Fn.zero).name)) one9 rfl ((hl11 _ (Chg.of_ext [] hE9.drew)).ld (i := 0) z118_1) zN (lw_tv 1 rfl (q_nilP (RN.isPtr (RN.ptr (good_rFn dp) (by decide) Fn.zero hx1 sD)) rfl zN (q_fldL (p := eptr ve1 a 3) 0 fd49_0 rfl (hl2 _ (Chg.of_ext [] hE9.drew)) zN ?_))))
     refine q_load (p := (padd (eptr ve1 a 3) 0)) (.inl rfl) (.string ((p.getD a Fn.zero).name)) one9 rfl ((hl2 _ (Chg.of_ext [] hE9.drew)).ld (i := 0) z118_1) zN ?_
     cases hc12 : strE ((p.getD k Fn.zero).name) ((p.getD a Fn.zero).name)
     ·
      refine q_eqls false u9 rfl rfl hc12 zN (lw_nil (c_cond_f rfl (wp_skip (wp_plain _ [0,0,0] rfl (lw_tv 1 rfl (q_add ((k + 1 :Nat):Int) rfl rfl (w64n oM sD) zN (lw_tvn 1 rfl ?_)))))))
      exact ⟨(k + 1),_,rfl,⟨rfl,rfl,rfl,rfl,trivial⟩,⟨hE9.drew,sD,(by exact any_step Fn.zero oM hq (by assumption))⟩,by first | omega | (dsimp only; omega)⟩
     ·
      exact q_eqls true u9 rfl rfl hc12 zN (lw_nil (c_cond_t rfl (wp_seq (wp_plain _ [0] rfl (lw_tvn 1 rfl (wp_ret (b_ret (t_ret (t_ret (b_ret (t_ret (post_ret [4] rfl (.bool false) rfl ⟨z118_0,hE9.drew⟩))))))))))))
    ·
     refine q_lss false rfl rfl (decide_eq_false hc10) zN (lw_nil (c_cond_f rfl (wp_exit (t_exit (t_exit (c_exit_here (wp_seq (wp_plain _ [0] rfl ?_))))))))
     have hka : k = a := by omega
     rw [hka] at hq
     have hqa := hq
     refine lw_tvn 1 rfl (wp_seq (wp_seq (wp_plain _ [0] rfl (lw_tvn 1 rfl (wp_block ?_)))))
     refine c_loop (S := Nat × Int) (fun (⟨j,x⟩ : Nat × Int) => ([(7,(.int .i64 x)),(8,(.int .i64 ((j :Nat):Int))),(0,vp),(1,(.int .i64 ((a :Nat):Int))),(5,(eptr ve1 a 3))] : List (Nat × Value))) (fun (⟨j,x⟩ : Nat × Int) (W : World) => Ext w W ∧ j ≤ (p.getD a Fn.zero).outs.length ∧ x = lfts ((p.getD a Fn.zero).outs.take j) ((400 :Nat):Int) ∧ (0 ≤ x ∧ x ≤ 400) ∧ (List.range j).all (fun j => exB p ((p.getD a Fn.zero).outs.getD j Ex.zero) (p.getD a Fn.zero).params ((a :Nat):Int)) = true) (fun (⟨j,x⟩ : Nat × Int) => (p.getD a Fn.zero).outs.length - j) (0,((400 :Nat):Int)) ⟨rfl,rfl,rfl,rfl,rfl,trivial⟩ ⟨hE9,sD,(by rw [List.take_zero,lfts]),oM,(by rfl)⟩ ?_
     clear hE9 hzs9
     rintro ⟨j,x⟩ ρ13 w13 ⟨hE13,hp13_0,hx,hp13_2,hqe⟩
     have hzs13 : w.heap.size ≤ w13.heap.size := hE13.size
     refine wp_seq (wp_seq (wp_plain _ [0,0,0,0,2,0,0] rfl (lw_tv 2 rfl (q_nilP (RN.isPtr (RN.ptr (good_rFn dp) (by decide) Fn.zero hx1 sD)) rfl zN (q_fldL (p := eptr ve1 a 3) 2 fd49_2 rfl (hl2 _ (Chg.of_ext [] hE13)) zN (q_load (p := (padd (eptr ve1 a 3) 2)) (.inr rfl) ve2 one44 rfl ((hl2 _ (Chg.of_ext [] hE13)).ld (i := 2) z118_1) zN (q_len (v := ve2) u44 rfl hx2.rn.isSl zN ?_)))))))
     by_cases hc14 : ((j :Nat):Int) < ((((p.getD a Fn.zero).outs).length :Nat):Int)
     ·
      refine q_lss true rfl rfl (decide_eq_true hc14) zN (lw_nil (c_cond_t rfl (wp_skip (wp_seq (wp_block (wp_seq (wp_plain _ [0,0,0,2,0,0,0,3,0] rfl ?_)))))))
      have hst := sizes_step (l := (p.getD a Fn.zero).outs) (k := j) oM
      have hle := sizes_take (p.getD a Fn.zero).outs (j + 1)
      have hnx := lfts_step (l := (p.getD a Fn.zero).outs) (k := j) (x := ((400 :Nat):Int)) oM oM
      have hnr := lftE_rng (e := (p.getD a Fn.zero).outs.getD j Ex.zero) (x := x) oM
      refine lw_tv 1 rfl (q_nilP (RN.isPtr (RN.ptr (good_rFn dp) (by decide) Fn.zero hx1 sD)) rfl zN (q_fldL (p := eptr ve1 a 3) 2 fd49_2 rfl (hl2 _ (Chg.of_ext [] hE13)) zN (q_load (p := (padd (eptr ve1 a 3) 2)) (.inr rfl) ve2 one44 rfl ((hl2 _ (Chg.of_ext [] hE13)).ld (i := 2) z118_1) zN (lw_tv 1 rfl ?_))))
      refine q_idx (v := ve2) j u44 tiS46 rfl rfl hx2.rn.isSl rfl sD zN (lw_tv 1 rfl ?_)
      refine lw_call 142 [] [] [(eptr ve2 j 5),(.int .i64 x)] rfl rfl cf142 zN (c_spec_l02Left _ dp (eptr ve2 j 5) (((p.getD a Fn.zero).outs).getD j Ex.zero) _ (RN.ptr (good_rEx dp) (by decide) Ex.zero (hx2.rn.ext (good_rdS (good_rEx dp)) hE13) sD) oM oM oM) ?_
      rintro e15 w15 ⟨rfl,hX15⟩
      refine ⟨_,rfl,hX15,?_⟩
      have hzs15:=hX15.size
      have hE15:=hE13.trans hX15
      refine lw_tvn 1 rfl (wp_seq (wp_draw _ [0,0,0,0,0,0,0,1,0,0,0,0,0,1,0,3,0,0] mixed (by kernel_rfl) (lw_tv 1 rfl ?_)))
      by_cases hc16 : lftE (((p.getD a Fn.zero).outs).getD j Ex.zero) x < ((0 :Nat):Int)
      ·
       exact q_lss true rfl rfl (decide_eq_true hc16) zN (lw_tvn 16 rfl (c_cond_t rfl (wp_seq (wp_plain _ [0] rfl (lw_tvn 1 rfl (wp_ret (b_ret (t_ret (t_ret (b_ret (t_ret (post_ret [4] rfl (.bool false) rfl ⟨z118_0,hE15.drew⟩))))))))))))
      ·
       refine q_lss false rfl rfl (decide_eq_false hc16) zN (lw_tv 3 rfl (q_nilP (RN.isPtr (RN.ptr (good_rFn dp) (by decide) Fn.zero hx1 sD)) rfl (zS (e := 75) rfl rfl rfl) (q_fldL (p := eptr ve1 a 3) 2 fd49_2 rfl (hl2 _ (Chg.of_ext [] hE15.drew)) (zS (e := 75) rfl rfl rfl) (q_load (p := (padd (eptr ve1 a 3) 2)) (.inl rfl) ve2 one44 rfl ((hl2 _ (Chg.of_ext [] hE15.drew)).ld (i := 2) z118_1) (zS (e := 75) rfl rfl rfl) (lw_tv 1 rfl ?_)))))
       refine q_idx (v := ve2) j u44 tiS46 rfl rfl hx2.rn.isSl rfl sD (zS (e := 75) rfl rfl rfl) (lw_tv 1 rfl ?_)
       refine q_nilP (RN.isPtr (RN.ptr (good_rFn dp) (by decide) Fn.zero hx1 sD)) rfl (zS (e := 75) rfl rfl rfl) (q_fldL (p := eptr ve1 a 3) 1 fd49_1 rfl (hl2 _ (Chg.of_ext [] hE15.drew)) (zS (e := 75) rfl rfl rfl) (q_load (p := (padd (eptr ve1 a 3) 1)) (.inl rfl) (.int .i64 ((p.getD a Fn.zero).params)) one2 rfl ((hl2 _ (Chg.of_ext [] hE15.drew)).ld (i := 1) z118_1) (zS (e := 75) rfl rfl rfl) (lw_tv 1 rfl ?_)))
       refine lw_call 143 [] [] [vp,(eptr ve2 j 5),(.int .i64 ((p.getD a Fn.zero).params)),(.int .i64 ((a :Nat):Int))] rfl rfl cf143 (zS (e := 75) rfl rfl rfl) (c_spec_l02Expr _ dp vp (p) dp (eptr ve2 j 5) (((p.getD a Fn.zero).outs).getD j Ex.zero) _ _ (hp.ext (good_rP (good_rPr dp)) hE15.drew) (RN.ptr (good_rEx dp) (by decide) Ex.zero (hx2.rn.ext (good_rdS (good_rEx dp)) hE15.drew) sD) hx2.rng oM oM) ?_
       rintro e17 w17 ⟨rfl,hX17⟩
       refine ⟨_,rfl,hX17,?_⟩
       replace hX17 := hX17.of_drew
       have hzs17:=hX17.size
       have hE17:=hE15.trans hX17
       refine q_not (!(exB p (((p.getD a Fn.zero).outs).getD j Ex.zero) ((p.getD a Fn.zero).params) ((a :Nat):Int))) rfl rfl (zS (e := 75) rfl rfl rfl) (lw_tvn 1 rfl ?_)
       cases hb18 : (!(exB p (((p.getD a Fn.zero).outs).getD j Ex.zero) ((p.getD a Fn.zero).params) ((a :Nat):Int)))
       ·
        refine c_cond_f (by first | rfl | (show Value.bool _ = _; rw [hb18])) (wp_skip (wp_plain _ [0,0,0] rfl (lw_tv 1 rfl (q_add ((j + 1 :Nat):Int) rfl rfl (w64n oM sD) zN (lw_tvn 1 rfl ?_)))))
        exact ⟨((j + 1),(lftE (((p.getD a Fn.zero).outs).getD j Ex.zero) x)),_,rfl,⟨rfl,rfl,rfl,rfl,rfl,trivial⟩,⟨hE17,sD,(by rw [hnx,← hx]),oM,(by exact allR_succ hqe (bn_f (by assumption)))⟩,by first | omega | (dsimp only; omega)⟩
       ·
        exact c_cond_t (by first | rfl | (show Value.bool _ = _; rw [hb18])) (wp_seq (wp_plain _ [0] rfl (lw_tvn 1 rfl (wp_ret (b_ret (t_ret (t_ret (b_ret (t_ret (post_ret [4] rfl (.bool false) rfl ⟨z118_0,hE17⟩))))))))))
     ·
      exact q_lss false rfl rfl (decide_eq_false hc14) zN (lw_nil (c_cond_f rfl (wp_exit (t_exit (t_exit (c_exit_here (wp_seq (wp_plain _ [0] rfl (lw_tvn 1 rfl (wp_ret (post_ret [4] rfl (.bool true) rfl ⟨z118_0,hE13⟩)))))))))))
   ·
    exact c_cond_t (by first | rfl | (show Value.bool _ = _; rw [hb8])) (wp_seq (wp_plain _ [0] rfl (lw_tvn 1 rfl (wp_ret (t_ret (post_ret [4] rfl (.bool false) rfl ⟨z118_0,hE0⟩))))))
  ·
   exact lw_tvn 8 rfl (c_cond_t rfl (wp_seq (wp_plain _ [0] rfl (lw_tvn 1 rfl (wp_ret (t_ret (post_ret [4] rfl (.bool false) rfl ⟨z118_0,hE0⟩)))))))
 ·
  exact lw_tvn 16 rfl (c_cond_t rfl (wp_seq (wp_plain _ [0] rfl (lw_tvn 1 rfl (wp_ret (t_ret (post_ret [4] rfl (.bool false) rfl ⟨z118_0,hE0⟩)))))))
theorem z77_0 {p : Prop} (h : p := by first | exact ret_bool (ok_big oM) | exact ret_bool (ok_end oM oM oM hq) | exact ret_bool (ok_bad (k := k) oM (bn_t (by assumption)))) : p := h
theorem c_spec_l02Ok (w : World) (dp : Nat) (vp : Value) (p : List Fn) (hp : RN [] (rP (rPr dp)) w.heap vp p) (hz : SzP p) :
  Calls Try.prog 77 #[vp] w (fun e w' => e = .returned (.bool (okP p)) ∧ Ext w w') := by
 refine calls_mk [vp] 23 Try.func77 rfl rfl sM ?_
 have hE0 : Ext w w := Ext.refl w
 refine wp_seq (wp_plain _ [0] rfl (lw_tvn 1 rfl (wp_seq (wp_seq (wp_plain _ [0,0,0,2,0,0] rfl (lw_tv 1 rfl (q_nilP (hp.isPtr) rfl zN ?_)))))))
 obtain ⟨cs1,hr1,hl1⟩ := RN.at (good_rPr _) hp
 obtain ⟨ve1,rfl,hx1⟩ := RPr.of hr1
 have hln1 := hx1.lenle
 unfold maxLen at hln1
 refine q_fldL (p := vp) 0 fd52_0 rfl (hl1 _ (Chg.of_ext [] hE0)) zN (q_load (p := (padd vp 0)) (.inr rfl) ve1 one50 rfl ((hl1 _ (Chg.of_ext [] hE0)).ld (i := 0) (by simp [exC,fnC])) zN (q_len (v := ve1) u50 rfl hx1.isSl zN ?_))
 by_cases hc2 : ((16 :Nat):Int) < ((p.length :Nat):Int)
 ·
  exact q_gtr true rfl rfl (decide_eq_true hc2) zN (lw_nil (c_cond_t rfl (wp_seq (wp_plain _ [0] rfl (lw_tvn 1 rfl (wp_ret (t_ret (post_ret [2] rfl (.bool false) rfl ⟨z77_0,hE0⟩))))))))
 ·
  refine q_gtr false rfl rfl (decide_eq_false hc2) zN (lw_nil (c_cond_f rfl (wp_skip (wp_seq (wp_seq (wp_plain _ [0] rfl (lw_tvn 1 rfl (wp_block (c_loop (S := Nat) (fun (k : Nat) => ([(3,(.int .i64 ((k :Nat):Int))),(0,vp)] : List (Nat × Value))) (fun (k : Nat) (W : World) => Ext w W ∧ k ≤ p.length ∧ (List.range k).all (fnB p) = true) (fun (k : Nat) => p.length - k) 0 ⟨rfl,rfl,trivial⟩ ⟨hE0,sD,(by rfl)⟩ ?_)))))))))
  clear hE0 hln1
  rintro k ρ3 w3 ⟨hE3,hp3_0,hq⟩
  have hzs3 : w.heap.size ≤ w3.heap.size := hE3.size
  refine wp_seq (wp_seq (wp_plain _ [0,0,0,0,2,0,0] rfl (lw_tv 2 rfl (q_nilP (hp.isPtr) rfl zN (q_fldL (p := vp) 0 fd52_0 rfl (hl1 _ (Chg.of_ext [] hE3)) zN (q_load (p := (padd vp 0)) (.inr rfl) ve1 one50 rfl ((hl1 _ (Chg.of_ext [] hE3)).ld (i := 0) (by simp [exC,fnC])) zN (q_len (v := ve1) u50 rfl hx1.isSl zN ?_)))))))
  by_cases hc4 : ((k :Nat):Int) < ((p.length :Nat):Int)
  ·
   refine q_lss true rfl rfl (decide_eq_true hc4) zN (lw_nil (c_cond_t rfl (wp_skip (wp_seq (wp_block (wp_seq (wp_plain _ [0,0,3,0] rfl (lw_tv 2 rfl (lw_call 118 [] [] [vp,(.int .i64 ((k :Nat):Int))] rfl rfl cf118 zN (c_spec_l02Func _ dp vp (p) (k) (hp.ext (good_rP (good_rPr dp)) hE3) oM oM (by exact hz)) ?_)))))))))
   rintro e5 w5 ⟨rfl,hX5⟩
   refine ⟨_,rfl,hX5,?_⟩
   have hzs5:=hX5.size
   have hE5:=hE3.trans hX5
   refine q_not (!(fnB p k)) rfl rfl zN (lw_nil ?_)
   cases hb6 : (!(fnB p k))
   ·
    refine c_cond_f (by first | rfl | (show Value.bool _ = _; rw [hb6])) (wp_skip (wp_plain _ [0,0,0] rfl (lw_tv 1 rfl (q_add ((k + 1 :Nat):Int) rfl rfl (w64n oM sD) zN (lw_tvn 1 rfl ?_)))))
    exact ⟨(k + 1),_,rfl,⟨rfl,rfl,trivial⟩,⟨hE5,sD,(by exact allR_succ hq (bn_f (by assumption)))⟩,by first | omega | (dsimp only; omega)⟩
   ·
    exact c_cond_t (by first | rfl | (show Value.bool _ = _; rw [hb6])) (wp_seq (wp_plain _ [0] rfl (lw_tvn 1 rfl (wp_ret (b_ret (t_ret (t_ret (b_ret (t_ret (post_ret [2] rfl (.bool false) rfl ⟨z77_0,hE5⟩))))))))))
  ·
   exact q_lss false rfl rfl (decide_eq_false hc4) zN (lw_nil (c_cond_f rfl (wp_exit (t_exit (t_exit (c_exit_here (wp_seq (wp_plain _ [0] rfl (lw_tvn 1 rfl (wp_ret (post_ret [2] rfl (.bool true) rfl ⟨z77_0,hE3⟩)))))))))))
end Go.Proofs.Ytjnbnlniafmblaa
namespace Go.Proofs.Ytjnbnlniafmblaa
open Go Go.RowKit
set_option linter.unusedVariables false
set_option linter.unusedSimpArgs false
set_option maxHeartbeats 4000000
set_option maxRecDepth 100000
attribute [local irreducible] LW
theorem rn_1 {p : List Fn} {f : Int} (h : isF p f ≠ 0) : rnB p f = false := by
  unfold isF at h
  unfold rnB
  by_cases h1 : okP p = true
  · rw [if_pos h1] at h
    cases h2 : rnF p f with
    | false => rw [Bool.and_false]
    | true => rw [if_pos (rnF_iff.1 h2).1] at h; exact absurd rfl h
  · rw [show okP p = false from by simpa using h1]; rfl
theorem rn_2 {p : List Fn} {f : Int} (h : isF p f = 0) {b : Bool} (hb : b = (decide (1 ≤ (p.getD f.toNat Fn.zero).params) && decide ((((p.getD f.toNat Fn.zero).outs.length : Nat) : Int) = (p.getD f.toNat Fn.zero).params))) : rnB p f = b := by
  obtain ⟨h1, h2⟩ := isF_0 h
  unfold rnB rnF
  rw [h1, show inB f 0 (((p.length : Nat) : Int) - 1) = true from inB_iff.2 ⟨h2.1, by omega⟩, hb, Bool.true_and, Bool.true_and]
theorem z121_0 {p : Prop} (h : p := by first | exact ret_bool (rn_1 oM).symm | exact ret_bool (rn_2 oM (by rw [decide_eq_true (show 1 ≤ (p.getD f.toNat Fn.zero).params by omega), Bool.true_and])).symm | exact ret_bool (rn_2 oM (by rw [decide_eq_false (show ¬ 1 ≤ (p.getD f.toNat Fn.zero).params by omega), Bool.false_and])).symm) : p := h
theorem c_impl_ValidRound (w : World) (dp : Nat) (vp : Value) (p : List Fn) (f : Int) (hp : RP [] dp w.heap vp p) (_hf : -9223372036854775808 ≤ f ∧ f ≤ 9223372036854775807) (hz : SzP p) :
  Calls Try.prog 121 #[(.agg #[vp]),.int .i64 f] w (fun e w' => e = .returned (.bool (rnB p f)) ∧ Ext w w') := by
 refine calls_mk [(.agg #[vp]),.int .i64 f] 34 Try.func121 rfl rfl sM ?_
 have hE0 : Ext w w := Ext.refl w
 have hl_vp := hp.lenle
 unfold maxLen at hl_vp
 refine wp_seq (wp_plain _ [3,0] rfl (r_boxA (cs := #[vp]) rfl zN fun w1 hX1 hz1 hB1 => ?_))
 have hzs1:=hX1.size
 have hE1:=hE0.trans hX1
 replace hB1 : BX w1.heap w.heap.size [vp] := hB1
 refine lw_tvn 1 rfl (wp_seq (wp_draw _ [1,0,3,0,0,0,2,0,0,0,2,0,0,0,0,2,0,0,0,2,0,0,2,0,0,0,2,0,0,0] mixed (by kernel_rfl) (q_loadA (p := (.pointer (some ⟨w.heap.size,0,none⟩))) (.inl rfl) [vp] agg52 rfl (fun wq9 hw9 => LD.of_box (BX.ext (w := w1.drew) hB1 hw9)) rfl zN (lw_tv 1 rfl (lw_call 145 [] [] [(.agg #[vp]),(.int .i64 f)] rfl rfl cf145 zN (c_impl_isFunc _ dp vp (p) _ (hp.ext (good_rdS (good_rFn dp)) hE1.drew) _hf (by exact hz)) ?_)))))
 rintro e2 w2 ⟨rfl,hX2⟩
 refine ⟨_,rfl,hX2,?_⟩
 replace hX2 := hX2.of_drew
 have hzs2:=hX2.size
 have hE2:=hE1.trans hX2
 have hB1x2 := hB1.ext hX2
 by_cases hc3 : isF p f = ((0 :Nat):Int)
 ·
  refine q_eql true rfl rfl (decide_eq_true hc3) zN (lw_tv 1 rfl ?_)
  have hi0 := isF_0 (p := p) (f := f) oM
  refine q_fldP (p := (.pointer (some ⟨w.heap.size,0,none⟩))) (b := w.heap.size) (o := 0) 0 fd52_0 rfl rfl (zS (e := 9) rfl rfl rfl) (q_load (p := (padd (.pointer (some ⟨w.heap.size,0,none⟩)) 0)) (.inr rfl) vp one50 rfl (hB1x2.ldp (i := 0) sM) (zS (e := 9) rfl rfl rfl) (lw_tv 1 rfl (q_idx (v := vp) ((f).toNat) u50 tiS49 rfl rfl hp.isSl oM sD (zS (e := 9) rfl rfl rfl) ?_)))
  obtain ⟨cs4,hr4,hl4⟩ := hp.get (good_rFn dp) Fn.zero (k := ((f).toNat)) sD
  obtain ⟨ve4,rfl,hx4⟩ := RF.of hr4
  have hln4 := hx4.rn.lenle
  unfold maxLen at hln4
  refine q_fldL (p := eptr vp ((f).toNat) 3) 1 fd49_1 rfl (hl4 _ (Chg.of_ext [] hE2)) (zS (e := 9) rfl rfl rfl) (q_load (p := (padd (eptr vp ((f).toNat) 3) 1)) (.inr rfl) (.int .i64 ((p.getD ((f).toNat) Fn.zero).params)) one2 rfl ((hl4 _ (Chg.of_ext [] hE2)).ld (i := 1) (by simp [exC,fnC])) (zS (e := 9) rfl rfl rfl) ?_)
  by_cases hc5 : ((1 :Nat):Int) ≤ (p.getD ((f).toNat) Fn.zero).params
  ·
   refine q_geq true rfl rfl (decide_eq_true hc5) (zS (e := 9) rfl rfl rfl) (lw_tv 2 rfl (q_fldP (p := (.pointer (some ⟨w.heap.size,0,none⟩))) (b := w.heap.size) (o := 0) 0 fd52_0 rfl rfl (zS (e := 18) rfl rfl rfl) (q_load (p := (padd (.pointer (some ⟨w.heap.size,0,none⟩)) 0)) (.inr rfl) vp one50 rfl (hB1x2.ldp (i := 0) sM) (zS (e := 18) rfl rfl rfl) (lw_tv 1 rfl ?_))))
   refine q_idx (v := vp) ((f).toNat) u50 tiS49 rfl rfl hp.isSl oM sD (zS (e := 18) rfl rfl rfl) (q_fldL (p := eptr vp ((f).toNat) 3) 2 fd49_2 rfl (hl4 _ (Chg.of_ext [] hE2)) (zS (e := 18) rfl rfl rfl) (q_load (p := (padd (eptr vp ((f).toNat) 3) 2)) (.inr rfl) ve4 one44 rfl ((hl4 _ (Chg.of_ext [] hE2)).ld (i := 2) (by simp [exC,fnC])) (zS (e := 18) rfl rfl rfl) (q_len (v := ve4) u44 rfl hx4.rn.isSl (zS (e := 18) rfl rfl rfl) ?_)))
   refine q_fldP (p := (.pointer (some ⟨w.heap.size,0,none⟩))) (b := w.heap.size) (o := 0) 0 fd52_0 rfl rfl (zS (e := 18) rfl rfl rfl) (q_load (p := (padd (.pointer (some ⟨w.heap.size,0,none⟩)) 0)) (.inr rfl) vp one50 rfl (hB1x2.ldp (i := 0) sM) (zS (e := 18) rfl rfl rfl) (lw_tv 1 rfl (q_idx (v := vp) ((f).toNat) u50 tiS49 rfl rfl hp.isSl oM sD (zS (e := 18) rfl rfl rfl) ?_)))
   refine q_fldL (p := eptr vp ((f).toNat) 3) 1 fd49_1 rfl (hl4 _ (Chg.of_ext [] hE2)) (zS (e := 18) rfl rfl rfl) (q_load (p := (padd (eptr vp ((f).toNat) 3) 1)) (.inr rfl) (.int .i64 ((p.getD ((f).toNat) Fn.zero).params)) one2 rfl ((hl4 _ (Chg.of_ext [] hE2)).ld (i := 1) (by simp [exC,fnC])) (zS (e := 18) rfl rfl rfl) (q_eql (decide (((((p.getD ((f).toNat) Fn.zero).outs).length :Nat):Int) = (p.getD ((f).toNat) Fn.zero).params)) rfl rfl rfl (zS (e := 18) rfl rfl rfl) (lw_tvn 2 rfl (wp_ret ?_))))
   exact post_ret [4] rfl (.bool (decide (((((p.getD ((f).toNat) Fn.zero).outs).length :Nat):Int) = (p.getD ((f).toNat) Fn.zero).params))) rfl ⟨z121_0,hE2⟩
  ·
   exact q_geq false rfl rfl (decide_eq_false hc5) (zS (e := 9) rfl rfl rfl) (lw_tvn 18 rfl (wp_ret (post_ret [4] rfl (.bool false) rfl ⟨z121_0,hE2⟩)))
 ·
  exact q_eql false rfl rfl (decide_eq_false hc3) zN (lw_tvn 26 rfl (wp_ret (post_ret [4] rfl (.bool false) rfl ⟨z121_0,hE2⟩)))
theorem ch_1 {p : List Fn} {f : Int} {l : List Sr} (h : okP p = false) : 1 = chC p f l := by unfold chC; rw [h]; rfl
theorem ch_2 {p : List Fn} {f : Int} {l : List Sr} (h : okP p = true) (h2 : rnB p f = false) : 2 = chC p f l := by
  unfold rnB at h2; rw [h, Bool.true_and] at h2
  unfold chC; rw [if_pos h, h2]; rfl
theorem ch_l {p : List Fn} {f : Int} {l : List Sr} {k : Nat} (h : rnB p f = true) (hk : k < l.length) (hb : (decide ((((l.getD k []).length : Nat) : Int) = (p.getD f.toNat Fn.zero).params) && allN (l.getD k [])) = false) : 2 = chC p f l := by
  unfold rnB at h; rw [Bool.and_eq_true] at h
  unfold chC; rw [if_pos h.1, if_pos h.2, all_fail (f := (fun s => decide (((s.length : Nat) : Int) = (p.getD f.toNat Fn.zero).params) && allN s)) [] hk hb]; rfl
theorem ch_0 {p : List Fn} {f : Int} {l : List Sr} {k : Nat} (h : rnB p f = true) (hl : (l.take k).all (fun s => decide (((s.length : Nat) : Int) = (p.getD f.toNat Fn.zero).params) && allN s) = true) (hk : l.length ≤ k) : 0 = chC p f l := by
  unfold rnB at h; rw [Bool.and_eq_true] at h
  unfold chC; rw [if_pos h.1, if_pos h.2, all_done hl hk]; rfl
theorem z82_0 {p : Prop} (h : p := by first | exact ret_int (ch_1 (bn_t (by assumption))) | exact ret_int (ch_2 (bn_f (by assumption)) (bn_t (by assumption))) | exact ret_int (ch_l (k := k) hrn oM (bn_t (by assumption))) | exact ret_int (ch_0 hrn hq oM)) : p := h
theorem c_impl_isChained (w : World) (dp : Nat) (vp : Value) (p : List Fn) (f : Int) (vl : Value) (l : List (List Int)) (hp : RP [] dp w.heap vp p) (_hf : -9223372036854775808 ≤ f ∧ f ≤ 9223372036854775807) (hl : RN [] (rdL (rdL rI)) w.heap vl l) (hql : CapS vl) (hz : SzP p) :
  Calls Try.prog 82 #[(.agg #[vp]),.int .i64 f,vl] w (fun e w' => e = .returned (.int .i64 (chC p f l)) ∧ Ext w w') := by
 refine calls_mk [(.agg #[vp]),.int .i64 f,vl] 34 Try.func82 rfl rfl sM ?_
 have hE0 : Ext w w := Ext.refl w
 have hl_vp := hp.lenle
 unfold maxLen at hl_vp
 have hl_vl := hl.lenL
 unfold maxLen at hl_vl
 refine wp_seq (wp_plain _ [3,0] rfl (r_boxA (cs := #[vp]) rfl zN fun w1 hX1 hz1 hB1 => ?_))
 have hzs1:=hX1.size
 have hE1:=hE0.trans hX1
 replace hB1 : BX w1.heap w.heap.size [vp] := hB1
 refine lw_tvn 1 rfl (wp_seq (wp_block (wp_seq (wp_plain _ [2,3,0,0] rfl (q_loadA (p := (.pointer (some ⟨w.heap.size,0,none⟩))) (.inr rfl) [vp] agg52 rfl (fun wq9 hw9 => LD.of_box (BX.ext (w := w1) hB1 hw9)) rfl zN (lw_call 88 [] [] [(.agg #[vp])] rfl rfl cf88 zN (c_impl_ValidProgram _ dp vp (p) (hp.ext (good_rdS (good_rFn dp)) hE1) (by exact hz)) ?_))))))
 rintro e2 w2 ⟨rfl,hX2⟩
 refine ⟨_,rfl,hX2,?_⟩
 have hzs2:=hX2.size
 have hE2:=hE1.trans hX2
 have hB1x2 := hB1.ext hX2
 refine q_not (!(okP p)) rfl rfl zN (lw_tvn 1 rfl ?_)
 cases hb3 : (!(okP p))
 ·
  refine c_cond_f (by first | rfl | (show Value.bool _ = _; rw [hb3])) (wp_seq (wp_plain _ [2,0,3,0,0] rfl (q_loadA (p := (.pointer (some ⟨w.heap.size,0,none⟩))) (.inr rfl) [vp] agg52 rfl (fun wq9 hw9 => LD.of_box (BX.ext (w := w2) hB1x2 hw9)) rfl zN (lw_tv 1 rfl (lw_call 121 [] [] [(.agg #[vp]),(.int .i64 f)] rfl rfl cf121 zN (c_impl_ValidRound _ dp vp (p) _ (hp.ext (good_rdS (good_rFn dp)) hE2) _hf (by exact hz)) ?_)))))
  rintro e4 w4 ⟨rfl,hX4⟩
  refine ⟨_,rfl,hX4,?_⟩
  have hzs4:=hX4.size
  have hE4:=hE2.trans hX4
  have hB1x4 := hB1x2.ext hX4
  refine q_not (!(rnB p f)) rfl rfl zN (lw_tvn 1 rfl ?_)
  cases hb5 : (!(rnB p f))
  ·
   refine c_cond_f (by first | rfl | (show Value.bool _ = _; rw [hb5])) (wp_skip (wp_seq (wp_seq (wp_plain _ [0,0,0] rfl ?_))))
   have hrn : rnB p f = true := bn_f (by assumption)
   have hrf := rnF_iff.1 (Bool.and_eq_true .. ▸ hrn : okP p = true ∧ rnF p f = true).2
   refine lw_tv 1 rfl (q_len (v := vl) u40 rfl hl.slL zN (lw_tvn 1 rfl (wp_block ?_)))
   refine c_loop (S := Nat) (fun (k : Nat) => ([(20,(.int .i64 ((k :Nat):Int))),(1,(.int .i64 f)),(3,(.pointer (some ⟨w.heap.size,0,none⟩))),(18,vl),(19,(.int .i64 ((l.length :Nat):Int)))] : List (Nat × Value))) (fun (k : Nat) (W : World) => Ext w W ∧ BX W.heap w.heap.size [vp] ∧ k ≤ l.length ∧ (l.take k).all (fun s => decide (((s.length :Nat):Int) = (p.getD f.toNat Fn.zero).params) && allN s) = true) (fun (k : Nat) => l.length - k) 0 ⟨rfl,rfl,rfl,rfl,rfl,trivial⟩ ⟨hE4,hB1x4,sD,(by exact rfl)⟩ ?_
   clear hE0 hz1 hX1 hzs1 hE1 hX2 hzs2 hE2 hX4 hzs4 hE4
   rintro k ρ6 w6 ⟨hE6,hL6_0,hp6_0,hq⟩
   have hzs6 : w.heap.size ≤ w6.heap.size := hE6.size
   have hq7 := hL6_0.lt
   refine wp_seq (wp_plain _ [0] rfl ?_)
   by_cases hc8 : ((k :Nat):Int) < ((l.length :Nat):Int)
   ·
    refine q_lss true rfl rfl (decide_eq_true hc8) zN (lw_nil (wp_seq (c_cond_t rfl (wp_skip (wp_seq (wp_block (wp_seq (wp_plain _ [0,2,0] rfl (q_idx (v := vl) k u40 ti25 rfl rfl hl.slL rfl sD zN ?_)))))))))
    obtain ⟨ue9,hl9,hr9⟩ := RN.getL (w := w) g1 [] (k := k) hl sD
    have hln9 := hr9.lenL
    unfold maxLen at hln9
    refine q_load (p := eptr vl k 1) (.inr rfl) ue9 one25 rfl (hl9 _ (Chg.of_ext [] hE6)) zN (lw_tvn 1 rfl (wp_seq (wp_plain _ [0,0,2,0,0,0,2,3,0] rfl (lw_tv 1 rfl (q_fldP (p := (.pointer (some ⟨w.heap.size,0,none⟩))) (b := w.heap.size) (o := 0) 0 fd52_0 rfl rfl zN (q_load (p := (padd (.pointer (some ⟨w.heap.size,0,none⟩)) 0)) (.inr rfl) vp one50 rfl (hL6_0.ldp (i := 0) sM) zN (lw_tv 1 rfl ?_)))))))
    refine q_idx (v := vp) ((f).toNat) u50 tiS49 rfl rfl hp.isSl oM sD zN ?_
    obtain ⟨cs10,hr10,hl10⟩ := hp.get (good_rFn dp) Fn.zero (k := ((f).toNat)) sD
    obtain ⟨ve10,rfl,hx10⟩ := RF.of hr10
    have hln10 := hx10.rn.lenle
    unfold maxLen at hln10
    refine q_fldL (p := eptr vp ((f).toNat) 3) 1 fd49_1 rfl (hl10 _ (Chg.of_ext [] hE6)) zN (q_load (p := (padd (eptr vp ((f).toNat) 3) 1)) (.inr rfl) (.int .i64 ((p.getD ((f).toNat) Fn.zero).params)) one2 rfl ((hl10 _ (Chg.of_ext [] hE6)).ld (i := 1) (by simp [exC,fnC])) zN (lw_call 65 [] [] [ue9,(.int .i64 ((p.getD ((f).toNat) Fn.zero).params))] rfl rfl cf65 zN (c_impl_areNumbers _ _ _ _ ((hr9.ext g1 hE6)).rd hx10.rng) ?_))
    rintro e11 w11 ⟨rfl,hX11⟩
    refine ⟨_,rfl,hX11,?_⟩
    have hzs11:=hX11.size
    have hE11:=hE6.trans hX11
    have hL6_0x11 := hL6_0.ext hX11
    refine q_not (!(decide ((((l.getD k []).length :Nat):Int) = ((p.getD ((f).toNat) Fn.zero).params)) && allN (l.getD k []))) rfl rfl zN (lw_nil ?_)
    cases hb12 : (!(decide ((((l.getD k []).length :Nat):Int) = ((p.getD ((f).toNat) Fn.zero).params)) && allN (l.getD k [])))
    ·
     refine c_cond_f (by first | rfl | (show Value.bool _ = _; rw [hb12])) (wp_skip (wp_plain _ [0,0] rfl (q_add ((k + 1 :Nat):Int) rfl rfl (w64n oM sD) zN (lw_tvn 1 rfl ?_))))
     exact ⟨(k + 1),_,rfl,⟨rfl,rfl,rfl,rfl,rfl,trivial⟩,⟨hE11,hL6_0x11,sD,(by exact all_succ (f := (fun s => decide (((s.length :Nat):Int) = (p.getD f.toNat Fn.zero).params) && allN s)) [] hq oM (bn_f (by assumption)))⟩,by first | omega | (dsimp only; omega)⟩
    ·
     exact c_cond_t (by first | rfl | (show Value.bool _ = _; rw [hb12])) (wp_seq (wp_plain _ [0] rfl (lw_tvn 1 rfl (wp_ret (b_ret (t_ret (t_ret (b_ret (t_ret (post_ret [6] rfl (.int .i64 ((2 :Nat):Int)) rfl ⟨z82_0,hE11⟩))))))))))
   ·
    exact q_lss false rfl rfl (decide_eq_false hc8) zN (lw_nil (wp_seq (c_cond_f rfl (wp_exit (t_exit (t_exit (c_exit_here (wp_seq (wp_plain _ [0] rfl (lw_tvn 1 rfl (wp_ret (post_ret [6] rfl (.int .i64 ((0 :Nat):Int)) rfl ⟨z82_0,hE6⟩))))))))))))
  ·
   exact c_cond_t (by first | rfl | (show Value.bool _ = _; rw [hb5])) (wp_seq (wp_plain _ [0] rfl (lw_tvn 1 rfl (wp_ret (b_ret (t_ret (post_ret [6] rfl (.int .i64 ((2 :Nat):Int)) rfl ⟨z82_0,hE4⟩)))))))
 ·
  exact c_cond_t (by first | rfl | (show Value.bool _ = _; rw [hb3])) (wp_seq (wp_plain _ [0] rfl (lw_tvn 1 rfl (wp_ret (b_ret (t_ret (post_ret [6] rfl (.int .i64 ((1 :Nat):Int)) rfl ⟨z82_0,hE2⟩)))))))
end Go.Proofs.Ytjnbnlniafmblaa
namespace Go.Proofs.Ytjnbnlniafmblaa
open Go Go.RowKit
set_option linter.unusedVariables false
set_option linter.unusedSimpArgs false
set_option maxHeartbeats 4000000
set_option maxRecDepth 100000
attribute [local irreducible] LW
theorem rf_1 {p : List Fn} {f : Int} (h : (decide (((0 : Nat) : Int) ≤ f) && decide (f ≤ ((p.length : Nat) : Int) - 1)) = false) : rnF p f = false := by
  have h' : inB f 0 (((p.length : Nat) : Int) - 1) = false := h
  unfold rnF; rw [h', Bool.false_and]
theorem rf_2 {p : List Fn} {f : Int} (h : (decide (((0 : Nat) : Int) ≤ f) && decide (f ≤ ((p.length : Nat) : Int) - 1)) = true) {b : Bool} (hb : b = (decide (1 ≤ (p.getD f.toNat Fn.zero).params) && decide ((((p.getD f.toNat Fn.zero).outs.length : Nat) : Int) = (p.getD f.toNat Fn.zero).params))) : rnF p f = b := by
  have h' : inB f 0 (((p.length : Nat) : Int) - 1) = true := h
  unfold rnF; rw [h', hb, Bool.true_and]
theorem z78_0 {p : Prop} (h : p := by first | exact ret_bool (rf_1 (bn_t (by assumption))).symm | exact ret_bool (rf_2 (bn_f (by assumption)) (by rw [decide_eq_true (show 1 ≤ (p.getD f.toNat Fn.zero).params by omega), Bool.true_and])).symm | exact ret_bool (rf_2 (bn_f (by assumption)) (by rw [decide_eq_false (show ¬ 1 ≤ (p.getD f.toNat Fn.zero).params by omega), Bool.false_and])).symm) : p := h
theorem z78_1 {p : Prop} (h : p := by simp [exC, fnC]) : p := h
theorem c_spec_l06Round (w : World) (dp : Nat) (vp : Value) (p : List Fn) (f : Int) (hp : RN [] (rP (rPr dp)) w.heap vp p) (_hf : -9223372036854775808 ≤ f ∧ f ≤ 9223372036854775807) (hz : SzP p) :
  Calls Try.prog 78 #[vp,.int .i64 f] w (fun e w' => e = .returned (.bool (rnF p f)) ∧ Ext w w') := by
 refine calls_mk [vp,.int .i64 f] 43 Try.func78 rfl rfl sM ?_
 have hE0 : Ext w w := Ext.refl w
 refine wp_seq (wp_plain _ [0] rfl (lw_tvn 1 rfl (wp_seq (wp_seq (wp_plain _ [0,0,0,0,2,0,0,0,0] rfl (lw_tv 2 rfl (q_nilP (hp.isPtr) rfl zN ?_)))))))
 obtain ⟨cs1,hr1,hl1⟩ := RN.at (good_rPr _) hp
 obtain ⟨ve1,rfl,hx1⟩ := RPr.of hr1
 have hln1 := hx1.lenle
 unfold maxLen at hln1
 refine q_fldL (p := vp) 0 fd52_0 rfl (hl1 _ (Chg.of_ext [] hE0)) zN (q_load (p := (padd vp 0)) (.inr rfl) ve1 one50 rfl ((hl1 _ (Chg.of_ext [] hE0)).ld (i := 0) z78_1) zN (q_len (v := ve1) u50 rfl hx1.isSl zN (q_sub (((p.length :Nat):Int) - 1) rfl rfl (w64 oM oM) zN (lw_callq 79 [] [] [(.int .i64 f),(.int .i64 ((0 :Nat):Int)),(.int .i64 (((p.length :Nat):Int) - 1))] rfl rfl cf79 zN (.bool (decide (((0 :Nat):Int) ≤ f) && decide (f ≤ (((p.length :Nat):Int) - 1)))) (fun wq => c_spec_l00In wq _ _ _ _hf oM oM) (q_not (!(decide (((0 :Nat):Int) ≤ f) && decide (f ≤ (((p.length :Nat):Int) - 1)))) rfl rfl zN (lw_nil ?_))))))
 cases hb3 : (!(decide (((0 :Nat):Int) ≤ f) && decide (f ≤ (((p.length :Nat):Int) - 1))))
 ·
  refine c_cond_f (by first | rfl | (show Value.bool _ = _; rw [hb3])) (wp_skip (wp_seq (wp_draw _ [0,0,0,1,0,0,0,1,0,0,0,0,0,1,0,0,0,1,0,0,0,0,1,0,0,0,1,0,0,0] mixed (by kernel_rfl) ?_)))
  have hi0 := inB_e (bn_f (by assumption) : (decide (((0 :Nat):Int) ≤ f) && decide (f ≤ ((p.length :Nat):Int) - 1)) = true)
  refine lw_tv 1 rfl (q_nilP (hp.isPtr) rfl zN (q_fldL (p := vp) 0 fd52_0 rfl (hl1 _ (Chg.of_ext [] hE0.drew)) zN (q_load (p := (padd vp 0)) (.inl rfl) ve1 one50 rfl ((hl1 _ (Chg.of_ext [] hE0.drew)).ld (i := 0) z78_1) zN (lw_tv 1 rfl (q_idx (v := ve1) ((f).toNat) u50 tiS49 rfl rfl hx1.isSl oM sD zN ?_)))))
  obtain ⟨cs4,hr4,hl4⟩ := hx1.get (good_rFn dp) Fn.zero (k := ((f).toNat)) sD
  obtain ⟨ve4,rfl,hx4⟩ := RF.of hr4
  have hln4 := hx4.rn.lenle
  unfold maxLen at hln4
  refine q_fldL (p := eptr ve1 ((f).toNat) 3) 1 fd49_1 rfl (hl4 _ (Chg.of_ext [] hE0.drew)) zN (q_load (p := (padd (eptr ve1 ((f).toNat) 3) 1)) (.inl rfl) (.int .i64 ((p.getD ((f).toNat) Fn.zero).params)) one2 rfl ((hl4 _ (Chg.of_ext [] hE0.drew)).ld (i := 1) z78_1) zN ?_)
  by_cases hc5 : ((1 :Nat):Int) ≤ (p.getD ((f).toNat) Fn.zero).params
  ·
   refine q_geq true rfl rfl (decide_eq_true hc5) zN (lw_tv 2 rfl (q_nilP (hp.isPtr) rfl (zS (e := 23) rfl rfl rfl) (q_fldL (p := vp) 0 fd52_0 rfl (hl1 _ (Chg.of_ext [] hE0.drew)) (zS (e := 23) rfl rfl rfl) (q_load (p := (padd vp 0)) (.inl rfl) ve1 one50 rfl ((hl1 _ (Chg.of_ext [] hE0.drew)).ld (i := 0) z78_1) (zS (e := 23) rfl rfl rfl) (lw_tv 1 rfl ?_)))))
   refine q_idx (v := ve1) ((f).toNat) u50 tiS49 rfl rfl hx1.isSl oM sD (zS (e := 23) rfl rfl rfl) (q_fldL (p := eptr ve1 ((f).toNat) 3) 2 fd49_2 rfl (hl4 _ (Chg.of_ext [] hE0.drew)) (zS (e := 23) rfl rfl rfl) (q_load (p := (padd (eptr ve1 ((f).toNat) 3) 2)) (.inl rfl) ve4 one44 rfl ((hl4 _ (Chg.of_ext [] hE0.drew)).ld (i := 2) z78_1) (zS (e := 23) rfl rfl rfl) (q_len (v := ve4) u44 rfl hx4.rn.isSl (zS (e := 23) rfl rfl rfl) (lw_tv 1 rfl ?_))))
   refine q_nilP (hp.isPtr) rfl (zS (e := 23) rfl rfl rfl) (q_fldL (p := vp) 0 fd52_0 rfl (hl1 _ (Chg.of_ext [] hE0.drew)) (zS (e := 23) rfl rfl rfl) (q_load (p := (padd vp 0)) (.inl rfl) ve1 one50 rfl ((hl1 _ (Chg.of_ext [] hE0.drew)).ld (i := 0) z78_1) (zS (e := 23) rfl rfl rfl) (lw_tv 1 rfl (q_idx (v := ve1) ((f).toNat) u50 tiS49 rfl rfl hx1.isSl oM sD (zS (e := 23) rfl rfl rfl) ?_))))
   refine q_fldL (p := eptr ve1 ((f).toNat) 3) 1 fd49_1 rfl (hl4 _ (Chg.of_ext [] hE0.drew)) (zS (e := 23) rfl rfl rfl) (q_load (p := (padd (eptr ve1 ((f).toNat) 3) 1)) (.inl rfl) (.int .i64 ((p.getD ((f).toNat) Fn.zero).params)) one2 rfl ((hl4 _ (Chg.of_ext [] hE0.drew)).ld (i := 1) z78_1) (zS (e := 23) rfl rfl rfl) (q_eql (decide (((((p.getD ((f).toNat) Fn.zero).outs).length :Nat):Int) = (p.getD ((f).toNat) Fn.zero).params)) rfl rfl rfl (zS (e := 23) rfl rfl rfl) (lw_tvn 2 rfl (wp_ret ?_))))
   exact post_ret [4] rfl (.bool (decide (((((p.getD ((f).toNat) Fn.zero).outs).length :Nat):Int) = (p.getD ((f).toNat) Fn.zero).params))) rfl ⟨z78_0,hE0.drew⟩
  ·
   exact q_geq false rfl rfl (decide_eq_false hc5) zN (lw_tvn 21 rfl (wp_ret (post_ret [4] rfl (.bool false) rfl ⟨z78_0,hE0.drew⟩)))
 ·
  exact c_cond_t (by first | rfl | (show Value.bool _ = _; rw [hb3])) (wp_seq (wp_plain _ [0] rfl (lw_tvn 1 rfl (wp_ret (t_ret (post_ret [4] rfl (.bool false) rfl ⟨z78_0,hE0⟩))))))
end Go.Proofs.Ytjnbnlniafmblaa
namespace Go.Proofs.Ytjnbnlniafmblaa
open Go Go.RowKit
set_option linter.unusedVariables false
set_option linter.unusedSimpArgs false
set_option maxHeartbeats 4000000
set_option maxRecDepth 100000
attribute [local irreducible] LW
theorem c_spec_l02Own (w : World) (dex : Nat) (ve : Value) (ex : Ex) (hex : RN [] (rP (rEx dex)) w.heap ve ex) (hs : ex.size ≤ 2000000) :
    Calls Try.prog 119 #[ve] w (fun e w' => ∃ v, e = .returned (.agg #[.int .i64 ex.kind, .int .i64 ex.num, .int .i64 ex.pick, .int .i64 ex.count, v]) ∧ Ext w w' ∧ Fr (owS 5 (oEx 46 (dex - 1)) 46) w.heap.size w'.heap.size w'.heap v ex.kids ∧ exR ex ∧ 1 ≤ dex) := by
  induction dex using Nat.strongRecOn generalizing w ve ex
  rename_i dex ih
  refine calls_mk [ve] 44 Try.func119 rfl rfl sM ?_
  have hE0 : Ext w w := Ext.refl w
  have hsk := size_kids ex
  have hsg := sizes_ge ex.kids 0
  refine wp_seq (wp_plain _ [3] rfl (r_allocA (z := .agg #[.int .i64 0, .int .i64 0, .int .i64 0, .int .i64 0, .slice none 0 0]) zr46 zN fun w1 hX1 hz1 hB1 => ?_))
  have hzs1 : w.heap.size ≤ w1.heap.size := hX1.size
  have hE1 : Ext w w1 := hE0.trans hX1
  replace hB1 : BX w1.heap w.heap.size [(.int .i64 0), (.int .i64 0), (.int .i64 0), (.int .i64 0), (.slice none 0 0)] := hB1
  refine lw_nil (wp_seq (wp_draw _ [0, 0, 0, 1, 0, 0, 0, 1, 0, 0, 0, 1, 0, 0, 0, 1, 0, 3, 4] mixed (by kernel_rfl) (lw_tv 1 rfl (q_nilP (hex.isPtr) rfl zN ?_))))
  obtain ⟨cs2, hr2, hl2⟩ := RN.at (good_rEx _) hex
  obtain ⟨dd2, ve2, hd2, rfl, hx2⟩ := RX.of hr2
  have hln2 := hx2.rn.lenle
  unfold maxLen at hln2
  refine q_fldL (p := ve) 0 fd46_0 rfl (hl2 _ (Chg.of_ext [] hE1.drew)) zN (q_load (p := (padd ve 0)) (.inl rfl) (.int .i64 ex.kind) one2 rfl ((hl2 _ (Chg.of_ext [] hE1.drew)).ld (i := 0) (by simp [exC, fnC])) zN (lw_tv 1 rfl (q_nilP (hex.isPtr) rfl zN (q_fldL (p := ve) 1 fd46_1 rfl (hl2 _ (Chg.of_ext [] hE1.drew)) zN (q_load (p := (padd ve 1)) (.inl rfl) (.int .i64 ex.num) one2 rfl ((hl2 _ (Chg.of_ext [] hE1.drew)).ld (i := 1) (by simp [exC, fnC])) zN (lw_tv 1 rfl (q_nilP (hex.isPtr) rfl zN (q_fldL (p := ve) 2 fd46_2 rfl (hl2 _ (Chg.of_ext [] hE1.drew)) zN (q_load (p := (padd ve 2)) (.inl rfl) (.int .i64 ex.pick) one2 rfl ((hl2 _ (Chg.of_ext [] hE1.drew)).ld (i := 2) (by simp [exC, fnC])) zN (lw_tv 1 rfl (q_nilP (hex.isPtr) rfl zN ?_)))))))))))
  refine q_fldL (p := ve) 3 fd46_3 rfl (hl2 _ (Chg.of_ext [] hE1.drew)) zN (q_load (p := (padd ve 3)) (.inl rfl) (.int .i64 ex.count) one2 rfl ((hl2 _ (Chg.of_ext [] hE1.drew)).ld (i := 3) (by simp [exC, fnC])) zN ?_)
  have hbd3 : ∀ (wq : World), (Instr.build 46 #[(0, (.int .i64 ex.kind)), (1, (.int .i64 ex.num)), (2, (.int .i64 ex.pick)), (3, (.int .i64 ex.count))]).run Try.prog wq = .ok (.agg #[(.int .i64 ex.kind), (.int .i64 ex.num), (.int .i64 ex.pick), (.int .i64 ex.count), (.slice none 0 0)]) wq := by intro wq; kernel_rfl
  refine q_build (ps := #[(0, (.int .i64 ex.kind)), (1, (.int .i64 ex.num)), (2, (.int .i64 ex.pick)), (3, (.int .i64 ex.count))]) (.agg #[(.int .i64 ex.kind), (.int .i64 ex.num), (.int .i64 ex.pick), (.int .i64 ex.count), (.slice none 0 0)]) (by simp only [List.map_toArray, List.map_cons, List.map_nil]; rfl) (fun wq => hbd3  wq) zN ?_
  have hq5 := hB1.lt
  have hdr4 : w1.drew.heap.size = w1.heap.size := rfl
  refine r_allocA (z := .agg #[.int .i64 0, .int .i64 0, .int .i64 0, .int .i64 0, .slice none 0 0]) zr46 zN fun w4 hX4 hz4 hB4 => ?_
  replace hX4 := hX4.of_drew
  have hzs4 : w1.heap.size ≤ w4.heap.size := hX4.size
  have hE4 : Ext w w4 := hE1.trans hX4
  have hB1x4 := hB1.ext hX4
  replace hB4 : BX w4.heap w1.drew.heap.size [(.int .i64 0), (.int .i64 0), (.int .i64 0), (.int .i64 0), (.slice none 0 0)] := hB4
  refine e_setA (vs := [(.int .i64 ex.kind), (.int .i64 ex.num), (.int .i64 ex.pick), (.int .i64 ex.count), (.slice none 0 0)]) agg46 rfl rfl (by intro u hu; simp only [List.mem_cons, List.not_mem_nil, or_false] at hu; rcases hu with rfl | rfl | rfl | rfl | rfl <;> first | exact ⟨rfl, rfl⟩) hB4 rfl rfl zN fun w6 hC6 hz6 hB6 => ?_
  replace hB6 : BX w6.heap w1.drew.heap.size [(.int .i64 ex.kind), (.int .i64 ex.num), (.int .i64 ex.pick), (.int .i64 ex.count), (.slice none 0 0)] := hB6
  have hzs6 : w4.heap.size ≤ w6.heap.size := hC6.size
  have hE6 : Ext w w6 := hC6.below hE4 (fun c hc => by have := List.mem_singleton.1 hc; omega) hE4.size
  have hF7 := hB1x4.chg hC6 (fun hm => by have := List.mem_singleton.1 hm; omega)
  refine lw_nil (wp_seq (wp_seq (wp_plain _ [0] rfl ?_)))
  have hrg : exR ex := hx2.rng
  have hdx : 1 ≤ dex := by omega
  refine lw_tvn 1 rfl (wp_block ?_)
  refine c_loop (S := Nat × Value) (fun (⟨i, vk⟩ : Nat × Value) => ([(4, (.int .i64 ((i : Nat) : Int))), (0, ve), (2, (.pointer (some ⟨w.heap.size, 0, none⟩))), (3, (.pointer (some ⟨w1.drew.heap.size, 0, none⟩)))] : List (Nat × Value))) (fun (⟨i, vk⟩ : Nat × Value) (W : World) => Ext w W ∧ Fr (owS 5 (oEx 46 (dex - 1)) 46) w6.heap.size W.heap.size W.heap vk (ex.kids.take i) ∧ BX W.heap w.heap.size [(.int .i64 0), (.int .i64 0), (.int .i64 0), (.int .i64 0), (.slice none 0 0)] ∧ BX W.heap w1.drew.heap.size [(.int .i64 ex.kind), (.int .i64 ex.num), (.int .i64 ex.pick), (.int .i64 ex.count), vk] ∧ i ≤ ex.kids.length ∧ w.heap.size < w6.heap.size ∧ w1.drew.heap.size < w6.heap.size ∧ w6.heap.size ≤ W.heap.size) (fun (⟨i, vk⟩ : Nat × Value) => ex.kids.length - i) (0, (.slice none 0 0)) ⟨rfl, rfl, rfl, rfl, trivial⟩ ⟨hE6, (frNilS _ 0 _).up (good_owS (good_oEx 46 (dex - 1))), hF7, hB6, oM, oM, oM, oM⟩ ?_
  clear hE0 hz1 hX1 hzs1 hE1 hln2 hz4 hX4 hzs4 hE4 hz6 hC6 hF7
  rintro ⟨i, vk⟩ ρ10 w10 ⟨hE10, hL10_0, hL10_1, hL10_2, hp10_0, hkg8, hkg9, hkB11⟩
  have hzs10 : w.heap.size ≤ w10.heap.size := hE10.size
  have hq12 := hL10_1.lt
  have hq13 := hL10_2.lt
  refine wp_seq (wp_seq (wp_plain _ [0, 0, 0, 0, 2, 0, 0] rfl (lw_tv 2 rfl (q_nilP (hex.isPtr) rfl zN (q_fldL (p := ve) 4 fd46_4 rfl (hl2 _ (Chg.of_ext [] hE10)) zN (q_load (p := (padd ve 4)) (.inr rfl) ve2 one44 rfl ((hl2 _ (Chg.of_ext [] hE10)).ld (i := 4) (by simp [exC, fnC])) zN (q_len (v := ve2) u44 rfl hx2.rn.isSl zN ?_)))))))
  by_cases hc14 : ((i : Nat) : Int) < ((ex.kids.length : Nat) : Int)
  ·
    refine q_lss true rfl rfl (decide_eq_true hc14) zN (lw_nil (c_cond_t rfl (wp_skip (wp_seq (wp_block (wp_draw _ [0, 1, 0, 0, 0, 1, 0, 0, 3, 3, 4, 0, 4] mixed (by kernel_rfl) (q_fldP (p := (.pointer (some ⟨w1.drew.heap.size, 0, none⟩))) (b := w1.drew.heap.size) (o := 0) 4 fd46_4 rfl rfl zN (q_load (p := (padd (.pointer (some ⟨w1.drew.heap.size, 0, none⟩)) 4)) (.inl rfl) vk one44 rfl (hL10_2.ldp (i := 4) sM) zN (lw_tv 1 rfl (q_nilP (hex.isPtr) rfl zN (q_fldL (p := ve) 4 fd46_4 rfl (hl2 _ (Chg.of_ext [] hE10.drew)) zN (q_load (p := (padd ve 4)) (.inl rfl) ve2 one44 rfl ((hl2 _ (Chg.of_ext [] hE10.drew)).ld (i := 4) (by simp [exC, fnC])) zN (lw_tv 1 rfl ?_)))))))))))))
    refine q_idx (v := ve2) i u44 tiS46 rfl rfl hx2.rn.isSl rfl sD zN ?_
    have hsa := sizes_at (l := ex.kids) (k := i) oM
    refine lw_call 119 [] [] [(eptr ve2 i 5)] rfl rfl cf119 zN (ih dd2 oM _ (eptr ve2 i 5) (ex.kids.getD i Ex.zero) (RN.ptr (good_rEx dd2) (by decide) Ex.zero (hx2.rn.ext (good_rdS (good_rEx dd2)) hE10.drew) sD) oM) ?_
    rintro e15 w15 ⟨v15, rfl, hX15, hO15, hr15, hd15⟩
    refine ⟨_, rfl, hX15, ?_⟩
    replace hX15 := hX15.of_drew
    have hzs15 : w10.heap.size ≤ w15.heap.size := hX15.size
    have hE15 : Ext w w15 := hE10.trans hX15
    have hL10_0x15 := hL10_0.ext ((good_owS (good_oEx 46 (dex - 1)))) hX15
    have hL10_1x15 := hL10_1.ext hX15
    have hL10_2x15 := hL10_2.ext hX15
    replace hO15 := hO15.low (B' := w10.heap.size) (Nat.le_refl _)
    refine r_oneS (cs := [(.int .i64 ((ex.kids.getD i Ex.zero).kind)), (.int .i64 ((ex.kids.getD i Ex.zero).num)), (.int .i64 ((ex.kids.getD i Ex.zero).pick)), (.int .i64 ((ex.kids.getD i Ex.zero).count)), v15]) (y := (ex.kids.getD i Ex.zero)) (B := w10.heap.size) (good_oEx 46 (dex - 1)) u44 tiS46 rfl (by decide) rfl (FrN.le (FrN.mk1 oM hr15 hO15) oM) oM zN fun v16 w16 hX16 hz16 hO16 => ?_
    have hzs16 : w15.heap.size ≤ w16.heap.size := hX16.size
    have hE16 : Ext w w16 := hE15.trans hX16
    have hL10_0x16 := hL10_0x15.ext ((good_owS (good_oEx 46 (dex - 1)))) hX16
    have hL10_1x16 := hL10_1x15.ext hX16
    have hL10_2x16 := hL10_2x15.ext hX16
    refine e_appS (v := vk) (a := v16) (good_oEx 46 (dex - 1)) u44 tiS46 rfl (by decide) rfl rfl hL10_0x16 oM hO16 oM oM (by rw [List.length_take]; omega) (by rw [List.length_take]; unfold maxLen; omega) zN fun v17 w17 F17 hC17 hF17 hO17 => ?_
    have hzs17 : w16.heap.size ≤ w17.heap.size := hC17.size
    have hE17 : Ext w w17 := hC17.below hE16 (fun c hc => by have := hF17 _ hc; omega) hE16.size
    have hF18 := hL10_1x16.chg hC17 (fun hm => by have := hF17 _ hm; omega)
    have hF19 := hL10_2x16.chg hC17 (fun hm => by have := hF17 _ hm; omega)
    refine q_fldP (p := (.pointer (some ⟨w1.drew.heap.size, 0, none⟩))) (b := w1.drew.heap.size) (o := 0) 4 fd46_4 rfl rfl zN (e_setB (k := 4) (w := w17) sz44 rfl rfl (isSl_one hO17.isSlS) hF19 sM zN fun w20 hC20 hz20 hB20 => ?_)
    replace hB20 : BX w20.heap w1.drew.heap.size [(.int .i64 ex.kind), (.int .i64 ex.num), (.int .i64 ex.pick), (.int .i64 ex.count), v17] := hB20
    have hzs20 : w17.heap.size ≤ w20.heap.size := hC20.size
    have hE20 : Ext w w20 := hC20.below hE17 (fun c hc => by have := List.mem_singleton.1 hc; omega) hE17.size
    have hF21 := hF18.chg hC20 (fun hm => by have := List.mem_singleton.1 hm; omega)
    have hF22 := hO17.chg ((good_owS (good_oEx 46 (dex - 1)))) hC20 (fun c hc => by have := List.mem_singleton.1 hc; omega)
    exact lw_nil (wp_plain _ [0, 0, 0] rfl (lw_tv 1 rfl (q_add ((i + 1 : Nat) : Int) rfl rfl (w64n oM oM) zN (lw_tvn 1 rfl ⟨((i + 1), v17), _, rfl, ⟨rfl, rfl, rfl, rfl, trivial⟩, ⟨hE20, (by rw [take_snoc Ex.zero oM]; exact hF22.up (good_owS (good_oEx 46 (dex - 1)))), hF21, hB20, oM, oM, oM, oM⟩, by first | omega | (dsimp only; omega)⟩))))
  ·
    refine q_lss false rfl rfl (decide_eq_false hc14) zN (lw_nil (c_cond_f rfl (wp_exit (t_exit (t_exit (c_exit_here (wp_seq (wp_plain _ [2, 4] rfl (q_loadA (p := (.pointer (some ⟨w1.drew.heap.size, 0, none⟩))) (.inr rfl) [(.int .i64 ex.kind), (.int .i64 ex.num), (.int .i64 ex.pick), (.int .i64 ex.count), vk] agg46 rfl (fun wq9 hw9 => LD.of_box (BX.ext (w := w10) hL10_2 hw9)) rfl zN (e_setA (vs := [(.int .i64 ex.kind), (.int .i64 ex.num), (.int .i64 ex.pick), (.int .i64 ex.count), vk]) agg46 rfl rfl (by intro u hu; simp only [List.mem_cons, List.not_mem_nil, or_false] at hu; rcases hu with rfl | rfl | rfl | rfl | rfl <;> first | exact ⟨rfl, rfl⟩ | exact isSl_one hL10_0.isSlS) hL10_1 rfl rfl zN fun w23 hC23 hz23 hB23 => ?_))))))))))
    replace hB23 : BX w23.heap w.heap.size [(.int .i64 ex.kind), (.int .i64 ex.num), (.int .i64 ex.pick), (.int .i64 ex.count), vk] := hB23
    have hzs23 : w10.heap.size ≤ w23.heap.size := hC23.size
    have hE23 : Ext w w23 := hC23.below hE10 (fun c hc => by have := List.mem_singleton.1 hc; omega) hE10.size
    have hF24 := hL10_0.chg ((good_owS (good_oEx 46 (dex - 1)))) hC23 (fun c hc => by have := List.mem_singleton.1 hc; omega)
    have hF25 := hL10_2.chg hC23 (fun hm => by have := List.mem_singleton.1 hm; omega)
    exact lw_nil (wp_ret (post_retA (cs := [(.int .i64 ex.kind), (.int .i64 ex.num), (.int .i64 ex.pick), (.int .i64 ex.count), vk]) rfl agg46 rfl hB23 rfl ⟨vk, rfl, hE23, (by have h := ((hF24.up (good_owS (good_oEx 46 (dex - 1)))).low (B' := w.heap.size) oM); rwa [List.take_of_length_le oM] at h), (by exact hrg), (by exact hdx)⟩))
theorem z80_0 {p : Prop} (h : p := by simp [exC, fnC]) : p := h
theorem c_spec_l02OwnProgram (w : World) (dp : Nat) (vp : Value) (p : List Fn) (hp : RN [] (rP (rPr dp)) w.heap vp p) (hz : SzP p) (hpl : p.length ≤ 1000000) :
    Calls Try.prog 80 #[vp] w (fun e w' => ∃ v, e = .returned (.agg #[v]) ∧ Ext w w' ∧ Fr (owS 3 (oFn 46 dp) 49) w.heap.size w'.heap.size w'.heap v p) := by
  refine calls_mk [vp] 70 Try.func80 rfl rfl sM ?_
  have hE0 : Ext w w := Ext.refl w
  refine wp_seq (wp_plain _ [3] rfl (r_allocA (z := .agg #[.slice none 0 0]) zr52 zN fun w1 hX1 hz1 hB1 => ?_))
  have hzs1 : w.heap.size ≤ w1.heap.size := hX1.size
  have hE1 : Ext w w1 := hE0.trans hX1
  replace hB1 : BX w1.heap w.heap.size [(.slice none 0 0)] := hB1
  refine lw_nil (wp_seq (wp_plain _ [0, 3, 4] rfl ?_))
  have hbd2 : ∀ (wq : World), (Instr.build 52 #[]).run Try.prog wq = .ok (.agg #[(.slice none 0 0)]) wq := by intro wq; kernel_rfl
  refine q_build (ps := #[]) (.agg #[(.slice none 0 0)]) (by simp only [List.map_toArray, List.map_cons, List.map_nil]) (fun wq => hbd2  wq) zN ?_
  have hq4 := hB1.lt
  refine r_allocA (z := .agg #[.slice none 0 0]) zr52 zN fun w3 hX3 hz3 hB3 => ?_
  have hzs3 : w1.heap.size ≤ w3.heap.size := hX3.size
  have hE3 : Ext w w3 := hE1.trans hX3
  have hB1x3 := hB1.ext hX3
  replace hB3 : BX w3.heap w1.heap.size [(.slice none 0 0)] := hB3
  refine e_setA (vs := [(.slice none 0 0)]) agg52 rfl rfl (by intro u hu; simp only [List.mem_cons, List.not_mem_nil, or_false] at hu; rcases hu with rfl <;> first | exact ⟨rfl, rfl⟩) hB3 rfl rfl zN fun w5 hC5 hz5 hB5 => ?_
  replace hB5 : BX w5.heap w1.heap.size [(.slice none 0 0)] := hB5
  have hzs5 : w3.heap.size ≤ w5.heap.size := hC5.size
  have hE5 : Ext w w5 := hC5.below hE3 (fun c hc => by have := List.mem_singleton.1 hc; omega) hE3.size
  have hF6 := hB1x3.chg hC5 (fun hm => by have := List.mem_singleton.1 hm; omega)
  refine lw_nil (wp_seq (wp_seq (wp_plain _ [0] rfl (lw_tvn 1 rfl (wp_block (c_loop (S := Nat × Value) (fun (⟨i, vq⟩ : Nat × Value) => ([(4, (.int .i64 ((i : Nat) : Int))), (0, vp), (2, (.pointer (some ⟨w.heap.size, 0, none⟩))), (3, (.pointer (some ⟨w1.heap.size, 0, none⟩)))] : List (Nat × Value))) (fun (⟨i, vq⟩ : Nat × Value) (W : World) => Ext w W ∧ Fr (owS 3 (oFn 46 dp) 49) w5.heap.size W.heap.size W.heap vq (p.take i) ∧ BX W.heap w.heap.size [(.slice none 0 0)] ∧ BX W.heap w1.heap.size [vq] ∧ i ≤ p.length ∧ w.heap.size < w5.heap.size ∧ w1.heap.size < w5.heap.size ∧ w5.heap.size ≤ W.heap.size) (fun (⟨i, vq⟩ : Nat × Value) => p.length - i) (0, (.slice none 0 0)) ⟨rfl, rfl, rfl, rfl, trivial⟩ ⟨hE5, (frNilS _ 0 _).up (good_owS (good_oFn 46 dp)), hF6, hB5, oM, oM, oM, oM⟩ ?_))))))
  clear hE0 hz1 hX1 hzs1 hE1 hz3 hX3 hzs3 hE3 hz5 hC5 hF6
  rintro ⟨i, vq⟩ ρ9 w9 ⟨hE9, hL9_0, hL9_1, hL9_2, hp9_0, hkg7, hkg8, hkB10⟩
  have hzs9 : w.heap.size ≤ w9.heap.size := hE9.size
  have hq11 := hL9_1.lt
  have hq12 := hL9_2.lt
  refine wp_seq (wp_seq (wp_plain _ [0, 0, 0, 0, 2, 0, 0] rfl (lw_tv 2 rfl (q_nilP (hp.isPtr) rfl zN ?_))))
  obtain ⟨cs13, hr13, hl13⟩ := RN.at (good_rPr _) hp
  obtain ⟨ve13, rfl, hx13⟩ := RPr.of hr13
  have hln13 := hx13.lenle
  unfold maxLen at hln13
  refine q_fldL (p := vp) 0 fd52_0 rfl (hl13 _ (Chg.of_ext [] hE9)) zN (q_load (p := (padd vp 0)) (.inr rfl) ve13 one50 rfl ((hl13 _ (Chg.of_ext [] hE9)).ld (i := 0) z80_0) zN (q_len (v := ve13) u50 rfl hx13.isSl zN ?_))
  by_cases hc14 : ((i : Nat) : Int) < ((p.length : Nat) : Int)
  ·
    refine q_lss true rfl rfl (decide_eq_true hc14) zN (lw_nil (c_cond_t rfl (wp_skip (wp_seq (wp_block (wp_seq (wp_draw _ [0, 0, 0, 1, 0, 0, 0, 1, 0, 0, 0, 1, 0, 0, 0, 1, 0, 3, 4] mixed (by kernel_rfl) (lw_tv 1 rfl (q_nilP (hp.isPtr) rfl zN (q_fldL (p := vp) 0 fd52_0 rfl (hl13 _ (Chg.of_ext [] hE9.drew)) zN (q_load (p := (padd vp 0)) (.inl rfl) ve13 one50 rfl ((hl13 _ (Chg.of_ext [] hE9.drew)).ld (i := 0) z80_0) zN (lw_tv 1 rfl ?_))))))))))))
    refine q_idx (v := ve13) i u50 tiS49 rfl rfl hx13.isSl rfl sD zN ?_
    obtain ⟨cs15, hr15, hl15⟩ := hx13.get (good_rFn dp) Fn.zero (k := i) sD
    obtain ⟨ve15, rfl, hx15⟩ := RF.of hr15
    have hln15 := hx15.rn.lenle
    unfold maxLen at hln15
    refine q_fldL (p := eptr ve13 i 3) 0 fd49_0 rfl (hl15 _ (Chg.of_ext [] hE9.drew)) zN (q_load (p := (padd (eptr ve13 i 3) 0)) (.inl rfl) (.string ((p.getD i Fn.zero).name)) one9 rfl ((hl15 _ (Chg.of_ext [] hE9.drew)).ld (i := 0) z80_0) zN (lw_tv 1 rfl (q_nilP (hp.isPtr) rfl zN (q_fldL (p := vp) 0 fd52_0 rfl (hl13 _ (Chg.of_ext [] hE9.drew)) zN (q_load (p := (padd vp 0)) (.inl rfl) ve13 one50 rfl ((hl13 _ (Chg.of_ext [] hE9.drew)).ld (i := 0) z80_0) zN (lw_tv 1 rfl ?_))))))
    refine q_idx (v := ve13) i u50 tiS49 rfl rfl hx13.isSl rfl sD zN (q_fldL (p := eptr ve13 i 3) 1 fd49_1 rfl (hl15 _ (Chg.of_ext [] hE9.drew)) zN (q_load (p := (padd (eptr ve13 i 3) 1)) (.inl rfl) (.int .i64 ((p.getD i Fn.zero).params)) one2 rfl ((hl15 _ (Chg.of_ext [] hE9.drew)).ld (i := 1) z80_0) zN ?_))
    have hbd16 : ∀ (wq : World), (Instr.build 49 #[(0, (.string ((p.getD i Fn.zero).name))), (1, (.int .i64 ((p.getD i Fn.zero).params)))]).run Try.prog wq = .ok (.agg #[(.string ((p.getD i Fn.zero).name)), (.int .i64 ((p.getD i Fn.zero).params)), (.slice none 0 0)]) wq := by intro wq; kernel_rfl
    refine q_build (ps := #[(0, (.string ((p.getD i Fn.zero).name))), (1, (.int .i64 ((p.getD i Fn.zero).params)))]) (.agg #[(.string ((p.getD i Fn.zero).name)), (.int .i64 ((p.getD i Fn.zero).params)), (.slice none 0 0)]) (by simp only [List.map_toArray, List.map_cons, List.map_nil]; rfl) (fun wq => hbd16  wq) zN ?_
    have hq18 := hL9_1.lt
    have hq19 := hL9_2.lt
    have hdr17 : w9.drew.heap.size = w9.heap.size := rfl
    refine r_allocA (z := .agg #[.string ByteArray.empty, .int .i64 0, .slice none 0 0]) zr49 zN fun w17 hX17 hz17 hB17 => ?_
    replace hX17 := hX17.of_drew
    have hzs17 : w9.heap.size ≤ w17.heap.size := hX17.size
    have hE17 : Ext w w17 := hE9.trans hX17
    have hL9_0x17 := hL9_0.ext ((good_owS (good_oFn 46 dp))) hX17
    have hL9_1x17 := hL9_1.ext hX17
    have hL9_2x17 := hL9_2.ext hX17
    replace hB17 : BX w17.heap w9.drew.heap.size [(.string ByteArray.empty), (.int .i64 0), (.slice none 0 0)] := hB17
    refine e_setA (vs := [(.string ((p.getD i Fn.zero).name)), (.int .i64 ((p.getD i Fn.zero).params)), (.slice none 0 0)]) agg49 rfl rfl (by intro u hu; simp only [List.mem_cons, List.not_mem_nil, or_false] at hu; rcases hu with rfl | rfl | rfl <;> first | exact ⟨rfl, rfl⟩) hB17 rfl rfl zN fun w20 hC20 hz20 hB20 => ?_
    replace hB20 : BX w20.heap w9.drew.heap.size [(.string ((p.getD i Fn.zero).name)), (.int .i64 ((p.getD i Fn.zero).params)), (.slice none 0 0)] := hB20
    have hzs20 : w17.heap.size ≤ w20.heap.size := hC20.size
    have hE20 : Ext w w20 := hC20.below hE17 (fun c hc => by have := List.mem_singleton.1 hc; omega) hE17.size
    have hF21 := hL9_0x17.chg ((good_owS (good_oFn 46 dp))) hC20 (fun c hc => by have := List.mem_singleton.1 hc; omega)
    have hF22 := hL9_1x17.chg hC20 (fun hm => by have := List.mem_singleton.1 hm; omega)
    have hF23 := hL9_2x17.chg hC20 (fun hm => by have := List.mem_singleton.1 hm; omega)
    refine lw_nil (wp_seq (wp_seq (wp_plain _ [0] rfl (lw_tvn 1 rfl (wp_block ?_)))))
    refine c_loop (S := Nat × Value) (fun (⟨k, vo⟩ : Nat × Value) => ([(6, (.int .i64 ((k : Nat) : Int))), (0, vp), (2, (.pointer (some ⟨w.heap.size, 0, none⟩))), (3, (.pointer (some ⟨w1.heap.size, 0, none⟩))), (4, (.int .i64 ((i : Nat) : Int))), (5, (.pointer (some ⟨w9.drew.heap.size, 0, none⟩)))] : List (Nat × Value))) (fun (⟨k, vo⟩ : Nat × Value) (W : World) => Ext w W ∧ Fr (owS 5 (oEx 46 dp) 46) w20.heap.size W.heap.size W.heap vo ((p.getD i Fn.zero).outs.take k) ∧ Fr (owS 3 (oFn 46 dp) 49) w5.heap.size w9.heap.size W.heap vq (p.take i) ∧ BX W.heap w.heap.size [(.slice none 0 0)] ∧ BX W.heap w1.heap.size [vq] ∧ BX W.heap w9.drew.heap.size [(.string ((p.getD i Fn.zero).name)), (.int .i64 ((p.getD i Fn.zero).params)), vo] ∧ k ≤ (p.getD i Fn.zero).outs.length ∧ w9.heap.size ≤ w20.heap.size ∧ w9.heap.size ≤ w9.drew.heap.size ∧ w.heap.size ≤ w5.heap.size ∧ w.heap.size < w20.heap.size ∧ w1.heap.size < w20.heap.size ∧ w9.drew.heap.size < w20.heap.size ∧ w20.heap.size ≤ W.heap.size ∧ w5.heap.size ≤ W.heap.size) (fun (⟨k, vo⟩ : Nat × Value) => (p.getD i Fn.zero).outs.length - k) (0, (.slice none 0 0)) ⟨rfl, rfl, rfl, rfl, rfl, rfl, trivial⟩ ⟨hE20, (frNilS _ 0 _).up (good_owS (good_oEx 46 dp)), hF21, hF22, hF23, hB20, oM, oM, oM, oM, oM, oM, oM, oM, oM⟩ ?_
    clear hL9_2 hL9_1 hL9_0 hln13 hln15 hz17 hX17 hzs17 hE17 hL9_0x17 hL9_1x17 hL9_2x17 hz20 hC20 hF21 hF22 hF23
    rintro ⟨k, vo⟩ ρ27 w27 ⟨hE27, hL27_0, hL27_1, hL27_2, hL27_3, hL27_4, hp27_0, huw, huf, hwb, hkg24, hkg25, hkg26, hkB28, hkB29⟩
    have hzs27 : w.heap.size ≤ w27.heap.size := hE27.size
    have hq30 := hL27_2.lt
    have hq31 := hL27_3.lt
    have hq32 := hL27_4.lt
    refine wp_seq (wp_seq (wp_plain _ [0, 0, 0, 0, 2, 0, 0, 0, 2, 0, 0] rfl (lw_tv 2 rfl (q_nilP (hp.isPtr) rfl zN (q_fldL (p := vp) 0 fd52_0 rfl (hl13 _ (Chg.of_ext [] hE27)) zN (q_load (p := (padd vp 0)) (.inr rfl) ve13 one50 rfl ((hl13 _ (Chg.of_ext [] hE27)).ld (i := 0) z80_0) zN (lw_tv 1 rfl (q_idx (v := ve13) i u50 tiS49 rfl rfl hx13.isSl rfl sD zN ?_))))))))
    refine q_fldL (p := eptr ve13 i 3) 2 fd49_2 rfl (hl15 _ (Chg.of_ext [] hE27)) zN (q_load (p := (padd (eptr ve13 i 3) 2)) (.inr rfl) ve15 one44 rfl ((hl15 _ (Chg.of_ext [] hE27)).ld (i := 2) z80_0) zN ?_)
    have hzi := hz i oM
    refine q_len (v := ve15) u44 rfl hx15.rn.isSl zN ?_
    by_cases hc33 : ((k : Nat) : Int) < ((((p.getD i Fn.zero).outs).length : Nat) : Int)
    ·
      refine q_lss true rfl rfl (decide_eq_true hc33) zN (lw_nil (c_cond_t rfl (wp_skip (wp_seq (wp_block (wp_draw _ [0, 1, 0, 0, 0, 1, 0, 0, 0, 1, 0, 0, 3, 3, 4, 0, 4] mixed (by kernel_rfl) (q_fldP (p := (.pointer (some ⟨w9.drew.heap.size, 0, none⟩))) (b := w9.drew.heap.size) (o := 0) 2 fd49_2 rfl rfl zN (q_load (p := (padd (.pointer (some ⟨w9.drew.heap.size, 0, none⟩)) 2)) (.inl rfl) vo one44 rfl (hL27_4.ldp (i := 2) sM) zN (lw_tv 1 rfl (q_nilP (hp.isPtr) rfl zN (q_fldL (p := vp) 0 fd52_0 rfl (hl13 _ (Chg.of_ext [] hE27.drew)) zN (q_load (p := (padd vp 0)) (.inl rfl) ve13 one50 rfl ((hl13 _ (Chg.of_ext [] hE27.drew)).ld (i := 0) z80_0) zN (lw_tv 1 rfl ?_)))))))))))))
      refine q_idx (v := ve13) i u50 tiS49 rfl rfl hx13.isSl rfl sD zN (q_fldL (p := eptr ve13 i 3) 2 fd49_2 rfl (hl15 _ (Chg.of_ext [] hE27.drew)) zN (q_load (p := (padd (eptr ve13 i 3) 2)) (.inl rfl) ve15 one44 rfl ((hl15 _ (Chg.of_ext [] hE27.drew)).ld (i := 2) z80_0) zN (lw_tv 1 rfl ?_)))
      refine q_idx (v := ve15) k u44 tiS46 rfl rfl hx15.rn.isSl rfl sD zN ?_
      have hzi := hz i oM
      have hsa := sizes_at (l := (p.getD i Fn.zero).outs) (k := k) oM
      refine lw_call 119 [] [] [(eptr ve15 k 5)] rfl rfl cf119 zN (c_spec_l02Own _ dp (eptr ve15 k 5) (((p.getD i Fn.zero).outs).getD k Ex.zero) (RN.ptr (good_rEx dp) (by decide) Ex.zero (hx15.rn.ext (good_rdS (good_rEx dp)) hE27.drew) sD) oM) ?_
      rintro e34 w34 ⟨v34, rfl, hX34, hO34, hr34, hd34⟩
      refine ⟨_, rfl, hX34, ?_⟩
      replace hX34 := hX34.of_drew
      have hzs34 : w27.heap.size ≤ w34.heap.size := hX34.size
      have hE34 : Ext w w34 := hE27.trans hX34
      have hL27_0x34 := hL27_0.ext ((good_owS (good_oEx 46 dp))) hX34
      have hL27_1x34 := hL27_1.ext ((good_owS (good_oFn 46 dp))) hX34
      have hL27_2x34 := hL27_2.ext hX34
      have hL27_3x34 := hL27_3.ext hX34
      have hL27_4x34 := hL27_4.ext hX34
      replace hO34 := hO34.low (B' := w27.heap.size) (Nat.le_refl _)
      refine r_oneS (cs := [(.int .i64 ((((p.getD i Fn.zero).outs).getD k Ex.zero).kind)), (.int .i64 ((((p.getD i Fn.zero).outs).getD k Ex.zero).num)), (.int .i64 ((((p.getD i Fn.zero).outs).getD k Ex.zero).pick)), (.int .i64 ((((p.getD i Fn.zero).outs).getD k Ex.zero).count)), v34]) (y := (((p.getD i Fn.zero).outs).getD k Ex.zero)) (B := w27.heap.size) (good_oEx 46 dp) u44 tiS46 rfl (by decide) rfl (FrN.mk1 oM hr34 hO34) oM zN fun v35 w35 hX35 hz35 hO35 => ?_
      have hzs35 : w34.heap.size ≤ w35.heap.size := hX35.size
      have hE35 : Ext w w35 := hE34.trans hX35
      have hL27_0x35 := hL27_0x34.ext ((good_owS (good_oEx 46 dp))) hX35
      have hL27_1x35 := hL27_1x34.ext ((good_owS (good_oFn 46 dp))) hX35
      have hL27_2x35 := hL27_2x34.ext hX35
      have hL27_3x35 := hL27_3x34.ext hX35
      have hL27_4x35 := hL27_4x34.ext hX35
      refine e_appS (v := vo) (a := v35) (good_oEx 46 dp) u44 tiS46 rfl (by decide) rfl rfl hL27_0x35 oM hO35 oM oM (by rw [List.length_take]; omega) (by rw [List.length_take]; unfold maxLen; omega) zN fun v36 w36 F36 hC36 hF36 hO36 => ?_
      have hzs36 : w35.heap.size ≤ w36.heap.size := hC36.size
      have hE36 : Ext w w36 := hC36.below hE35 (fun c hc => by have := hF36 _ hc; omega) hE35.size
      have hF37 := hL27_1x35.chg ((good_owS (good_oFn 46 dp))) hC36 (fun c hc => by have := hF36 _ hc; omega)
      have hF38 := hL27_2x35.chg hC36 (fun hm => by have := hF36 _ hm; omega)
      have hF39 := hL27_3x35.chg hC36 (fun hm => by have := hF36 _ hm; omega)
      have hF40 := hL27_4x35.chg hC36 (fun hm => by have := hF36 _ hm; omega)
      refine q_fldP (p := (.pointer (some ⟨w9.drew.heap.size, 0, none⟩))) (b := w9.drew.heap.size) (o := 0) 2 fd49_2 rfl rfl zN (e_setB (k := 2) (w := w36) sz44 rfl rfl (isSl_one hO36.isSlS) hF40 sM zN fun w41 hC41 hz41 hB41 => ?_)
      replace hB41 : BX w41.heap w9.drew.heap.size [(.string ((p.getD i Fn.zero).name)), (.int .i64 ((p.getD i Fn.zero).params)), v36] := hB41
      have hzs41 : w36.heap.size ≤ w41.heap.size := hC41.size
      have hE41 : Ext w w41 := hC41.below hE36 (fun c hc => by have := List.mem_singleton.1 hc; omega) hE36.size
      have hF42 := hF37.chg ((good_owS (good_oFn 46 dp))) hC41 (fun c hc => by have := List.mem_singleton.1 hc; omega)
      have hF43 := hF38.chg hC41 (fun hm => by have := List.mem_singleton.1 hm; omega)
      have hF44 := hF39.chg hC41 (fun hm => by have := List.mem_singleton.1 hm; omega)
      have hF45 := hO36.chg ((good_owS (good_oEx 46 dp))) hC41 (fun c hc => by have := List.mem_singleton.1 hc; omega)
      exact lw_nil (wp_plain _ [0, 0, 0] rfl (lw_tv 1 rfl (q_add ((k + 1 : Nat) : Int) rfl rfl (w64n oM oM) zN (lw_tvn 1 rfl ⟨((k + 1), v36), _, rfl, ⟨rfl, rfl, rfl, rfl, rfl, rfl, trivial⟩, ⟨hE41, (by rw [take_snoc Ex.zero oM]; exact hF45.up (good_owS (good_oEx 46 dp))), hF42, hF43, hF44, hB41, oM, oM, oM, oM, oM, oM, oM, oM, oM⟩, by first | omega | (dsimp only; omega)⟩))))
    ·
      refine q_lss false rfl rfl (decide_eq_false hc33) zN (lw_nil (c_cond_f rfl (wp_exit (t_exit (t_exit (c_exit_here (wp_plain _ [0, 2, 2, 3, 4, 0, 4] rfl (q_fldP (p := (.pointer (some ⟨w1.heap.size, 0, none⟩))) (b := w1.heap.size) (o := 0) 0 fd52_0 rfl rfl zN (q_load (p := (padd (.pointer (some ⟨w1.heap.size, 0, none⟩)) 0)) (.inr rfl) vq one50 rfl (hL27_3.ldp (i := 0) sM) zN (q_loadA (p := (.pointer (some ⟨w9.drew.heap.size, 0, none⟩))) (.inr rfl) [(.string ((p.getD i Fn.zero).name)), (.int .i64 ((p.getD i Fn.zero).params)), vo] agg49 rfl (fun wq9 hw9 => LD.of_box (BX.ext (w := w27) hL27_4 hw9)) rfl zN ?_))))))))))
      refine r_oneS (cs := [(.string ((p.getD i Fn.zero).name)), (.int .i64 ((p.getD i Fn.zero).params)), vo]) (y := (Fn.mk ((p.getD i Fn.zero).name) ((p.getD i Fn.zero).params) ((p.getD i Fn.zero).outs.take k))) (B := w20.heap.size) (good_oFn 46 dp) u50 tiS49 rfl (by decide) rfl (FrN.mkF (x := ⟨((p.getD i Fn.zero).name), ((p.getD i Fn.zero).params), ((p.getD i Fn.zero).outs.take k)⟩) (i64_mk (a := ((p.getD i Fn.zero).params)) hx15.rng) hL27_0) oM zN fun v46 w46 hX46 hz46 hO46 => ?_
      have hzs46 : w27.heap.size ≤ w46.heap.size := hX46.size
      have hE46 : Ext w w46 := hE27.trans hX46
      have hL27_1x46 := hL27_1.ext ((good_owS (good_oFn 46 dp))) hX46
      have hL27_2x46 := hL27_2.ext hX46
      have hL27_3x46 := hL27_3.ext hX46
      have hL27_4x46 := hL27_4.ext hX46
      refine e_appS (v := vq) (a := v46) (good_oFn 46 dp) u50 tiS49 rfl (by decide) rfl rfl hL27_1x46 oM hO46 oM oM (by rw [List.length_take]; omega) (by rw [List.length_take]; unfold maxLen; omega) zN fun v47 w47 F47 hC47 hF47 hO47 => ?_
      have hzs47 : w46.heap.size ≤ w47.heap.size := hC47.size
      have hE47 : Ext w w47 := hC47.below hE46 (fun c hc => by have := hF47 _ hc; omega) hE46.size
      have hF48 := hL27_2x46.chg hC47 (fun hm => by have := hF47 _ hm; omega)
      have hF49 := hL27_3x46.chg hC47 (fun hm => by have := hF47 _ hm; omega)
      have hF50 := hL27_4x46.chg hC47 (fun hm => by have := hF47 _ hm; omega)
      refine q_fldP (p := (.pointer (some ⟨w1.heap.size, 0, none⟩))) (b := w1.heap.size) (o := 0) 0 fd52_0 rfl rfl zN (e_setB (k := 0) (w := w47) sz50 rfl rfl (isSl_one hO47.isSlS) hF49 sM zN fun w51 hC51 hz51 hB51 => ?_)
      replace hB51 : BX w51.heap w1.heap.size [v47] := hB51
      have hzs51 : w47.heap.size ≤ w51.heap.size := hC51.size
      have hE51 : Ext w w51 := hC51.below hE47 (fun c hc => by have := List.mem_singleton.1 hc; omega) hE47.size
      have hF52 := hF48.chg hC51 (fun hm => by have := List.mem_singleton.1 hm; omega)
      have hF53 := hF50.chg hC51 (fun hm => by have := List.mem_singleton.1 hm; omega)
      have hF54 := hO47.chg ((good_owS (good_oFn 46 dp))) hC51 (fun c hc => by have := List.mem_singleton.1 hc; omega)
      exact lw_nil (wp_plain _ [0, 0, 0] rfl (lw_tv 1 rfl (q_add ((i + 1 : Nat) : Int) rfl rfl (w64n oM oM) zN (lw_tvn 1 rfl ⟨((i + 1), v47), _, rfl, ⟨rfl, rfl, rfl, rfl, trivial⟩, ⟨hE51, (by have h := hF54.up (good_owS (good_oFn 46 dp)); rw [show (p.getD i Fn.zero).outs.take k = (p.getD i Fn.zero).outs from List.take_of_length_le oM] at h; rw [take_snoc Fn.zero oM]; exact h), hF52, hB51, oM, oM, oM, oM⟩, by first | omega | (dsimp only; omega)⟩))))
  ·
    refine q_lss false rfl rfl (decide_eq_false hc14) zN (lw_nil (c_cond_f rfl (wp_exit (t_exit (t_exit (c_exit_here (wp_seq (wp_plain _ [2, 4] rfl (q_loadA (p := (.pointer (some ⟨w1.heap.size, 0, none⟩))) (.inr rfl) [vq] agg52 rfl (fun wq9 hw9 => LD.of_box (BX.ext (w := w9) hL9_2 hw9)) rfl zN (e_setA (vs := [vq]) agg52 rfl rfl (by intro u hu; simp only [List.mem_cons, List.not_mem_nil, or_false] at hu; rcases hu with rfl <;> first | exact ⟨rfl, rfl⟩ | exact isSl_one hL9_0.isSlS) hL9_1 rfl rfl zN fun w55 hC55 hz55 hB55 => ?_))))))))))
    replace hB55 : BX w55.heap w.heap.size [vq] := hB55
    have hzs55 : w9.heap.size ≤ w55.heap.size := hC55.size
    have hE55 : Ext w w55 := hC55.below hE9 (fun c hc => by have := List.mem_singleton.1 hc; omega) hE9.size
    have hF56 := hL9_0.chg ((good_owS (good_oFn 46 dp))) hC55 (fun c hc => by have := List.mem_singleton.1 hc; omega)
    have hF57 := hL9_2.chg hC55 (fun hm => by have := List.mem_singleton.1 hm; omega)
    exact lw_nil (wp_ret (post_retA (cs := [vq]) rfl agg52 rfl hB55 rfl ⟨vq, rfl, hE55, (by have h := ((hF56.up (good_owS (good_oFn 46 dp))).low (B' := w.heap.size) oM); rwa [List.take_of_length_le oM] at h)⟩))
end Go.Proofs.Ytjnbnlniafmblaa
namespace Go.Proofs.Ytjnbnlniafmblaa
open Go Go.RowKit
set_option linter.unusedVariables false
set_option linter.unusedSimpArgs false
set_option maxHeartbeats 4000000
set_option maxRecDepth 100000
attribute [local irreducible] LW
theorem FrN.mk2 {e : TypeId} {d B U : Nat} {H : Array Obj} {v : Value} {x : Ex} (hr : exR x) (h : Fr (owS 5 (oEx e d) e) B U H v x.kids) : FrN (oEx e (d + 1)) B U H (exC x v) x := FrN.mk1 (by omega) hr h
theorem c_impl_cloneExpr (w : World) (dex : Nat) (ve : Value) (ex : Ex) (hex : RX [] dex w.heap ve ex) (hs : ex.size ≤ 2000000) :
    Calls Try.prog 123 #[(.agg #[(.int .i64 ex.kind), (.int .i64 ex.num), (.int .i64 ex.pick), (.int .i64 ex.count), ve])] w (fun e w' => ∃ v, e = .returned (.agg #[.int .i64 ex.kind, .int .i64 ex.num, .int .i64 ex.pick, .int .i64 ex.count, v]) ∧ Ext w w' ∧ Fr (owS 5 (oEx 46 dex) 46) w.heap.size w'.heap.size w'.heap v ex.kids ∧ exR ex) := by
  induction dex using Nat.strongRecOn generalizing w ve ex
  rename_i dex ih
  refine calls_mk [(.agg #[(.int .i64 ex.kind), (.int .i64 ex.num), (.int .i64 ex.pick), (.int .i64 ex.count), ve])] 24 Try.func123 rfl rfl sM ?_
  have hE0 : Ext w w := Ext.refl w
  have hl_ve := hex.rn.lenle
  unfold maxLen at hl_ve
  have hsk := size_kids ex
  have hsg := sizes_ge ex.kids 0
  refine wp_seq (wp_plain _ [3, 3] rfl (r_boxA (cs := #[(.int .i64 ex.kind), (.int .i64 ex.num), (.int .i64 ex.pick), (.int .i64 ex.count), ve]) rfl zN fun w1 hX1 hz1 hB1 => ?_))
  have hzs1 : w.heap.size ≤ w1.heap.size := hX1.size
  have hE1 : Ext w w1 := hE0.trans hX1
  replace hB1 : BX w1.heap w.heap.size [(.int .i64 ex.kind), (.int .i64 ex.num), (.int .i64 ex.pick), (.int .i64 ex.count), ve] := hB1
  have hq3 := hB1.lt
  refine r_allocA (z := .agg #[.int .i64 0, .int .i64 0, .int .i64 0, .int .i64 0, .slice none 0 0]) zr46 zN fun w2 hX2 hz2 hB2 => ?_
  have hzs2 : w1.heap.size ≤ w2.heap.size := hX2.size
  have hE2 : Ext w w2 := hE1.trans hX2
  have hB1x2 := hB1.ext hX2
  replace hB2 : BX w2.heap w1.heap.size [(.int .i64 0), (.int .i64 0), (.int .i64 0), (.int .i64 0), (.slice none 0 0)] := hB2
  refine lw_nil (wp_seq (wp_plain _ [0, 2, 0] rfl (q_fldP (p := (.pointer (some ⟨w.heap.size, 0, none⟩))) (b := w.heap.size) (o := 0) 4 fd46_4 rfl rfl zN (q_load (p := (padd (.pointer (some ⟨w.heap.size, 0, none⟩)) 4)) (.inr rfl) ve one44 rfl (hB1x2.ldp (i := 4) sM) zN (lw_tvn 1 rfl (wp_seq (wp_plain _ [0, 4] rfl (q_fldP (p := (.pointer (some ⟨w.heap.size, 0, none⟩))) (b := w.heap.size) (o := 0) 4 fd46_4 rfl rfl zN (e_setB (k := 4) (w := w2) sz44 rfl rfl ⟨rfl, rfl⟩ hB1x2 sM zN fun w4 hC4 hz4 hB4 => ?_)))))))))
  replace hB4 : BX w4.heap w.heap.size [(.int .i64 ex.kind), (.int .i64 ex.num), (.int .i64 ex.pick), (.int .i64 ex.count), (.slice none 0 0)] := hB4
  have hzs4 : w2.heap.size ≤ w4.heap.size := hC4.size
  have hE4 : Ext w w4 := hC4.below hE2 (fun c hc => by have := List.mem_singleton.1 hc; omega) hE2.size
  have hF5 := hB2.chg hC4 (fun hm => by have := List.mem_singleton.1 hm; omega)
  refine lw_nil (wp_seq (wp_seq (wp_plain _ [0, 0, 0] rfl (lw_tv 1 rfl (q_len (v := ve) u44 rfl hex.rn.isSl zN (lw_tvn 1 rfl (wp_block ?_)))))))
  refine c_loop (S := Nat × Value) (fun (⟨i, vk⟩ : Nat × Value) => ([(11, (.int .i64 ((i : Nat) : Int))), (1, (.pointer (some ⟨w.heap.size, 0, none⟩))), (2, (.pointer (some ⟨w1.heap.size, 0, none⟩))), (9, ve), (10, (.int .i64 ((ex.kids.length : Nat) : Int)))] : List (Nat × Value))) (fun (⟨i, vk⟩ : Nat × Value) (W : World) => Ext w W ∧ Fr (owS 5 (oEx 46 dex) 46) w4.heap.size W.heap.size W.heap vk (ex.kids.take i) ∧ BX W.heap w.heap.size [(.int .i64 ex.kind), (.int .i64 ex.num), (.int .i64 ex.pick), (.int .i64 ex.count), vk] ∧ BX W.heap w1.heap.size [(.int .i64 0), (.int .i64 0), (.int .i64 0), (.int .i64 0), (.slice none 0 0)] ∧ i ≤ ex.kids.length ∧ w.heap.size < w4.heap.size ∧ w1.heap.size < w4.heap.size ∧ w4.heap.size ≤ W.heap.size) (fun (⟨i, vk⟩ : Nat × Value) => ex.kids.length - i) (0, (.slice none 0 0)) ⟨rfl, rfl, rfl, rfl, rfl, trivial⟩ ⟨hE4, (frNilS _ 0 _).up (good_owS (good_oEx 46 dex)), hB4, hF5, oM, oM, oM, oM⟩ ?_
  clear hE0 hz1 hX1 hzs1 hE1 hz2 hX2 hzs2 hE2 hz4 hC4 hF5
  rintro ⟨i, vk⟩ ρ8 w8 ⟨hE8, hL8_0, hL8_1, hL8_2, hp8_0, hkg6, hkg7, hkB9⟩
  have hzs8 : w.heap.size ≤ w8.heap.size := hE8.size
  have hq10 := hL8_1.lt
  have hq11 := hL8_2.lt
  refine wp_seq (wp_plain _ [0] rfl ?_)
  by_cases hc12 : ((i : Nat) : Int) < ((ex.kids.length : Nat) : Int)
  ·
    refine q_lss true rfl rfl (decide_eq_true hc12) zN (lw_nil (wp_seq (c_cond_t rfl (wp_skip (wp_seq (wp_block (wp_seq (wp_plain _ [0, 2, 3, 4] rfl (q_idx (v := ve) i u44 tiS46 rfl rfl hex.rn.isSl rfl sD zN ?_)))))))))
    obtain ⟨cs13, hr13, hl13⟩ := hex.rn.get (good_rEx dex) Ex.zero (k := i) sD
    obtain ⟨dd13, ve13, hd13, rfl, hx13⟩ := RX.of hr13
    have hln13 := hx13.rn.lenle
    unfold maxLen at hln13
    refine q_loadA (p := eptr ve i 5) (.inr rfl) [(.int .i64 ((ex.kids.getD i Ex.zero).kind)), (.int .i64 ((ex.kids.getD i Ex.zero).num)), (.int .i64 ((ex.kids.getD i Ex.zero).pick)), (.int .i64 ((ex.kids.getD i Ex.zero).count)), ve13] agg46 rfl (fun wq9 hw9 => hl13 wq9 (Chg.of_ext [] (hE8.trans hw9))) rfl zN ?_
    have hq15 := hL8_1.lt
    have hq16 := hL8_2.lt
    refine r_allocA (z := .agg #[.int .i64 0, .int .i64 0, .int .i64 0, .int .i64 0, .slice none 0 0]) zr46 zN fun w14 hX14 hz14 hB14 => ?_
    have hzs14 : w8.heap.size ≤ w14.heap.size := hX14.size
    have hE14 : Ext w w14 := hE8.trans hX14
    have hL8_0x14 := hL8_0.ext ((good_owS (good_oEx 46 dex))) hX14
    have hL8_1x14 := hL8_1.ext hX14
    have hL8_2x14 := hL8_2.ext hX14
    replace hB14 : BX w14.heap w8.heap.size [(.int .i64 0), (.int .i64 0), (.int .i64 0), (.int .i64 0), (.slice none 0 0)] := hB14
    refine e_setA (vs := [(.int .i64 ((ex.kids.getD i Ex.zero).kind)), (.int .i64 ((ex.kids.getD i Ex.zero).num)), (.int .i64 ((ex.kids.getD i Ex.zero).pick)), (.int .i64 ((ex.kids.getD i Ex.zero).count)), ve13]) agg46 rfl rfl hx13.ones hB14 rfl rfl zN fun w17 hC17 hz17 hB17 => ?_
    replace hB17 : BX w17.heap w8.heap.size [(.int .i64 ((ex.kids.getD i Ex.zero).kind)), (.int .i64 ((ex.kids.getD i Ex.zero).num)), (.int .i64 ((ex.kids.getD i Ex.zero).pick)), (.int .i64 ((ex.kids.getD i Ex.zero).count)), ve13] := hB17
    have hzs17 : w14.heap.size ≤ w17.heap.size := hC17.size
    have hE17 : Ext w w17 := hC17.below hE14 (fun c hc => by have := List.mem_singleton.1 hc; omega) hE14.size
    have hF18 := hL8_0x14.chg ((good_owS (good_oEx 46 dex))) hC17 (fun c hc => by have := List.mem_singleton.1 hc; omega)
    have hF19 := hL8_1x14.chg hC17 (fun hm => by have := List.mem_singleton.1 hm; omega)
    have hF20 := hL8_2x14.chg hC17 (fun hm => by have := List.mem_singleton.1 hm; omega)
    refine lw_nil (wp_draw _ [0, 1, 1, 3, 3, 4, 0, 4] mixed (by kernel_rfl) ?_)
    have hsa := sizes_at (l := ex.kids) (k := i) oM
    refine q_fldP (p := (.pointer (some ⟨w.heap.size, 0, none⟩))) (b := w.heap.size) (o := 0) 4 fd46_4 rfl rfl zN (q_load (p := (padd (.pointer (some ⟨w.heap.size, 0, none⟩)) 4)) (.inl rfl) vk one44 rfl (hF19.ldp (i := 4) sM) zN (q_loadA (p := (.pointer (some ⟨w8.heap.size, 0, none⟩))) (.inl rfl) [(.int .i64 ((ex.kids.getD i Ex.zero).kind)), (.int .i64 ((ex.kids.getD i Ex.zero).num)), (.int .i64 ((ex.kids.getD i Ex.zero).pick)), (.int .i64 ((ex.kids.getD i Ex.zero).count)), ve13] agg46 rfl (fun wq9 hw9 => LD.of_box (BX.ext (w := w17.drew) hB17 hw9)) rfl zN ?_))
    refine lw_call 123 [] [] [(.agg #[(.int .i64 ((ex.kids.getD i Ex.zero).kind)), (.int .i64 ((ex.kids.getD i Ex.zero).num)), (.int .i64 ((ex.kids.getD i Ex.zero).pick)), (.int .i64 ((ex.kids.getD i Ex.zero).count)), ve13])] rfl rfl cf123 zN (ih dd13 oM _ ve13 (ex.kids.getD i Ex.zero) (hx13.ext hE17.drew) oM) ?_
    rintro e21 w21 ⟨v21, rfl, hX21, hO21, hr21⟩
    refine ⟨_, rfl, hX21, ?_⟩
    replace hX21 := hX21.of_drew
    have hzs21 : w17.heap.size ≤ w21.heap.size := hX21.size
    have hE21 : Ext w w21 := hE17.trans hX21
    have hF18x21 := hF18.ext ((good_owS (good_oEx 46 dex))) hX21
    have hF19x21 := hF19.ext hX21
    have hF20x21 := hF20.ext hX21
    have hB17x21 := hB17.ext hX21
    replace hO21 := hO21.low (B' := w17.heap.size) (Nat.le_refl _)
    refine r_oneS (cs := [(.int .i64 ((ex.kids.getD i Ex.zero).kind)), (.int .i64 ((ex.kids.getD i Ex.zero).num)), (.int .i64 ((ex.kids.getD i Ex.zero).pick)), (.int .i64 ((ex.kids.getD i Ex.zero).count)), v21]) (y := (ex.kids.getD i Ex.zero)) (B := w17.heap.size) (good_oEx 46 dex) u44 tiS46 rfl (by decide) rfl (FrN.le (FrN.mk2 hr21 hO21) oM) oM zN fun v22 w22 hX22 hz22 hO22 => ?_
    have hzs22 : w21.heap.size ≤ w22.heap.size := hX22.size
    have hE22 : Ext w w22 := hE21.trans hX22
    have hF18x22 := hF18x21.ext ((good_owS (good_oEx 46 dex))) hX22
    have hF19x22 := hF19x21.ext hX22
    have hF20x22 := hF20x21.ext hX22
    have hB17x22 := hB17x21.ext hX22
    refine e_appS (v := vk) (a := v22) (good_oEx 46 dex) u44 tiS46 rfl (by decide) rfl rfl hF18x22 oM hO22 oM oM (by rw [List.length_take]; omega) (by rw [List.length_take]; unfold maxLen; omega) zN fun v23 w23 F23 hC23 hF23 hO23 => ?_
    have hzs23 : w22.heap.size ≤ w23.heap.size := hC23.size
    have hE23 : Ext w w23 := hC23.below hE22 (fun c hc => by have := hF23 _ hc; omega) hE22.size
    have hF24 := hF19x22.chg hC23 (fun hm => by have := hF23 _ hm; omega)
    have hF25 := hF20x22.chg hC23 (fun hm => by have := hF23 _ hm; omega)
    have hF26 := hB17x22.chg hC23 (fun hm => by have := hF23 _ hm; omega)
    refine q_fldP (p := (.pointer (some ⟨w.heap.size, 0, none⟩))) (b := w.heap.size) (o := 0) 4 fd46_4 rfl rfl zN (e_setB (k := 4) (w := w23) sz44 rfl rfl (isSl_one hO23.isSlS) hF24 sM zN fun w27 hC27 hz27 hB27 => ?_)
    replace hB27 : BX w27.heap w.heap.size [(.int .i64 ex.kind), (.int .i64 ex.num), (.int .i64 ex.pick), (.int .i64 ex.count), v23] := hB27
    have hzs27 : w23.heap.size ≤ w27.heap.size := hC27.size
    have hE27 : Ext w w27 := hC27.below hE23 (fun c hc => by have := List.mem_singleton.1 hc; omega) hE23.size
    have hF28 := hF25.chg hC27 (fun hm => by have := List.mem_singleton.1 hm; omega)
    have hF29 := hF26.chg hC27 (fun hm => by have := List.mem_singleton.1 hm; omega)
    have hF30 := hO23.chg ((good_owS (good_oEx 46 dex))) hC27 (fun c hc => by have := List.mem_singleton.1 hc; omega)
    exact lw_nil (wp_plain _ [0, 0] rfl (q_add ((i + 1 : Nat) : Int) rfl rfl (w64n oM oM) zN (lw_tvn 1 rfl ⟨((i + 1), v23), _, rfl, ⟨rfl, rfl, rfl, rfl, rfl, trivial⟩, ⟨hE27, (by rw [take_snoc Ex.zero oM]; exact hF30.up (good_owS (good_oEx 46 dex))), hB27, hF28, oM, oM, oM, oM⟩, by first | omega | (dsimp only; omega)⟩)))
  ·
    refine q_lss false rfl rfl (decide_eq_false hc12) zN (lw_nil (wp_seq (c_cond_f rfl (wp_exit (t_exit (t_exit (c_exit_here (wp_seq (wp_plain _ [2, 4] rfl (q_loadA (p := (.pointer (some ⟨w.heap.size, 0, none⟩))) (.inr rfl) [(.int .i64 ex.kind), (.int .i64 ex.num), (.int .i64 ex.pick), (.int .i64 ex.count), vk] agg46 rfl (fun wq9 hw9 => LD.of_box (BX.ext (w := w8) hL8_1 hw9)) rfl zN (e_setA (vs := [(.int .i64 ex.kind), (.int .i64 ex.num), (.int .i64 ex.pick), (.int .i64 ex.count), vk]) agg46 rfl rfl (by intro u hu; simp only [List.mem_cons, List.not_mem_nil, or_false] at hu; rcases hu with rfl | rfl | rfl | rfl | rfl <;> first | exact ⟨rfl, rfl⟩ | exact isSl_one hL8_0.isSlS) hL8_2 rfl rfl zN fun w31 hC31 hz31 hB31 => ?_)))))))))))
    replace hB31 : BX w31.heap w1.heap.size [(.int .i64 ex.kind), (.int .i64 ex.num), (.int .i64 ex.pick), (.int .i64 ex.count), vk] := hB31
    have hzs31 : w8.heap.size ≤ w31.heap.size := hC31.size
    have hE31 : Ext w w31 := hC31.below hE8 (fun c hc => by have := List.mem_singleton.1 hc; omega) hE8.size
    have hF32 := hL8_0.chg ((good_owS (good_oEx 46 dex))) hC31 (fun c hc => by have := List.mem_singleton.1 hc; omega)
    have hF33 := hL8_1.chg hC31 (fun hm => by have := List.mem_singleton.1 hm; omega)
    exact lw_nil (wp_ret (post_retA (cs := [(.int .i64 ex.kind), (.int .i64 ex.num), (.int .i64 ex.pick), (.int .i64 ex.count), vk]) rfl agg46 rfl hB31 rfl ⟨vk, rfl, hE31, (by have h := ((hF32.up (good_owS (good_oEx 46 dex))).low (B' := w.heap.size) oM); rwa [List.take_of_length_le oM] at h), (by exact hex.rng)⟩))
theorem c_impl_cloneProgram (w : World) (dp : Nat) (vp : Value) (p : List Fn) (hp : RP [] dp w.heap vp p) (hz : SzP p) (hpl : p.length ≤ 1000000) :
    Calls Try.prog 87 #[(.agg #[vp])] w (fun e w' => ∃ v, e = .returned (.agg #[v]) ∧ Ext w w' ∧ Fr (owS 3 (oFn 46 dp) 49) w.heap.size w'.heap.size w'.heap v p) := by
  refine calls_mk [(.agg #[vp])] 45 Try.func87 rfl rfl sM ?_
  have hE0 : Ext w w := Ext.refl w
  have hl_vp := hp.lenle
  unfold maxLen at hl_vp
  refine wp_seq (wp_plain _ [3, 3] rfl (r_boxA (cs := #[vp]) rfl zN fun w1 hX1 hz1 hB1 => ?_))
  have hzs1 : w.heap.size ≤ w1.heap.size := hX1.size
  have hE1 : Ext w w1 := hE0.trans hX1
  replace hB1 : BX w1.heap w.heap.size [vp] := hB1
  have hq3 := hB1.lt
  refine r_allocA (z := .agg #[.slice none 0 0]) zr52 zN fun w2 hX2 hz2 hB2 => ?_
  have hzs2 : w1.heap.size ≤ w2.heap.size := hX2.size
  have hE2 : Ext w w2 := hE1.trans hX2
  have hB1x2 := hB1.ext hX2
  replace hB2 : BX w2.heap w1.heap.size [(.slice none 0 0)] := hB2
  refine lw_nil (wp_seq (wp_plain _ [0, 3, 4] rfl ?_))
  have hbd4 : ∀ (wq : World), (Instr.build 52 #[]).run Try.prog wq = .ok (.agg #[(.slice none 0 0)]) wq := by intro wq; kernel_rfl
  refine q_build (ps := #[]) (.agg #[(.slice none 0 0)]) (by simp only [List.map_toArray, List.map_cons, List.map_nil]) (fun wq => hbd4  wq) zN ?_
  have hq6 := hB1x2.lt
  have hq7 := hB2.lt
  refine r_allocA (z := .agg #[.slice none 0 0]) zr52 zN fun w5 hX5 hz5 hB5 => ?_
  have hzs5 : w2.heap.size ≤ w5.heap.size := hX5.size
  have hE5 : Ext w w5 := hE2.trans hX5
  have hB1x5 := hB1x2.ext hX5
  have hB2x5 := hB2.ext hX5
  replace hB5 : BX w5.heap w2.heap.size [(.slice none 0 0)] := hB5
  refine e_setA (vs := [(.slice none 0 0)]) agg52 rfl rfl (by intro u hu; simp only [List.mem_cons, List.not_mem_nil, or_false] at hu; rcases hu with rfl <;> first | exact ⟨rfl, rfl⟩) hB5 rfl rfl zN fun w8 hC8 hz8 hB8 => ?_
  replace hB8 : BX w8.heap w2.heap.size [(.slice none 0 0)] := hB8
  have hzs8 : w5.heap.size ≤ w8.heap.size := hC8.size
  have hE8 : Ext w w8 := hC8.below hE5 (fun c hc => by have := List.mem_singleton.1 hc; omega) hE5.size
  have hF9 := hB1x5.chg hC8 (fun hm => by have := List.mem_singleton.1 hm; omega)
  have hF10 := hB2x5.chg hC8 (fun hm => by have := List.mem_singleton.1 hm; omega)
  refine lw_nil (wp_seq (wp_seq (wp_plain _ [0, 2, 0, 0] rfl (q_fldP (p := (.pointer (some ⟨w.heap.size, 0, none⟩))) (b := w.heap.size) (o := 0) 0 fd52_0 rfl rfl zN (q_load (p := (padd (.pointer (some ⟨w.heap.size, 0, none⟩)) 0)) (.inr rfl) vp one50 rfl (hF9.ldp (i := 0) sM) zN (q_len (v := vp) u50 rfl hp.isSl zN (lw_tvn 1 rfl (wp_block ?_))))))))
  refine c_loop (S := Nat × Value) (fun (⟨i, vq⟩ : Nat × Value) => ([(13, (.int .i64 ((i : Nat) : Int))), (2, (.pointer (some ⟨w1.heap.size, 0, none⟩))), (3, (.pointer (some ⟨w2.heap.size, 0, none⟩))), (11, vp), (12, (.int .i64 ((p.length : Nat) : Int)))] : List (Nat × Value))) (fun (⟨i, vq⟩ : Nat × Value) (W : World) => Ext w W ∧ Fr (owS 3 (oFn 46 dp) 49) w8.heap.size W.heap.size W.heap vq (p.take i) ∧ BX W.heap w1.heap.size [(.slice none 0 0)] ∧ BX W.heap w2.heap.size [vq] ∧ i ≤ p.length ∧ w1.heap.size < w8.heap.size ∧ w2.heap.size < w8.heap.size ∧ w8.heap.size ≤ W.heap.size) (fun (⟨i, vq⟩ : Nat × Value) => p.length - i) (0, (.slice none 0 0)) ⟨rfl, rfl, rfl, rfl, rfl, trivial⟩ ⟨hE8, (frNilS _ 0 _).up (good_owS (good_oFn 46 dp)), hF10, hB8, oM, oM, oM, oM⟩ ?_
  clear hE0 hz1 hX1 hzs1 hE1 hz2 hX2 hzs2 hE2 hz5 hX5 hzs5 hE5 hz8 hC8 hF9 hF10
  rintro ⟨i, vq⟩ ρ13 w13 ⟨hE13, hL13_0, hL13_1, hL13_2, hp13_0, hkg11, hkg12, hkB14⟩
  have hzs13 : w.heap.size ≤ w13.heap.size := hE13.size
  have hq15 := hL13_1.lt
  have hq16 := hL13_2.lt
  refine wp_seq (wp_plain _ [0] rfl ?_)
  by_cases hc17 : ((i : Nat) : Int) < ((p.length : Nat) : Int)
  ·
    refine q_lss true rfl rfl (decide_eq_true hc17) zN (lw_nil (wp_seq (c_cond_t rfl (wp_skip (wp_seq (wp_block (wp_seq (wp_plain _ [0, 2, 3, 4] rfl (q_idx (v := vp) i u50 tiS49 rfl rfl hp.isSl rfl sD zN ?_)))))))))
    obtain ⟨cs18, hr18, hl18⟩ := hp.get (good_rFn dp) Fn.zero (k := i) sD
    obtain ⟨ve18, rfl, hx18⟩ := RF.of hr18
    have hln18 := hx18.rn.lenle
    unfold maxLen at hln18
    refine q_loadA (p := eptr vp i 3) (.inr rfl) [(.string ((p.getD i Fn.zero).name)), (.int .i64 ((p.getD i Fn.zero).params)), ve18] agg49 rfl (fun wq9 hw9 => hl18 wq9 (Chg.of_ext [] (hE13.trans hw9))) rfl zN ?_
    have hq20 := hL13_1.lt
    have hq21 := hL13_2.lt
    refine r_allocA (z := .agg #[.string ByteArray.empty, .int .i64 0, .slice none 0 0]) zr49 zN fun w19 hX19 hz19 hB19 => ?_
    have hzs19 : w13.heap.size ≤ w19.heap.size := hX19.size
    have hE19 : Ext w w19 := hE13.trans hX19
    have hL13_0x19 := hL13_0.ext ((good_owS (good_oFn 46 dp))) hX19
    have hL13_1x19 := hL13_1.ext hX19
    have hL13_2x19 := hL13_2.ext hX19
    replace hB19 : BX w19.heap w13.heap.size [(.string ByteArray.empty), (.int .i64 0), (.slice none 0 0)] := hB19
    refine e_setA (vs := [(.string ((p.getD i Fn.zero).name)), (.int .i64 ((p.getD i Fn.zero).params)), ve18]) agg49 rfl rfl hx18.ones hB19 rfl rfl zN fun w22 hC22 hz22 hB22 => ?_
    replace hB22 : BX w22.heap w13.heap.size [(.string ((p.getD i Fn.zero).name)), (.int .i64 ((p.getD i Fn.zero).params)), ve18] := hB22
    have hzs22 : w19.heap.size ≤ w22.heap.size := hC22.size
    have hE22 : Ext w w22 := hC22.below hE19 (fun c hc => by have := List.mem_singleton.1 hc; omega) hE19.size
    have hF23 := hL13_0x19.chg ((good_owS (good_oFn 46 dp))) hC22 (fun c hc => by have := List.mem_singleton.1 hc; omega)
    have hF24 := hL13_1x19.chg hC22 (fun hm => by have := List.mem_singleton.1 hm; omega)
    have hF25 := hL13_2x19.chg hC22 (fun hm => by have := List.mem_singleton.1 hm; omega)
    refine lw_nil (wp_seq (wp_plain _ [0, 2, 0, 2, 0, 3, 4] rfl (q_fldP (p := (.pointer (some ⟨w13.heap.size, 0, none⟩))) (b := w13.heap.size) (o := 0) 0 fd49_0 rfl rfl zN (q_load (p := (padd (.pointer (some ⟨w13.heap.size, 0, none⟩)) 0)) (.inr rfl) (.string ((p.getD i Fn.zero).name)) one9 rfl (hB22.ldp (i := 0) sM) zN (q_fldP (p := (.pointer (some ⟨w13.heap.size, 0, none⟩))) (b := w13.heap.size) (o := 0) 1 fd49_1 rfl rfl zN (q_load (p := (padd (.pointer (some ⟨w13.heap.size, 0, none⟩)) 1)) (.inr rfl) (.int .i64 ((p.getD i Fn.zero).params)) one2 rfl (hB22.ldp (i := 1) sM) zN ?_))))))
    have hbd26 : ∀ (wq : World), (Instr.build 49 #[(0, (.string ((p.getD i Fn.zero).name))), (1, (.int .i64 ((p.getD i Fn.zero).params)))]).run Try.prog wq = .ok (.agg #[(.string ((p.getD i Fn.zero).name)), (.int .i64 ((p.getD i Fn.zero).params)), (.slice none 0 0)]) wq := by intro wq; kernel_rfl
    refine q_build (ps := #[(0, (.string ((p.getD i Fn.zero).name))), (1, (.int .i64 ((p.getD i Fn.zero).params)))]) (.agg #[(.string ((p.getD i Fn.zero).name)), (.int .i64 ((p.getD i Fn.zero).params)), (.slice none 0 0)]) (by simp only [List.map_toArray, List.map_cons, List.map_nil]; rfl) (fun wq => hbd26  wq) zN ?_
    have hq28 := hF24.lt
    have hq29 := hF25.lt
    have hq30 := hB22.lt
    refine r_allocA (z := .agg #[.string ByteArray.empty, .int .i64 0, .slice none 0 0]) zr49 zN fun w27 hX27 hz27 hB27 => ?_
    have hzs27 : w22.heap.size ≤ w27.heap.size := hX27.size
    have hE27 : Ext w w27 := hE22.trans hX27
    have hF23x27 := hF23.ext ((good_owS (good_oFn 46 dp))) hX27
    have hF24x27 := hF24.ext hX27
    have hF25x27 := hF25.ext hX27
    have hB22x27 := hB22.ext hX27
    replace hB27 : BX w27.heap w22.heap.size [(.string ByteArray.empty), (.int .i64 0), (.slice none 0 0)] := hB27
    refine e_setA (vs := [(.string ((p.getD i Fn.zero).name)), (.int .i64 ((p.getD i Fn.zero).params)), (.slice none 0 0)]) agg49 rfl rfl (by intro u hu; simp only [List.mem_cons, List.not_mem_nil, or_false] at hu; rcases hu with rfl | rfl | rfl <;> first | exact ⟨rfl, rfl⟩) hB27 rfl rfl zN fun w31 hC31 hz31 hB31 => ?_
    replace hB31 : BX w31.heap w22.heap.size [(.string ((p.getD i Fn.zero).name)), (.int .i64 ((p.getD i Fn.zero).params)), (.slice none 0 0)] := hB31
    have hzs31 : w27.heap.size ≤ w31.heap.size := hC31.size
    have hE31 : Ext w w31 := hC31.below hE27 (fun c hc => by have := List.mem_singleton.1 hc; omega) hE27.size
    have hF32 := hF23x27.chg ((good_owS (good_oFn 46 dp))) hC31 (fun c hc => by have := List.mem_singleton.1 hc; omega)
    have hF33 := hF24x27.chg hC31 (fun hm => by have := List.mem_singleton.1 hm; omega)
    have hF34 := hF25x27.chg hC31 (fun hm => by have := List.mem_singleton.1 hm; omega)
    have hF35 := hB22x27.chg hC31 (fun hm => by have := List.mem_singleton.1 hm; omega)
    refine lw_nil (wp_seq (wp_seq (wp_plain _ [0, 2, 0, 0] rfl (q_fldP (p := (.pointer (some ⟨w13.heap.size, 0, none⟩))) (b := w13.heap.size) (o := 0) 2 fd49_2 rfl rfl zN (q_load (p := (padd (.pointer (some ⟨w13.heap.size, 0, none⟩)) 2)) (.inr rfl) ve18 one44 rfl (hF35.ldp (i := 2) sM) zN (q_len (v := ve18) u44 rfl hx18.rn.isSl zN (lw_tvn 1 rfl (wp_block ?_))))))))
    refine c_loop (S := Nat × Value) (fun (⟨k, vo⟩ : Nat × Value) => ([(25, (.int .i64 ((k : Nat) : Int))), (2, (.pointer (some ⟨w1.heap.size, 0, none⟩))), (3, (.pointer (some ⟨w2.heap.size, 0, none⟩))), (6, (.pointer (some ⟨w22.heap.size, 0, none⟩))), (11, vp), (12, (.int .i64 ((p.length : Nat) : Int))), (13, (.int .i64 ((i : Nat) : Int))), (23, ve18), (24, (.int .i64 ((((p.getD i Fn.zero).outs).length : Nat) : Int)))] : List (Nat × Value))) (fun (⟨k, vo⟩ : Nat × Value) (W : World) => Ext w W ∧ Fr (owS 5 (oEx 46 dp) 46) w31.heap.size W.heap.size W.heap vo ((p.getD i Fn.zero).outs.take k) ∧ Fr (owS 3 (oFn 46 dp) 49) w8.heap.size w13.heap.size W.heap vq (p.take i) ∧ BX W.heap w1.heap.size [(.slice none 0 0)] ∧ BX W.heap w2.heap.size [vq] ∧ BX W.heap w22.heap.size [(.string ((p.getD i Fn.zero).name)), (.int .i64 ((p.getD i Fn.zero).params)), vo] ∧ k ≤ (p.getD i Fn.zero).outs.length ∧ w13.heap.size ≤ w31.heap.size ∧ w13.heap.size ≤ w22.heap.size ∧ w.heap.size ≤ w8.heap.size ∧ w1.heap.size < w31.heap.size ∧ w2.heap.size < w31.heap.size ∧ w22.heap.size < w31.heap.size ∧ w31.heap.size ≤ W.heap.size ∧ w8.heap.size ≤ W.heap.size) (fun (⟨k, vo⟩ : Nat × Value) => (p.getD i Fn.zero).outs.length - k) (0, (.slice none 0 0)) ⟨rfl, rfl, rfl, rfl, rfl, rfl, rfl, rfl, rfl, trivial⟩ ⟨hE31, (frNilS _ 0 _).up (good_owS (good_oEx 46 dp)), hF32, hF33, hF34, hB31, oM, oM, oM, oM, oM, oM, oM, oM, oM⟩ ?_
    clear hL13_2 hL13_1 hL13_0 hln18 hz19 hX19 hzs19 hE19 hL13_0x19 hL13_1x19 hL13_2x19 hz22 hC22 hzs22 hE22 hF23 hF24 hF25 hz27 hX27 hzs27 hE27 hF23x27 hF24x27 hF25x27 hz31 hC31 hF32 hF33 hF34 hF35
    rintro ⟨k, vo⟩ ρ39 w39 ⟨hE39, hL39_0, hL39_1, hL39_2, hL39_3, hL39_4, hp39_0, huw, huf, hwb, hkg36, hkg37, hkg38, hkB40, hkB41⟩
    have hzs39 : w.heap.size ≤ w39.heap.size := hE39.size
    have hq42 := hL39_2.lt
    have hq43 := hL39_3.lt
    have hq44 := hL39_4.lt
    refine wp_seq (wp_plain _ [0] rfl ?_)
    have hzi := hz i oM
    by_cases hc45 : ((k : Nat) : Int) < ((((p.getD i Fn.zero).outs).length : Nat) : Int)
    ·
      refine q_lss true rfl rfl (decide_eq_true hc45) zN (lw_nil (wp_seq (c_cond_t rfl (wp_skip (wp_seq (wp_block (wp_seq (wp_plain _ [0, 2, 3, 4] rfl (q_idx (v := ve18) k u44 tiS46 rfl rfl hx18.rn.isSl rfl sD zN ?_)))))))))
      obtain ⟨cs46, hr46, hl46⟩ := hx18.rn.get (good_rEx dp) Ex.zero (k := k) sD
      obtain ⟨dd46, ve46, hd46, rfl, hx46⟩ := RX.of hr46
      have hln46 := hx46.rn.lenle
      unfold maxLen at hln46
      refine q_loadA (p := eptr ve18 k 5) (.inr rfl) [(.int .i64 ((((p.getD i Fn.zero).outs).getD k Ex.zero).kind)), (.int .i64 ((((p.getD i Fn.zero).outs).getD k Ex.zero).num)), (.int .i64 ((((p.getD i Fn.zero).outs).getD k Ex.zero).pick)), (.int .i64 ((((p.getD i Fn.zero).outs).getD k Ex.zero).count)), ve46] agg46 rfl (fun wq9 hw9 => hl46 wq9 (Chg.of_ext [] (hE39.trans hw9))) rfl zN ?_
      have hq48 := hL39_2.lt
      have hq49 := hL39_3.lt
      have hq50 := hL39_4.lt
      refine r_allocA (z := .agg #[.int .i64 0, .int .i64 0, .int .i64 0, .int .i64 0, .slice none 0 0]) zr46 zN fun w47 hX47 hz47 hB47 => ?_
      have hzs47 : w39.heap.size ≤ w47.heap.size := hX47.size
      have hE47 : Ext w w47 := hE39.trans hX47
      have hL39_0x47 := hL39_0.ext ((good_owS (good_oEx 46 dp))) hX47
      have hL39_1x47 := hL39_1.ext ((good_owS (good_oFn 46 dp))) hX47
      have hL39_2x47 := hL39_2.ext hX47
      have hL39_3x47 := hL39_3.ext hX47
      have hL39_4x47 := hL39_4.ext hX47
      replace hB47 : BX w47.heap w39.heap.size [(.int .i64 0), (.int .i64 0), (.int .i64 0), (.int .i64 0), (.slice none 0 0)] := hB47
      refine e_setA (vs := [(.int .i64 ((((p.getD i Fn.zero).outs).getD k Ex.zero).kind)), (.int .i64 ((((p.getD i Fn.zero).outs).getD k Ex.zero).num)), (.int .i64 ((((p.getD i Fn.zero).outs).getD k Ex.zero).pick)), (.int .i64 ((((p.getD i Fn.zero).outs).getD k Ex.zero).count)), ve46]) agg46 rfl rfl hx46.ones hB47 rfl rfl zN fun w51 hC51 hz51 hB51 => ?_
      replace hB51 : BX w51.heap w39.heap.size [(.int .i64 ((((p.getD i Fn.zero).outs).getD k Ex.zero).kind)), (.int .i64 ((((p.getD i Fn.zero).outs).getD k Ex.zero).num)), (.int .i64 ((((p.getD i Fn.zero).outs).getD k Ex.zero).pick)), (.int .i64 ((((p.getD i Fn.zero).outs).getD k Ex.zero).count)), ve46] := hB51
      have hzs51 : w47.heap.size ≤ w51.heap.size := hC51.size
      have hE51 : Ext w w51 := hC51.below hE47 (fun c hc => by have := List.mem_singleton.1 hc; omega) hE47.size
      have hF52 := hL39_0x47.chg ((good_owS (good_oEx 46 dp))) hC51 (fun c hc => by have := List.mem_singleton.1 hc; omega)
      have hF53 := hL39_1x47.chg ((good_owS (good_oFn 46 dp))) hC51 (fun c hc => by have := List.mem_singleton.1 hc; omega)
      have hF54 := hL39_2x47.chg hC51 (fun hm => by have := List.mem_singleton.1 hm; omega)
      have hF55 := hL39_3x47.chg hC51 (fun hm => by have := List.mem_singleton.1 hm; omega)
      have hF56 := hL39_4x47.chg hC51 (fun hm => by have := List.mem_singleton.1 hm; omega)
      refine lw_nil (wp_draw _ [0, 1, 1, 3, 3, 4, 0, 4] mixed (by kernel_rfl) ?_)
      have hzi := hz i oM
      have hsa := sizes_at (l := (p.getD i Fn.zero).outs) (k := k) oM
      refine q_fldP (p := (.pointer (some ⟨w22.heap.size, 0, none⟩))) (b := w22.heap.size) (o := 0) 2 fd49_2 rfl rfl zN (q_load (p := (padd (.pointer (some ⟨w22.heap.size, 0, none⟩)) 2)) (.inl rfl) vo one44 rfl (hF56.ldp (i := 2) sM) zN (q_loadA (p := (.pointer (some ⟨w39.heap.size, 0, none⟩))) (.inl rfl) [(.int .i64 ((((p.getD i Fn.zero).outs).getD k Ex.zero).kind)), (.int .i64 ((((p.getD i Fn.zero).outs).getD k Ex.zero).num)), (.int .i64 ((((p.getD i Fn.zero).outs).getD k Ex.zero).pick)), (.int .i64 ((((p.getD i Fn.zero).outs).getD k Ex.zero).count)), ve46] agg46 rfl (fun wq9 hw9 => LD.of_box (BX.ext (w := w51.drew) hB51 hw9)) rfl zN ?_))
      refine lw_call 123 [] [] [(.agg #[(.int .i64 ((((p.getD i Fn.zero).outs).getD k Ex.zero).kind)), (.int .i64 ((((p.getD i Fn.zero).outs).getD k Ex.zero).num)), (.int .i64 ((((p.getD i Fn.zero).outs).getD k Ex.zero).pick)), (.int .i64 ((((p.getD i Fn.zero).outs).getD k Ex.zero).count)), ve46])] rfl rfl cf123 zN (c_impl_cloneExpr _ dd46 ve46 (((p.getD i Fn.zero).outs).getD k Ex.zero) (hx46.ext hE51.drew) oM) ?_
      rintro e57 w57 ⟨v57, rfl, hX57, hO57, hr57⟩
      refine ⟨_, rfl, hX57, ?_⟩
      replace hX57 := hX57.of_drew
      have hzs57 : w51.heap.size ≤ w57.heap.size := hX57.size
      have hE57 : Ext w w57 := hE51.trans hX57
      have hF52x57 := hF52.ext ((good_owS (good_oEx 46 dp))) hX57
      have hF53x57 := hF53.ext ((good_owS (good_oFn 46 dp))) hX57
      have hF54x57 := hF54.ext hX57
      have hF55x57 := hF55.ext hX57
      have hF56x57 := hF56.ext hX57
      have hB51x57 := hB51.ext hX57
      replace hO57 := hO57.low (B' := w51.heap.size) (Nat.le_refl _)
      refine r_oneS (cs := [(.int .i64 ((((p.getD i Fn.zero).outs).getD k Ex.zero).kind)), (.int .i64 ((((p.getD i Fn.zero).outs).getD k Ex.zero).num)), (.int .i64 ((((p.getD i Fn.zero).outs).getD k Ex.zero).pick)), (.int .i64 ((((p.getD i Fn.zero).outs).getD k Ex.zero).count)), v57]) (y := (((p.getD i Fn.zero).outs).getD k Ex.zero)) (B := w51.heap.size) (good_oEx 46 dp) u44 tiS46 rfl (by decide) rfl (FrN.le (FrN.mk2 hr57 hO57) oM) oM zN fun v58 w58 hX58 hz58 hO58 => ?_
      have hzs58 : w57.heap.size ≤ w58.heap.size := hX58.size
      have hE58 : Ext w w58 := hE57.trans hX58
      have hF52x58 := hF52x57.ext ((good_owS (good_oEx 46 dp))) hX58
      have hF53x58 := hF53x57.ext ((good_owS (good_oFn 46 dp))) hX58
      have hF54x58 := hF54x57.ext hX58
      have hF55x58 := hF55x57.ext hX58
      have hF56x58 := hF56x57.ext hX58
      have hB51x58 := hB51x57.ext hX58
      refine e_appS (v := vo) (a := v58) (good_oEx 46 dp) u44 tiS46 rfl (by decide) rfl rfl hF52x58 oM hO58 oM oM (by rw [List.length_take]; omega) (by rw [List.length_take]; unfold maxLen; omega) zN fun v59 w59 F59 hC59 hF59 hO59 => ?_
      have hzs59 : w58.heap.size ≤ w59.heap.size := hC59.size
      have hE59 : Ext w w59 := hC59.below hE58 (fun c hc => by have := hF59 _ hc; omega) hE58.size
      have hF60 := hF53x58.chg ((good_owS (good_oFn 46 dp))) hC59 (fun c hc => by have := hF59 _ hc; omega)
      have hF61 := hF54x58.chg hC59 (fun hm => by have := hF59 _ hm; omega)
      have hF62 := hF55x58.chg hC59 (fun hm => by have := hF59 _ hm; omega)
      have hF63 := hF56x58.chg hC59 (fun hm => by have := hF59 _ hm; omega)
      have hF64 := hB51x58.chg hC59 (fun hm => by have := hF59 _ hm; omega)
      refine q_fldP (p := (.pointer (some ⟨w22.heap.size, 0, none⟩))) (b := w22.heap.size) (o := 0) 2 fd49_2 rfl rfl zN (e_setB (k := 2) (w := w59) sz44 rfl rfl (isSl_one hO59.isSlS) hF63 sM zN fun w65 hC65 hz65 hB65 => ?_)
      replace hB65 : BX w65.heap w22.heap.size [(.string ((p.getD i Fn.zero).name)), (.int .i64 ((p.getD i Fn.zero).params)), v59] := hB65
      have hzs65 : w59.heap.size ≤ w65.heap.size := hC65.size
      have hE65 : Ext w w65 := hC65.below hE59 (fun c hc => by have := List.mem_singleton.1 hc; omega) hE59.size
      have hF66 := hF60.chg ((good_owS (good_oFn 46 dp))) hC65 (fun c hc => by have := List.mem_singleton.1 hc; omega)
      have hF67 := hF61.chg hC65 (fun hm => by have := List.mem_singleton.1 hm; omega)
      have hF68 := hF62.chg hC65 (fun hm => by have := List.mem_singleton.1 hm; omega)
      have hF69 := hF64.chg hC65 (fun hm => by have := List.mem_singleton.1 hm; omega)
      have hF70 := hO59.chg ((good_owS (good_oEx 46 dp))) hC65 (fun c hc => by have := List.mem_singleton.1 hc; omega)
      exact lw_nil (wp_plain _ [0, 0] rfl (q_add ((k + 1 : Nat) : Int) rfl rfl (w64n oM oM) zN (lw_tvn 1 rfl ⟨((k + 1), v59), _, rfl, ⟨rfl, rfl, rfl, rfl, rfl, rfl, rfl, rfl, rfl, trivial⟩, ⟨hE65, (by rw [take_snoc Ex.zero oM]; exact hF70.up (good_owS (good_oEx 46 dp))), hF66, hF67, hF68, hB65, oM, oM, oM, oM, oM, oM, oM, oM, oM⟩, by first | omega | (dsimp only; omega)⟩)))
    ·
      refine q_lss false rfl rfl (decide_eq_false hc45) zN (lw_nil (wp_seq (c_cond_f rfl (wp_exit (t_exit (t_exit (c_exit_here (wp_plain _ [0, 2, 2, 3, 4, 0, 4] rfl (q_fldP (p := (.pointer (some ⟨w2.heap.size, 0, none⟩))) (b := w2.heap.size) (o := 0) 0 fd52_0 rfl rfl zN (q_load (p := (padd (.pointer (some ⟨w2.heap.size, 0, none⟩)) 0)) (.inr rfl) vq one50 rfl (hL39_3.ldp (i := 0) sM) zN (q_loadA (p := (.pointer (some ⟨w22.heap.size, 0, none⟩))) (.inr rfl) [(.string ((p.getD i Fn.zero).name)), (.int .i64 ((p.getD i Fn.zero).params)), vo] agg49 rfl (fun wq9 hw9 => LD.of_box (BX.ext (w := w39) hL39_4 hw9)) rfl zN ?_)))))))))))
      refine r_oneS (cs := [(.string ((p.getD i Fn.zero).name)), (.int .i64 ((p.getD i Fn.zero).params)), vo]) (y := (Fn.mk ((p.getD i Fn.zero).name) ((p.getD i Fn.zero).params) ((p.getD i Fn.zero).outs.take k))) (B := w31.heap.size) (good_oFn 46 dp) u50 tiS49 rfl (by decide) rfl (FrN.mkF (x := ⟨((p.getD i Fn.zero).name), ((p.getD i Fn.zero).params), ((p.getD i Fn.zero).outs.take k)⟩) (i64_mk (a := ((p.getD i Fn.zero).params)) hx18.rng) hL39_0) oM zN fun v71 w71 hX71 hz71 hO71 => ?_
      have hzs71 : w39.heap.size ≤ w71.heap.size := hX71.size
      have hE71 : Ext w w71 := hE39.trans hX71
      have hL39_1x71 := hL39_1.ext ((good_owS (good_oFn 46 dp))) hX71
      have hL39_2x71 := hL39_2.ext hX71
      have hL39_3x71 := hL39_3.ext hX71
      have hL39_4x71 := hL39_4.ext hX71
      refine e_appS (v := vq) (a := v71) (good_oFn 46 dp) u50 tiS49 rfl (by decide) rfl rfl hL39_1x71 oM hO71 oM oM (by rw [List.length_take]; omega) (by rw [List.length_take]; unfold maxLen; omega) zN fun v72 w72 F72 hC72 hF72 hO72 => ?_
      have hzs72 : w71.heap.size ≤ w72.heap.size := hC72.size
      have hE72 : Ext w w72 := hC72.below hE71 (fun c hc => by have := hF72 _ hc; omega) hE71.size
      have hF73 := hL39_2x71.chg hC72 (fun hm => by have := hF72 _ hm; omega)
      have hF74 := hL39_3x71.chg hC72 (fun hm => by have := hF72 _ hm; omega)
      have hF75 := hL39_4x71.chg hC72 (fun hm => by have := hF72 _ hm; omega)
      refine q_fldP (p := (.pointer (some ⟨w2.heap.size, 0, none⟩))) (b := w2.heap.size) (o := 0) 0 fd52_0 rfl rfl zN (e_setB (k := 0) (w := w72) sz50 rfl rfl (isSl_one hO72.isSlS) hF74 sM zN fun w76 hC76 hz76 hB76 => ?_)
      replace hB76 : BX w76.heap w2.heap.size [v72] := hB76
      have hzs76 : w72.heap.size ≤ w76.heap.size := hC76.size
      have hE76 : Ext w w76 := hC76.below hE72 (fun c hc => by have := List.mem_singleton.1 hc; omega) hE72.size
      have hF77 := hF73.chg hC76 (fun hm => by have := List.mem_singleton.1 hm; omega)
      have hF78 := hF75.chg hC76 (fun hm => by have := List.mem_singleton.1 hm; omega)
      have hF79 := hO72.chg ((good_owS (good_oFn 46 dp))) hC76 (fun c hc => by have := List.mem_singleton.1 hc; omega)
      exact lw_nil (wp_plain _ [0, 0] rfl (q_add ((i + 1 : Nat) : Int) rfl rfl (w64n oM oM) zN (lw_tvn 1 rfl ⟨((i + 1), v72), _, rfl, ⟨rfl, rfl, rfl, rfl, rfl, trivial⟩, ⟨hE76, (by have h := hF79.up (good_owS (good_oFn 46 dp)); rw [show (p.getD i Fn.zero).outs.take k = (p.getD i Fn.zero).outs from List.take_of_length_le oM] at h; rw [take_snoc Fn.zero oM]; exact h), hF77, hB76, oM, oM, oM, oM⟩, by first | omega | (dsimp only; omega)⟩)))
  ·
    refine q_lss false rfl rfl (decide_eq_false hc17) zN (lw_nil (wp_seq (c_cond_f rfl (wp_exit (t_exit (t_exit (c_exit_here (wp_seq (wp_plain _ [2, 4] rfl (q_loadA (p := (.pointer (some ⟨w2.heap.size, 0, none⟩))) (.inr rfl) [vq] agg52 rfl (fun wq9 hw9 => LD.of_box (BX.ext (w := w13) hL13_2 hw9)) rfl zN (e_setA (vs := [vq]) agg52 rfl rfl (by intro u hu; simp only [List.mem_cons, List.not_mem_nil, or_false] at hu; rcases hu with rfl <;> first | exact ⟨rfl, rfl⟩ | exact isSl_one hL13_0.isSlS) hL13_1 rfl rfl zN fun w80 hC80 hz80 hB80 => ?_)))))))))))
    replace hB80 : BX w80.heap w1.heap.size [vq] := hB80
    have hzs80 : w13.heap.size ≤ w80.heap.size := hC80.size
    have hE80 : Ext w w80 := hC80.below hE13 (fun c hc => by have := List.mem_singleton.1 hc; omega) hE13.size
    have hF81 := hL13_0.chg ((good_owS (good_oFn 46 dp))) hC80 (fun c hc => by have := List.mem_singleton.1 hc; omega)
    have hF82 := hL13_2.chg hC80 (fun hm => by have := List.mem_singleton.1 hm; omega)
    exact lw_nil (wp_ret (post_retA (cs := [vq]) rfl agg52 rfl hB80 rfl ⟨vq, rfl, hE80, (by have h := ((hF81.up (good_owS (good_oFn 46 dp))).low (B' := w.heap.size) oM); rwa [List.take_of_length_le oM] at h)⟩))
theorem c_impl_variable (w : World) (n : Int) (_hn : -9223372036854775808 ≤ n ∧ n ≤ 9223372036854775807)  :
    Calls Try.prog 86 #[.int .i64 n] w (fun e w' => e = .returned (.agg #[.int .i64 2, .int .i64 n, .int .i64 0, .int .i64 0, .slice none 0 0]) ∧ Ext w w') := by
  refine calls_mk [.int .i64 n] 5 Try.func86 rfl rfl sM ?_
  have hE0 : Ext w w := Ext.refl w
  refine wp_seq (wp_plain _ [3] rfl (r_allocA (z := .agg #[.int .i64 0, .int .i64 0, .int .i64 0, .int .i64 0, .slice none 0 0]) zr46 zN fun w1 hX1 hz1 hB1 => ?_))
  have hzs1 : w.heap.size ≤ w1.heap.size := hX1.size
  have hE1 : Ext w w1 := hE0.trans hX1
  replace hB1 : BX w1.heap w.heap.size [(.int .i64 0), (.int .i64 0), (.int .i64 0), (.int .i64 0), (.slice none 0 0)] := hB1
  refine lw_nil (wp_seq (wp_plain _ [0, 0, 4] rfl (lw_tv 1 rfl ?_)))
  have hbd2 : ∀ (wq : World), (Instr.build 46 #[(0, (.int .i64 ((2 : Nat) : Int))), (1, (.int .i64 n))]).run Try.prog wq = .ok (.agg #[(.int .i64 ((2 : Nat) : Int)), (.int .i64 n), (.int .i64 0), (.int .i64 0), (.slice none 0 0)]) wq := by intro wq; kernel_rfl
  refine q_build (ps := #[(0, (.int .i64 ((2 : Nat) : Int))), (1, (.int .i64 n))]) (.agg #[(.int .i64 ((2 : Nat) : Int)), (.int .i64 n), (.int .i64 0), (.int .i64 0), (.slice none 0 0)]) (by simp only [List.map_toArray, List.map_cons, List.map_nil]; rfl) (fun wq => hbd2  wq) zN (e_setA (vs := [(.int .i64 ((2 : Nat) : Int)), (.int .i64 n), (.int .i64 0), (.int .i64 0), (.slice none 0 0)]) agg46 rfl rfl (by intro u hu; simp only [List.mem_cons, List.not_mem_nil, or_false] at hu; rcases hu with rfl | rfl | rfl | rfl | rfl <;> first | exact ⟨rfl, rfl⟩) hB1 rfl rfl zN fun w3 hC3 hz3 hB3 => ?_)
  replace hB3 : BX w3.heap w.heap.size [(.int .i64 ((2 : Nat) : Int)), (.int .i64 n), (.int .i64 0), (.int .i64 0), (.slice none 0 0)] := hB3
  have hzs3 : w1.heap.size ≤ w3.heap.size := hC3.size
  have hE3 : Ext w w3 := hC3.below hE1 (fun c hc => by have := List.mem_singleton.1 hc; omega) hE1.size
  exact lw_nil (wp_ret (post_retA (cs := [(.int .i64 ((2 : Nat) : Int)), (.int .i64 n), (.int .i64 0), (.int .i64 0), (.slice none 0 0)]) rfl agg46 rfl hB3 rfl ⟨rfl, hE3⟩))
theorem c_impl_WithLoop_1 (w : World) (dx : Nat) (vo : Value) (x : Fn) (hx : RF [] dx w.heap vo x)  :
    Calls Try.prog 85 #[(.agg #[(.string x.name), (.int .i64 x.params), vo])] w (fun e w' => e = .returned (.bool (strE x.name (⟨#[108, 111, 111, 112]⟩ : ByteArray))) ∧ Ext w w') := by
  refine calls_mk [(.agg #[(.string x.name), (.int .i64 x.params), vo])] 6 Try.func85 rfl rfl sM ?_
  have hE0 : Ext w w := Ext.refl w
  have hl_vo := hx.rn.lenle
  unfold maxLen at hl_vo
  refine wp_seq (wp_plain _ [3, 0] rfl (r_boxA (cs := #[(.string x.name), (.int .i64 x.params), vo]) rfl zN fun w1 hX1 hz1 hB1 => ?_))
  have hzs1 : w.heap.size ≤ w1.heap.size := hX1.size
  have hE1 : Ext w w1 := hE0.trans hX1
  replace hB1 : BX w1.heap w.heap.size [(.string x.name), (.int .i64 x.params), vo] := hB1
  exact lw_tvn 1 rfl (wp_seq (wp_plain _ [0, 2, 0, 0] rfl (q_fldP (p := (.pointer (some ⟨w.heap.size, 0, none⟩))) (b := w.heap.size) (o := 0) 0 fd49_0 rfl rfl zN (q_load (p := (padd (.pointer (some ⟨w.heap.size, 0, none⟩)) 0)) (.inr rfl) (.string x.name) one9 rfl (hB1.ldp (i := 0) sM) zN (q_eqls (strE x.name (⟨#[108, 111, 111, 112]⟩)) u9 rfl rfl rfl zN (lw_tvn 1 rfl (wp_ret (post_ret [2] rfl (.bool (strE x.name (⟨#[108, 111, 111, 112]⟩))) rfl ⟨rfl, hE1⟩))))))))
theorem z33_0 {p : Prop} (h : p := by intro u hu; simp only [List.mem_cons, List.not_mem_nil, or_false] at hu; rcases hu with rfl | rfl | rfl | rfl | rfl <;> first | exact ⟨rfl, rfl⟩) : p := h
theorem z33_1 {p : Prop} (h : p := by intro u hu; simp only [List.mem_cons, List.not_mem_nil, or_false] at hu; rcases hu with rfl | rfl | rfl <;> first | exact ⟨rfl, rfl⟩) : p := h
theorem z33_2 {p : Prop} (h : p := by intro u hu; simp only [List.mem_cons, List.not_mem_nil, or_false] at hu; rcases hu with rfl <;> first | exact ⟨rfl, rfl⟩) : p := h
theorem z33_3 {p : Prop} (h : p := by simp only [List.map_toArray, List.map_cons, List.map_nil]; rfl) : p := h
theorem z33_4 {p : Prop} (h : p := by simp only [List.map_toArray, List.map_cons, List.map_nil]) : p := h
theorem z33_5 {p : Prop} (h : p := by rw [wlR_n (by rw [hcd]; omega)]; exact frNilS _ _ _) : p := h
theorem z33_6 {p : Prop} (h : p := by assumption) : p := h
theorem z33_7 {p : Prop} (h : p := by decide) : p := h
theorem c_impl_WithLoop (w : World) (dp : Nat) (vp : Value) (p : List Fn) (f : Int) (n : Int) (hp : RP [] dp w.heap vp p) (_hf : -9223372036854775808 ≤ f ∧ f ≤ 9223372036854775807) (_hn : -9223372036854775808 ≤ n ∧ n ≤ 9223372036854775807) (hz : SzP p) (hdp : 2 ≤ dp) :
    Calls Try.prog 33 #[(.agg #[vp]), .int .i64 f, .int .i64 n] w (fun e w' => ∃ v, e = .returned (.tuple #[.agg #[v], .int .i64 (wlC p f n)]) ∧ Ext w w' ∧ Fr (owS 3 (oFn 46 dp) 49) w.heap.size w'.heap.size w'.heap v (wlR p f n)) := by
  refine calls_mk [(.agg #[vp]), .int .i64 f, .int .i64 n] 86 Try.func33 rfl rfl sM ?_
  have hE0 : Ext w w := Ext.refl w
  have hl_vp := hp.lenle
  unfold maxLen at hl_vp
  refine wp_seq (wp_plain _ [3, 3, 0] rfl (r_boxA (cs := #[vp]) rfl zN fun w1 hX1 hz1 hB1 => ?_))
  have hzs1 : w.heap.size ≤ w1.heap.size := hX1.size
  have hE1 : Ext w w1 := hE0.trans hX1
  replace hB1 : BX w1.heap w.heap.size [vp] := hB1
  have hq3 := hB1.lt
  refine r_allocA (z := .agg #[.slice none 0 0]) zr52 zN fun w2 hX2 hz2 hB2 => ?_
  have hzs2 : w1.heap.size ≤ w2.heap.size := hX2.size
  have hE2 : Ext w w2 := hE1.trans hX2
  have hB1x2 := hB1.ext hX2
  replace hB2 : BX w2.heap w1.heap.size [(.slice none 0 0)] := hB2
  refine lw_tvn 1 rfl (wp_seq (wp_plain _ [2, 0, 3, 0] rfl ?_))
  have hnl4 : RN [] (rdL (rdL rI)) w2.heap (.slice none 0 0) ([] : List Sr) := rn_nil2
  have hnc4 : CapS (.slice none 0 0) := Nat.le_refl _
  refine q_loadA (p := (.pointer (some ⟨w.heap.size, 0, none⟩))) (.inr rfl) [vp] agg52 rfl (fun wq9 hw9 => LD.of_box (BX.ext (w := w2) hB1x2 hw9)) rfl zN (lw_tv 1 rfl (lw_call 82 [] [] [(.agg #[vp]), (.int .i64 f), (.slice none 0 0)] rfl rfl cf82 zN (c_impl_isChained _ dp vp (p) _ (.slice none 0 0) (([] : List Sr)) (hp.ext (good_rdS (good_rFn dp)) hE2) _hf hnl4 hnc4 (by exact hz)) ?_))
  rintro e5 w5 ⟨rfl, hX5⟩
  refine ⟨_, rfl, hX5, ?_⟩
  have hzs5 : w2.heap.size ≤ w5.heap.size := hX5.size
  have hE5 : Ext w w5 := hE2.trans hX5
  have hB1x5 := hB1x2.ext hX5
  have hB2x5 := hB2.ext hX5
  have hN6 := hnl4.ext g2 hX5
  refine lw_tvn 1 rfl (wp_seq (wp_seq (wp_plain _ [0, 0, 0, 0, 0, 0, 0] rfl ?_)))
  have hcr := chC_rng p f []
  refine lw_tv 1 rfl ?_
  by_cases hc7 : chC p f ([] : List Sr) = ((0 : Nat) : Int)
  ·
    refine q_eql true rfl rfl (decide_eq_true hc7) zN (lw_tv 2 rfl (lw_callq 83 [] [] [(.int .i64 n), (.int .i64 ((0 : Nat) : Int)), (.int .i64 ((8 : Nat) : Int))] rfl rfl cf83 (zS (e := 19) rfl rfl rfl) (.bool (decide (((0 : Nat) : Int) ≤ n) && decide (n ≤ ((8 : Nat) : Int)))) (fun wq => c_impl_within wq _ _ _ _hn oM oM) (q_not (!(decide (((0 : Nat) : Int) ≤ n) && decide (n ≤ ((8 : Nat) : Int)))) rfl rfl (zS (e := 19) rfl rfl rfl) (lw_tvn 1 rfl ?_))))
    cases hb9 : (!(decide (((0 : Nat) : Int) ≤ n) && decide (n ≤ ((8 : Nat) : Int))))
    ·
      refine c_cond_f (by first | rfl | (show Value.bool _ = _; rw [hb9])) (wp_skip (wp_seq (wp_seq (wp_plain _ [0, 0] rfl (lw_tv 1 rfl ?_)))))
      by_cases hc10 : chC p f ([] : List Sr) ≠ ((0 : Nat) : Int)
      ·
        refine q_neq true rfl rfl (decide_eq_true hc10) zN (lw_nil (c_cond_t rfl (wp_seq (wp_plain _ [0, 0, 4, 0] rfl ?_))))
        have hbd11 : ∀ (wq : World), (Instr.build 52 #[]).run Try.prog wq = .ok (.agg #[(.slice none 0 0)]) wq := by intro wq; kernel_rfl
        refine q_build (ps := #[]) (.agg #[(.slice none 0 0)]) z33_4 (fun wq => hbd11  wq) zN (lw_tv 1 rfl (e_setA (vs := [(.slice none 0 0)]) agg52 rfl rfl z33_2 hB2x5 rfl rfl zN fun w12 hC12 hz12 hB12 => ?_))
        replace hB12 : BX w12.heap w1.heap.size [(.slice none 0 0)] := hB12
        have hzs12 : w5.heap.size ≤ w12.heap.size := hC12.size
        have hE12 : Ext w w12 := hC12.below hE5 (fun c hc => by have := List.mem_singleton.1 hc; omega) hE5.size
        have hF13 := hB1x5.chg hC12 (fun hm => by have := List.mem_singleton.1 hm; omega)
        refine lw_tvn 1 rfl (wp_ret (t_ret ?_))
        have hcd : wlC p f n = chC p f ([] : List Sr) := by first | exact wlC_4 hg0 z33_6 | exact wlC_3 hg0 z33_6 (bn_t z33_6) | exact wlC_3 hg0 z33_6 z33_6 | exact wlC_t hg0 z33_6 (bn_f z33_6) | exact wlC_t hg0 z33_6 z33_6 | exact wlC_b oM (bn_t z33_6) | exact wlC_a oM
        exact post_retC (t0 := 7) (ts := []) (cs := [(.slice none 0 0)]) [(.int .i64 (chC p f ([] : List Sr)))] rfl agg52 rfl hB12 rfl rfl ⟨_, by rw [hcd], hE12, z33_5⟩
      ·
        refine q_neq false rfl rfl (decide_eq_false hc10) zN (lw_nil (c_cond_f rfl (wp_skip (wp_seq (wp_seq (wp_plain _ [0, 2, 3] rfl ?_))))))
        have hg0 : wlA p f n = 0 := by first | exact wlA_t oM (bn_f z33_6) | (exfalso; omega)
        have hq0 := wlA_0 hg0
        have hq1 := rnF_iff.1 hq0.2.1
        have hvp := okP_vpr hq0.1
        have hpl := okP_len hq0.1
        have hpar := hvp.par f.toNat oM
        have hou := hvp.outs f.toNat oM
        have hft : ((f.toNat : Nat) : Int) = f := by omega
        have hnt : ((n.toNat : Nat) : Int) = n := by omega
        have hszx := hz.lp (n := n) hvp (f := f) oM
        refine q_fldP (p := (.pointer (some ⟨w.heap.size, 0, none⟩))) (b := w.heap.size) (o := 0) 0 fd52_0 rfl rfl zN (q_load (p := (padd (.pointer (some ⟨w.heap.size, 0, none⟩)) 0)) (.inr rfl) vp one50 rfl (hB1x5.ldp (i := 0) sM) zN (lw_call 84 [] [] [vp, (.func (.func 85) #[] #[])] rfl rfl cf84 zN (c_slices_ContainsFunc___impl_Func_impl_Func_ _ dp vp (p) 85 [] [] (fun g : Fn => strE g.name (⟨#[108, 111, 111, 112]⟩ : ByteArray)) (hp.ext (good_rdS (good_rFn dp)) hE5) cf85 (fun d9 u x w1 hx hw => c_impl_WithLoop_1 w1 d9 u x hx)) ?_))
        rintro e14 w14 ⟨rfl, hX14⟩
        refine ⟨_, rfl, hX14, ?_⟩
        have hzs14 : w5.heap.size ≤ w14.heap.size := hX14.size
        have hE14 : Ext w w14 := hE5.trans hX14
        have hB1x14 := hB1x5.ext hX14
        have hB2x14 := hB2x5.ext hX14
        refine lw_nil ?_
        cases hb15 : (p.any (fun g : Fn => strE g.name (⟨#[108, 111, 111, 112]⟩ : ByteArray)))
        ·
          refine c_cond_f (by first | rfl | (show Value.bool _ = _; rw [hb15])) (wp_skip (wp_seq (wp_plain _ [0, 2, 0, 0, 0, 2, 0, 3, 4] rfl (q_fldP (p := (.pointer (some ⟨w.heap.size, 0, none⟩))) (b := w.heap.size) (o := 0) 0 fd52_0 rfl rfl zN (q_load (p := (padd (.pointer (some ⟨w.heap.size, 0, none⟩)) 0)) (.inr rfl) vp one50 rfl (hB1x14.ldp (i := 0) sM) zN (lw_tv 1 rfl (q_idx (v := vp) ((f).toNat) u50 tiS49 rfl rfl hp.isSl oM sD zN ?_)))))))
          obtain ⟨cs16, hr16, hl16⟩ := hp.get (good_rFn dp) Fn.zero (k := ((f).toNat)) sD
          obtain ⟨ve16, rfl, hx16⟩ := RF.of hr16
          have hln16 := hx16.rn.lenle
          unfold maxLen at hln16
          refine q_fldL (p := eptr vp ((f).toNat) 3) 1 fd49_1 rfl (hl16 _ (Chg.of_ext [] hE14)) zN (q_load (p := (padd (eptr vp ((f).toNat) 3) 1)) (.inr rfl) (.int .i64 ((p.getD ((f).toNat) Fn.zero).params)) one2 rfl ((hl16 _ (Chg.of_ext [] hE14)).ld (i := 1) (by simp [exC, fnC])) zN ?_)
          have hbd17 : ∀ (wq : World), (Instr.build 49 #[(0, (.string (⟨#[108, 111, 111, 112]⟩))), (1, (.int .i64 ((p.getD ((f).toNat) Fn.zero).params)))]).run Try.prog wq = .ok (.agg #[(.string (⟨#[108, 111, 111, 112]⟩)), (.int .i64 ((p.getD ((f).toNat) Fn.zero).params)), (.slice none 0 0)]) wq := by intro wq; kernel_rfl
          refine q_build (ps := #[(0, (.string (⟨#[108, 111, 111, 112]⟩))), (1, (.int .i64 ((p.getD ((f).toNat) Fn.zero).params)))]) (.agg #[(.string (⟨#[108, 111, 111, 112]⟩)), (.int .i64 ((p.getD ((f).toNat) Fn.zero).params)), (.slice none 0 0)]) z33_3 (fun wq => hbd17  wq) zN ?_
          have hq19 := hB1x14.lt
          have hq20 := hB2x14.lt
          refine r_allocA (z := .agg #[.string ByteArray.empty, .int .i64 0, .slice none 0 0]) zr49 zN fun w18 hX18 hz18 hB18 => ?_
          have hzs18 : w14.heap.size ≤ w18.heap.size := hX18.size
          have hE18 : Ext w w18 := hE14.trans hX18
          have hB1x18 := hB1x14.ext hX18
          have hB2x18 := hB2x14.ext hX18
          replace hB18 : BX w18.heap w14.heap.size [(.string ByteArray.empty), (.int .i64 0), (.slice none 0 0)] := hB18
          refine e_setA (vs := [(.string (⟨#[108, 111, 111, 112]⟩)), (.int .i64 ((p.getD ((f).toNat) Fn.zero).params)), (.slice none 0 0)]) agg49 rfl rfl z33_1 hB18 rfl rfl zN fun w21 hC21 hz21 hB21 => ?_
          replace hB21 : BX w21.heap w14.heap.size [(.string (⟨#[108, 111, 111, 112]⟩)), (.int .i64 ((p.getD ((f).toNat) Fn.zero).params)), (.slice none 0 0)] := hB21
          have hzs21 : w18.heap.size ≤ w21.heap.size := hC21.size
          have hE21 : Ext w w21 := hC21.below hE18 (fun c hc => by have := List.mem_singleton.1 hc; omega) hE18.size
          have hF22 := hB1x18.chg hC21 (fun hm => by have := List.mem_singleton.1 hm; omega)
          have hF23 := hB2x18.chg hC21 (fun hm => by have := List.mem_singleton.1 hm; omega)
          refine lw_nil (wp_seq (wp_seq (wp_plain _ [0, 2, 0, 0, 0, 2, 0, 0] rfl (q_fldP (p := (.pointer (some ⟨w.heap.size, 0, none⟩))) (b := w.heap.size) (o := 0) 0 fd52_0 rfl rfl zN (q_load (p := (padd (.pointer (some ⟨w.heap.size, 0, none⟩)) 0)) (.inr rfl) vp one50 rfl (hF22.ldp (i := 0) sM) zN (lw_tv 1 rfl (q_idx (v := vp) ((f).toNat) u50 tiS49 rfl rfl hp.isSl oM sD zN ?_)))))))
          refine q_fldL (p := eptr vp ((f).toNat) 3) 2 fd49_2 rfl (hl16 _ (Chg.of_ext [] hE21)) zN (q_load (p := (padd (eptr vp ((f).toNat) 3) 2)) (.inr rfl) ve16 one44 rfl ((hl16 _ (Chg.of_ext [] hE21)).ld (i := 2) (by simp [exC, fnC])) zN (q_len (v := ve16) u44 rfl hx16.rn.isSl zN (lw_tvn 1 rfl (wp_block ?_))))
          refine c_loop (S := Nat × Value) (fun (⟨k, vo⟩ : Nat × Value) => ([(46, (.int .i64 ((k : Nat) : Int))), (1, (.int .i64 f)), (2, (.int .i64 n)), (3, (.pointer (some ⟨w.heap.size, 0, none⟩))), (6, (.pointer (some ⟨w1.heap.size, 0, none⟩))), (9, (.pointer (some ⟨w14.heap.size, 0, none⟩))), (45, (.int .i64 ((((p.getD ((f).toNat) Fn.zero).outs).length : Nat) : Int)))] : List (Nat × Value))) (fun (⟨k, vo⟩ : Nat × Value) (W : World) => Ext w W ∧ Fr (owS 5 (oEx 46 dp) 46) w21.heap.size W.heap.size W.heap vo (loopL f.toNat (p.getD f.toNat Fn.zero).params.toNat n.toNat 0 k) ∧ BX W.heap w.heap.size [vp] ∧ BX W.heap w1.heap.size [(.slice none 0 0)] ∧ BX W.heap w14.heap.size [(.string (⟨#[108, 111, 111, 112]⟩)), (.int .i64 ((p.getD ((f).toNat) Fn.zero).params)), vo] ∧ k ≤ (p.getD f.toNat Fn.zero).outs.length ∧ w.heap.size < w21.heap.size ∧ w1.heap.size < w21.heap.size ∧ w14.heap.size < w21.heap.size ∧ w21.heap.size ≤ W.heap.size) (fun (⟨k, vo⟩ : Nat × Value) => (p.getD f.toNat Fn.zero).outs.length - k) (0, (.slice none 0 0)) ⟨rfl, rfl, rfl, rfl, rfl, rfl, rfl, trivial⟩ ⟨hE21, (frNilS _ 0 _).up (good_owS (good_oEx 46 dp)), hF22, hF23, hB21, oM, oM, oM, oM, oM⟩ ?_
          clear hE0 hz1 hX1 hzs1 hE1 hz2 hX2 hzs2 hE2 hX5 hzs5 hE5 hX14 hzs14 hE14 hln16 hz18 hX18 hzs18 hE18 hz21 hC21 hF22 hF23
          rintro ⟨k, vo⟩ ρ27 w27 ⟨hE27, hL27_0, hL27_1, hL27_2, hL27_3, hp27_0, hkg24, hkg25, hkg26, hkB28⟩
          have hzs27 : w.heap.size ≤ w27.heap.size := hE27.size
          have hq29 := hL27_1.lt
          have hq30 := hL27_2.lt
          have hq31 := hL27_3.lt
          refine wp_seq (wp_plain _ [0] rfl ?_)
          by_cases hc32 : ((k : Nat) : Int) < ((((p.getD ((f).toNat) Fn.zero).outs).length : Nat) : Int)
          ·
            refine q_lss true rfl rfl (decide_eq_true hc32) zN (lw_nil (wp_seq (c_cond_t rfl (wp_skip (wp_seq (wp_block (wp_seq (wp_plain _ [0, 0] rfl (lw_tvn 2 rfl (wp_seq (wp_plain _ [0, 0, 0, 0, 3, 4] rfl (lw_tv 3 rfl ?_))))))))))))
            have hbd33 : ∀ (wq : World), (Instr.build 46 #[(0, (.int .i64 ((11 : Nat) : Int))), (1, (.int .i64 f)), (2, (.int .i64 ((k : Nat) : Int))), (3, (.int .i64 n))]).run Try.prog wq = .ok (.agg #[(.int .i64 ((11 : Nat) : Int)), (.int .i64 f), (.int .i64 ((k : Nat) : Int)), (.int .i64 n), (.slice none 0 0)]) wq := by intro wq; kernel_rfl
            refine q_build (ps := #[(0, (.int .i64 ((11 : Nat) : Int))), (1, (.int .i64 f)), (2, (.int .i64 ((k : Nat) : Int))), (3, (.int .i64 n))]) (.agg #[(.int .i64 ((11 : Nat) : Int)), (.int .i64 f), (.int .i64 ((k : Nat) : Int)), (.int .i64 n), (.slice none 0 0)]) z33_3 (fun wq => hbd33  wq) zN ?_
            have hq35 := hL27_1.lt
            have hq36 := hL27_2.lt
            have hq37 := hL27_3.lt
            refine r_allocA (z := .agg #[.int .i64 0, .int .i64 0, .int .i64 0, .int .i64 0, .slice none 0 0]) zr46 zN fun w34 hX34 hz34 hB34 => ?_
            have hzs34 : w27.heap.size ≤ w34.heap.size := hX34.size
            have hE34 : Ext w w34 := hE27.trans hX34
            have hL27_0x34 := hL27_0.ext ((good_owS (good_oEx 46 dp))) hX34
            have hL27_1x34 := hL27_1.ext hX34
            have hL27_2x34 := hL27_2.ext hX34
            have hL27_3x34 := hL27_3.ext hX34
            replace hB34 : BX w34.heap w27.heap.size [(.int .i64 0), (.int .i64 0), (.int .i64 0), (.int .i64 0), (.slice none 0 0)] := hB34
            refine e_setA (vs := [(.int .i64 ((11 : Nat) : Int)), (.int .i64 f), (.int .i64 ((k : Nat) : Int)), (.int .i64 n), (.slice none 0 0)]) agg46 rfl rfl z33_0 hB34 rfl rfl zN fun w38 hC38 hz38 hB38 => ?_
            replace hB38 : BX w38.heap w27.heap.size [(.int .i64 ((11 : Nat) : Int)), (.int .i64 f), (.int .i64 ((k : Nat) : Int)), (.int .i64 n), (.slice none 0 0)] := hB38
            have hzs38 : w34.heap.size ≤ w38.heap.size := hC38.size
            have hE38 : Ext w w38 := hC38.below hE34 (fun c hc => by have := List.mem_singleton.1 hc; omega) hE34.size
            have hF39 := hL27_0x34.chg ((good_owS (good_oEx 46 dp))) hC38 (fun c hc => by have := List.mem_singleton.1 hc; omega)
            have hF40 := hL27_1x34.chg hC38 (fun hm => by have := List.mem_singleton.1 hm; omega)
            have hF41 := hL27_2x34.chg hC38 (fun hm => by have := List.mem_singleton.1 hm; omega)
            have hF42 := hL27_3x34.chg hC38 (fun hm => by have := List.mem_singleton.1 hm; omega)
            refine lw_nil (wp_seq (wp_seq (wp_plain _ [0, 2, 0] rfl (q_fldP (p := (.pointer (some ⟨w14.heap.size, 0, none⟩))) (b := w14.heap.size) (o := 0) 1 fd49_1 rfl rfl zN (q_load (p := (padd (.pointer (some ⟨w14.heap.size, 0, none⟩)) 1)) (.inr rfl) (.int .i64 ((p.getD ((f).toNat) Fn.zero).params)) one2 rfl (hF42.ldp (i := 1) sM) zN (lw_tvn 1 rfl (wp_block ?_)))))))
            refine c_loop (S := Nat × Value) (fun (⟨i, vk⟩ : Nat × Value) => ([(55, (.int .i64 ((i : Nat) : Int))), (1, (.int .i64 f)), (2, (.int .i64 n)), (3, (.pointer (some ⟨w.heap.size, 0, none⟩))), (6, (.pointer (some ⟨w1.heap.size, 0, none⟩))), (9, (.pointer (some ⟨w14.heap.size, 0, none⟩))), (11, (.pointer (some ⟨w27.heap.size, 0, none⟩))), (45, (.int .i64 ((((p.getD ((f).toNat) Fn.zero).outs).length : Nat) : Int))), (46, (.int .i64 ((k : Nat) : Int))), (54, (.int .i64 ((p.getD ((f).toNat) Fn.zero).params)))] : List (Nat × Value))) (fun (⟨i, vk⟩ : Nat × Value) (W : World) => Ext w W ∧ Fr (owS 5 (oEx 46 1) 46) w38.heap.size W.heap.size W.heap vk (varL 0 i) ∧ Fr (owS 5 (oEx 46 dp) 46) w21.heap.size w27.heap.size W.heap vo (loopL f.toNat (p.getD f.toNat Fn.zero).params.toNat n.toNat 0 k) ∧ BX W.heap w.heap.size [vp] ∧ BX W.heap w1.heap.size [(.slice none 0 0)] ∧ BX W.heap w14.heap.size [(.string (⟨#[108, 111, 111, 112]⟩)), (.int .i64 ((p.getD ((f).toNat) Fn.zero).params)), vo] ∧ BX W.heap w27.heap.size [(.int .i64 ((11 : Nat) : Int)), (.int .i64 f), (.int .i64 ((k : Nat) : Int)), (.int .i64 n), vk] ∧ i ≤ (p.getD f.toNat Fn.zero).params.toNat ∧ w27.heap.size ≤ w38.heap.size ∧ w27.heap.size ≤ w27.heap.size ∧ w.heap.size ≤ w21.heap.size ∧ w.heap.size < w38.heap.size ∧ w1.heap.size < w38.heap.size ∧ w14.heap.size < w38.heap.size ∧ w27.heap.size < w38.heap.size ∧ w38.heap.size ≤ W.heap.size ∧ w21.heap.size ≤ W.heap.size) (fun (⟨i, vk⟩ : Nat × Value) => (p.getD f.toNat Fn.zero).params.toNat - i) (0, (.slice none 0 0)) ⟨rfl, rfl, rfl, rfl, rfl, rfl, rfl, rfl, rfl, rfl, trivial⟩ ⟨hE38, (frNilS _ 0 _).up (good_owS (good_oEx 46 1)), hF39, hF40, hF41, hF42, hB38, oM, oM, oM, oM, oM, oM, oM, oM, oM, oM⟩ ?_
            clear hL27_3 hL27_2 hL27_1 hL27_0 hz34 hX34 hzs34 hE34 hL27_0x34 hL27_1x34 hL27_2x34 hL27_3x34 hz38 hC38 hF39 hF40 hF41 hF42
            rintro ⟨i, vk⟩ ρ47 w47 ⟨hE47, hL47_0, hL47_1, hL47_2, hL47_3, hL47_4, hL47_5, hp47_0, huw, huf, hwb, hkg43, hkg44, hkg45, hkg46, hkB48, hkB49⟩
            have hzs47 : w.heap.size ≤ w47.heap.size := hE47.size
            have hq50 := hL47_2.lt
            have hq51 := hL47_3.lt
            have hq52 := hL47_4.lt
            have hq53 := hL47_5.lt
            refine wp_seq (wp_plain _ [0] rfl ?_)
            by_cases hc54 : ((i : Nat) : Int) < (p.getD ((f).toNat) Fn.zero).params
            ·
              refine q_lss true rfl rfl (decide_eq_true hc54) zN (lw_nil (wp_seq (c_cond_t rfl (wp_skip (wp_seq (wp_block (wp_seq (wp_plain _ [0, 0] rfl (lw_tvn 2 rfl (wp_draw _ [0, 1, 0, 3, 3, 4, 0, 4] mixed (by kernel_rfl) (q_fldP (p := (.pointer (some ⟨w27.heap.size, 0, none⟩))) (b := w27.heap.size) (o := 0) 4 fd46_4 rfl rfl zN (q_load (p := (padd (.pointer (some ⟨w27.heap.size, 0, none⟩)) 4)) (.inl rfl) vk one44 rfl (hL47_5.ldp (i := 4) sM) zN (lw_tv 1 rfl (lw_call 86 [] [] [(.int .i64 ((i : Nat) : Int))] rfl rfl cf86 zN (c_impl_variable _ (((i : Nat) : Int)) oM) ?_))))))))))))))
              rintro e55 w55 ⟨rfl, hX55⟩
              refine ⟨_, rfl, hX55, ?_⟩
              replace hX55 := hX55.of_drew
              have hzs55 : w47.heap.size ≤ w55.heap.size := hX55.size
              have hE55 : Ext w w55 := hE47.trans hX55
              have hL47_0x55 := hL47_0.ext ((good_owS (good_oEx 46 1))) hX55
              have hL47_1x55 := hL47_1.ext ((good_owS (good_oEx 46 dp))) hX55
              have hL47_2x55 := hL47_2.ext hX55
              have hL47_3x55 := hL47_3.ext hX55
              have hL47_4x55 := hL47_4.ext hX55
              have hL47_5x55 := hL47_5.ext hX55
              refine r_oneS (cs := [(.int .i64 ((2 : Nat) : Int)), (.int .i64 ((i : Nat) : Int)), (.int .i64 0), (.int .i64 0), (.slice none 0 0)]) (y := (.mk 2 ((i : Nat) : Int) 0 0 [])) (B := w55.heap.size) (good_oEx 46 1) u44 tiS46 rfl z33_7 rfl (FrN.mk1 (d := 1) (x := (.mk 2 ((i : Nat) : Int) 0 0 [])) oM (exR_mk (a := 2) (b := ((i : Nat) : Int)) (c := 0) (k := 0) oM oM oM oM) (frNilS _ 0 _)) oM zN fun v56 w56 hX56 hz56 hO56 => ?_
              have hzs56 : w55.heap.size ≤ w56.heap.size := hX56.size
              have hE56 : Ext w w56 := hE55.trans hX56
              have hL47_0x56 := hL47_0x55.ext ((good_owS (good_oEx 46 1))) hX56
              have hL47_1x56 := hL47_1x55.ext ((good_owS (good_oEx 46 dp))) hX56
              have hL47_2x56 := hL47_2x55.ext hX56
              have hL47_3x56 := hL47_3x55.ext hX56
              have hL47_4x56 := hL47_4x55.ext hX56
              have hL47_5x56 := hL47_5x55.ext hX56
              refine e_appS (v := vk) (a := v56) (good_oEx 46 1) u44 tiS46 rfl z33_7 rfl rfl hL47_0x56 oM hO56 oM oM (by rw [varL_len]; omega) (by rw [varL_len]; unfold maxLen; omega) zN fun v57 w57 F57 hC57 hF57 hO57 => ?_
              have hzs57 : w56.heap.size ≤ w57.heap.size := hC57.size
              have hE57 : Ext w w57 := hC57.below hE56 (fun c hc => by have := hF57 _ hc; omega) hE56.size
              have hF58 := hL47_1x56.chg ((good_owS (good_oEx 46 dp))) hC57 (fun c hc => by have := hF57 _ hc; omega)
              have hF59 := hL47_2x56.chg hC57 (fun hm => by have := hF57 _ hm; omega)
              have hF60 := hL47_3x56.chg hC57 (fun hm => by have := hF57 _ hm; omega)
              have hF61 := hL47_4x56.chg hC57 (fun hm => by have := hF57 _ hm; omega)
              have hF62 := hL47_5x56.chg hC57 (fun hm => by have := hF57 _ hm; omega)
              refine q_fldP (p := (.pointer (some ⟨w27.heap.size, 0, none⟩))) (b := w27.heap.size) (o := 0) 4 fd46_4 rfl rfl zN (e_setB (k := 4) (w := w57) sz44 rfl rfl (isSl_one hO57.isSlS) hF62 sM zN fun w63 hC63 hz63 hB63 => ?_)
              replace hB63 : BX w63.heap w27.heap.size [(.int .i64 ((11 : Nat) : Int)), (.int .i64 f), (.int .i64 ((k : Nat) : Int)), (.int .i64 n), v57] := hB63
              have hzs63 : w57.heap.size ≤ w63.heap.size := hC63.size
              have hE63 : Ext w w63 := hC63.below hE57 (fun c hc => by have := List.mem_singleton.1 hc; omega) hE57.size
              have hF64 := hF58.chg ((good_owS (good_oEx 46 dp))) hC63 (fun c hc => by have := List.mem_singleton.1 hc; omega)
              have hF65 := hF59.chg hC63 (fun hm => by have := List.mem_singleton.1 hm; omega)
              have hF66 := hF60.chg hC63 (fun hm => by have := List.mem_singleton.1 hm; omega)
              have hF67 := hF61.chg hC63 (fun hm => by have := List.mem_singleton.1 hm; omega)
              have hF68 := hO57.chg ((good_owS (good_oEx 46 1))) hC63 (fun c hc => by have := List.mem_singleton.1 hc; omega)
              exact lw_nil (wp_plain _ [0, 0] rfl (q_add ((i + 1 : Nat) : Int) rfl rfl (w64n oM oM) zN (lw_tvn 1 rfl ⟨((i + 1), v57), _, rfl, ⟨rfl, rfl, rfl, rfl, rfl, rfl, rfl, rfl, rfl, rfl, trivial⟩, ⟨hE63, (by rw [varL_snoc, Nat.zero_add]; exact hF68.up (good_owS (good_oEx 46 1))), hF64, hF65, hF66, hF67, hB63, oM, oM, oM, oM, oM, oM, oM, oM, oM, oM⟩, by first | omega | (dsimp only; omega)⟩)))
            ·
              refine q_lss false rfl rfl (decide_eq_false hc54) zN (lw_nil (wp_seq (c_cond_f rfl (wp_exit (t_exit (t_exit (c_exit_here (wp_plain _ [0, 2, 2, 3, 4, 0, 4] rfl ?_))))))))
              have hik : i = (p.getD f.toNat Fn.zero).params.toNat := by omega
              have hkm : Fr (owS 5 (oEx 46 1) 46) w38.heap.size w47.heap.size w47.heap vk (varL 0 (p.getD f.toNat Fn.zero).params.toNat) := by rw [← hik]; exact hL47_0
              refine q_fldP (p := (.pointer (some ⟨w14.heap.size, 0, none⟩))) (b := w14.heap.size) (o := 0) 2 fd49_2 rfl rfl zN (q_load (p := (padd (.pointer (some ⟨w14.heap.size, 0, none⟩)) 2)) (.inr rfl) vo one44 rfl (hL47_4.ldp (i := 2) sM) zN (q_loadA (p := (.pointer (some ⟨w27.heap.size, 0, none⟩))) (.inr rfl) [(.int .i64 ((11 : Nat) : Int)), (.int .i64 f), (.int .i64 ((k : Nat) : Int)), (.int .i64 n), vk] agg46 rfl (fun wq9 hw9 => LD.of_box (BX.ext (w := w47) hL47_5 hw9)) rfl zN ?_))
              refine r_oneS (cs := [(.int .i64 ((11 : Nat) : Int)), (.int .i64 f), (.int .i64 ((k : Nat) : Int)), (.int .i64 n), vk]) (y := (.mk 11 f ((k : Nat) : Int) n (varL 0 (p.getD f.toNat Fn.zero).params.toNat))) (B := w38.heap.size) (good_oEx 46 dp) u44 tiS46 rfl z33_7 rfl (FrN.le (FrN.mk1 (d := 2) (x := .mk 11 f ((k : Nat) : Int) n (varL 0 (p.getD f.toNat Fn.zero).params.toNat)) oM (exR_mk oM oM oM oM) hkm) oM) oM zN fun v69 w69 hX69 hz69 hO69 => ?_
              have hzs69 : w47.heap.size ≤ w69.heap.size := hX69.size
              have hE69 : Ext w w69 := hE47.trans hX69
              have hL47_1x69 := hL47_1.ext ((good_owS (good_oEx 46 dp))) hX69
              have hL47_2x69 := hL47_2.ext hX69
              have hL47_3x69 := hL47_3.ext hX69
              have hL47_4x69 := hL47_4.ext hX69
              have hL47_5x69 := hL47_5.ext hX69
              refine e_appS (v := vo) (a := v69) (good_oEx 46 dp) u44 tiS46 rfl z33_7 rfl rfl hL47_1x69 oM hO69 oM oM (by rw [loopL_len]; omega) (by rw [loopL_len]; unfold maxLen; omega) zN fun v70 w70 F70 hC70 hF70 hO70 => ?_
              have hzs70 : w69.heap.size ≤ w70.heap.size := hC70.size
              have hE70 : Ext w w70 := hC70.below hE69 (fun c hc => by have := hF70 _ hc; omega) hE69.size
              have hF71 := hL47_2x69.chg hC70 (fun hm => by have := hF70 _ hm; omega)
              have hF72 := hL47_3x69.chg hC70 (fun hm => by have := hF70 _ hm; omega)
              have hF73 := hL47_4x69.chg hC70 (fun hm => by have := hF70 _ hm; omega)
              have hF74 := hL47_5x69.chg hC70 (fun hm => by have := hF70 _ hm; omega)
              refine q_fldP (p := (.pointer (some ⟨w14.heap.size, 0, none⟩))) (b := w14.heap.size) (o := 0) 2 fd49_2 rfl rfl zN (e_setB (k := 2) (w := w70) sz44 rfl rfl (isSl_one hO70.isSlS) hF73 sM zN fun w75 hC75 hz75 hB75 => ?_)
              replace hB75 : BX w75.heap w14.heap.size [(.string (⟨#[108, 111, 111, 112]⟩)), (.int .i64 ((p.getD ((f).toNat) Fn.zero).params)), v70] := hB75
              have hzs75 : w70.heap.size ≤ w75.heap.size := hC75.size
              have hE75 : Ext w w75 := hC75.below hE70 (fun c hc => by have := List.mem_singleton.1 hc; omega) hE70.size
              have hF76 := hF71.chg hC75 (fun hm => by have := List.mem_singleton.1 hm; omega)
              have hF77 := hF72.chg hC75 (fun hm => by have := List.mem_singleton.1 hm; omega)
              have hF78 := hF74.chg hC75 (fun hm => by have := List.mem_singleton.1 hm; omega)
              have hF79 := hO70.chg ((good_owS (good_oEx 46 dp))) hC75 (fun c hc => by have := List.mem_singleton.1 hc; omega)
              exact lw_nil (wp_plain _ [0, 0] rfl (q_add ((k + 1 : Nat) : Int) rfl rfl (w64n oM oM) zN (lw_tvn 1 rfl ⟨((k + 1), v70), _, rfl, ⟨rfl, rfl, rfl, rfl, rfl, rfl, rfl, trivial⟩, ⟨hE75, (by rw [loopL_snoc, Nat.zero_add, hft, hnt]; exact hF79.up (good_owS (good_oEx 46 dp))), hF76, hF77, hB75, oM, oM, oM, oM, oM⟩, by first | omega | (dsimp only; omega)⟩)))
          ·
            refine q_lss false rfl rfl (decide_eq_false hc32) zN (lw_nil (wp_seq (c_cond_f rfl (wp_exit (t_exit (t_exit (c_exit_here (wp_seq (wp_plain _ [2, 3, 3, 4] rfl ?_)))))))))
            have hkk : k = (p.getD f.toNat Fn.zero).outs.length := by omega
            have hrm : Fr (owS 5 (oEx 46 dp) 46) w21.heap.size w27.heap.size w27.heap vo (loopL f.toNat (p.getD f.toNat Fn.zero).params.toNat n.toNat 0 (p.getD f.toNat Fn.zero).outs.length) := by rw [← hkk]; exact hL27_0
            refine q_loadA (p := (.pointer (some ⟨w.heap.size, 0, none⟩))) (.inr rfl) [vp] agg52 rfl (fun wq9 hw9 => LD.of_box (BX.ext (w := w27) hL27_1 hw9)) rfl zN (lw_call 87 [] [] [(.agg #[vp])] rfl rfl cf87 zN (c_impl_cloneProgram _ dp vp (p) (hp.ext (good_rdS (good_rFn dp)) hE27) (by exact hz) oM) ?_)
            rintro e80 w80 ⟨v80, rfl, hX80, hO80⟩
            refine ⟨_, rfl, hX80, ?_⟩
            have hzs80 : w27.heap.size ≤ w80.heap.size := hX80.size
            have hE80 : Ext w w80 := hE27.trans hX80
            have hrmx80 := hrm.ext ((good_owS (good_oEx 46 dp))) hX80
            have hL27_1x80 := hL27_1.ext hX80
            have hL27_2x80 := hL27_2.ext hX80
            have hL27_3x80 := hL27_3.ext hX80
            have hq82 := hL27_1x80.lt
            have hq83 := hL27_2x80.lt
            have hq84 := hL27_3x80.lt
            refine r_allocA (z := .agg #[.slice none 0 0]) zr52 zN fun w81 hX81 hz81 hB81 => ?_
            have hzs81 : w80.heap.size ≤ w81.heap.size := hX81.size
            have hE81 : Ext w w81 := hE80.trans hX81
            have hrmx81 := hrmx80.ext ((good_owS (good_oEx 46 dp))) hX81
            have hL27_1x81 := hL27_1x80.ext hX81
            have hL27_2x81 := hL27_2x80.ext hX81
            have hL27_3x81 := hL27_3x80.ext hX81
            have hO80x81 := hO80.ext ((good_owS (good_oFn 46 dp))) hX81
            replace hB81 : BX w81.heap w80.heap.size [(.slice none 0 0)] := hB81
            refine e_setA (vs := [v80]) agg52 rfl rfl (by intro u hu; simp only [List.mem_cons, List.not_mem_nil, or_false] at hu; rcases hu with rfl <;> first | exact ⟨rfl, rfl⟩ | exact isSl_one hO80x81.isSlS) hB81 rfl rfl zN fun w85 hC85 hz85 hB85 => ?_
            replace hB85 : BX w85.heap w80.heap.size [v80] := hB85
            have hzs85 : w81.heap.size ≤ w85.heap.size := hC85.size
            have hE85 : Ext w w85 := hC85.below hE81 (fun c hc => by have := List.mem_singleton.1 hc; omega) hE81.size
            have hF86 := hrmx81.chg ((good_owS (good_oEx 46 dp))) hC85 (fun c hc => by have := List.mem_singleton.1 hc; omega)
            have hF87 := hL27_1x81.chg hC85 (fun hm => by have := List.mem_singleton.1 hm; omega)
            have hF88 := hL27_2x81.chg hC85 (fun hm => by have := List.mem_singleton.1 hm; omega)
            have hF89 := hL27_3x81.chg hC85 (fun hm => by have := List.mem_singleton.1 hm; omega)
            have hF90 := hO80x81.chg ((good_owS (good_oFn 46 dp))) hC85 (fun c hc => by have := List.mem_singleton.1 hc; omega)
            refine lw_nil (wp_seq (wp_plain _ [0, 2, 2, 3, 4, 0, 4] rfl (q_fldP (p := (.pointer (some ⟨w80.heap.size, 0, none⟩))) (b := w80.heap.size) (o := 0) 0 fd52_0 rfl rfl zN (q_load (p := (padd (.pointer (some ⟨w80.heap.size, 0, none⟩)) 0)) (.inr rfl) v80 one50 rfl (hB85.ldp (i := 0) sM) zN (q_loadA (p := (.pointer (some ⟨w14.heap.size, 0, none⟩))) (.inr rfl) [(.string (⟨#[108, 111, 111, 112]⟩)), (.int .i64 ((p.getD ((f).toNat) Fn.zero).params)), vo] agg49 rfl (fun wq9 hw9 => LD.of_box (BX.ext (w := w85) hF89 hw9)) rfl zN ?_)))))
            refine r_oneQ (cs := [(.string (⟨#[108, 111, 111, 112]⟩)), (.int .i64 ((p.getD ((f).toNat) Fn.zero).params)), vo]) (y := (Fn.mk (⟨#[108, 111, 111, 112]⟩) ((p.getD ((f).toNat) Fn.zero).params) (loopL f.toNat (p.getD f.toNat Fn.zero).params.toNat n.toNat 0 (p.getD f.toNat Fn.zero).outs.length))) (good_oFn 46 dp) u50 tiS49 rfl z33_7 rfl (FrN.mkF (x := ⟨(⟨#[108, 111, 111, 112]⟩), ((p.getD ((f).toNat) Fn.zero).params), (loopL f.toNat (p.getD f.toNat Fn.zero).params.toNat n.toNat 0 (p.getD f.toNat Fn.zero).outs.length)⟩) (i64_mk (a := ((p.getD ((f).toNat) Fn.zero).params)) hx16.rng) hF86) zN fun v91 w91 hX91 hz91 hO91 => ?_
            have hzs91 : w85.heap.size ≤ w91.heap.size := hX91.size
            have hE91 : Ext w w91 := hE85.trans hX91
            have hF87x91 := hF87.ext hX91
            have hF88x91 := hF88.ext hX91
            have hF89x91 := hF89.ext hX91
            have hF90x91 := hF90.ext ((good_owS (good_oFn 46 dp))) hX91
            have hB85x91 := hB85.ext hX91
            refine e_appG (v := v80) (a := v91) (good_oFn 46 dp) u50 tiS49 rfl z33_7 rfl rfl hF90x91 hO91 (fun b h8 h9 => by (try dsimp only at h9); omega) oM (by unfold maxLen; omega) zN fun v92 w92 F92 hC92 hF92 hO92 => ?_
            have hzs92 : w91.heap.size ≤ w92.heap.size := hC92.size
            have hE92 : Ext w w92 := hC92.below hE91 (fun c hc => by have := hF92 _ hc; omega) hE91.size
            have hF93 := hF87x91.chg hC92 (fun hm => by have := hF92 _ hm; omega)
            have hF94 := hF88x91.chg hC92 (fun hm => by have := hF92 _ hm; omega)
            have hF95 := hF89x91.chg hC92 (fun hm => by have := hF92 _ hm; omega)
            have hF96 := hB85x91.chg hC92 (fun hm => by have := hF92 _ hm; omega)
            refine q_fldP (p := (.pointer (some ⟨w80.heap.size, 0, none⟩))) (b := w80.heap.size) (o := 0) 0 fd52_0 rfl rfl zN (e_setB (k := 0) (w := w92) sz50 rfl rfl (isSl_one (FrP.isSlS hO92)) hF96 sM zN fun w97 hC97 hz97 hB97 => ?_)
            replace hB97 : BX w97.heap w80.heap.size [v92] := hB97
            have hzs97 : w92.heap.size ≤ w97.heap.size := hC97.size
            have hE97 : Ext w w97 := hC97.below hE92 (fun c hc => by have := List.mem_singleton.1 hc; omega) hE92.size
            have hF98 := hF93.chg hC97 (fun hm => by have := List.mem_singleton.1 hm; omega)
            have hF99 := hF94.chg hC97 (fun hm => by have := List.mem_singleton.1 hm; omega)
            have hF100 := hF95.chg hC97 (fun hm => by have := List.mem_singleton.1 hm; omega)
            have hF101 := hO92.chg (good_owS (good_oFn 46 dp)) hC97 (fun c hc => by have := List.mem_singleton.1 hc; intro hs9; (try dsimp only at hs9); omega)
            refine lw_nil (wp_seq (wp_seq (wp_plain _ [2, 3, 0] rfl ?_)))
            have hfr : Fr (owS 3 (oFn 46 dp) 49) w21.heap.size w97.heap.size w97.heap v92 (lpX p f n) := hF101.fr (good_owS (good_oFn 46 dp)) (B := w21.heap.size) (fun b hb => by (try dsimp only at hb); omega)
            refine q_loadA (p := (.pointer (some ⟨w80.heap.size, 0, none⟩))) (.inr rfl) [v92] agg52 rfl (fun wq9 hw9 => LD.of_box (BX.ext (w := w97) hB97 hw9)) rfl zN (lw_call 88 [] [] [(.agg #[v92])] rfl rfl cf88 zN (c_impl_ValidProgram _ dp v92 ((lpX p f n)) (RN.of_frF hfr (fun b hb => by cases hb)) (by exact hszx)) ?_)
            rintro e102 w102 ⟨rfl, hX102⟩
            refine ⟨_, rfl, hX102, ?_⟩
            have hzs102 : w97.heap.size ≤ w102.heap.size := hX102.size
            have hE102 : Ext w w102 := hE97.trans hX102
            have hF98x102 := hF98.ext hX102
            have hF99x102 := hF99.ext hX102
            have hF100x102 := hF100.ext hX102
            have hB97x102 := hB97.ext hX102
            have hfrx102 := hfr.ext ((good_owS (good_oFn 46 dp))) hX102
            refine q_not (!(okP (lpX p f n))) rfl rfl zN (lw_nil ?_)
            cases hb103 : (!(okP (lpX p f n)))
            ·
              refine c_cond_f (by first | rfl | (show Value.bool _ = _; rw [hb103])) (wp_skip (wp_seq (wp_plain _ [2, 4, 0] rfl (q_loadA (p := (.pointer (some ⟨w80.heap.size, 0, none⟩))) (.inr rfl) [v92] agg52 rfl (fun wq9 hw9 => LD.of_box (BX.ext (w := w102) hB97x102 hw9)) rfl zN (e_setA (vs := [v92]) agg52 rfl rfl (by intro u hu; simp only [List.mem_cons, List.not_mem_nil, or_false] at hu; rcases hu with rfl <;> first | exact ⟨rfl, rfl⟩ | exact isSl_one hfrx102.isSlS) hF99x102 rfl rfl zN fun w104 hC104 hz104 hB104 => ?_)))))
              replace hB104 : BX w104.heap w1.heap.size [v92] := hB104
              have hzs104 : w102.heap.size ≤ w104.heap.size := hC104.size
              have hE104 : Ext w w104 := hC104.below hE102 (fun c hc => by have := List.mem_singleton.1 hc; omega) hE102.size
              have hF105 := hF98x102.chg hC104 (fun hm => by have := List.mem_singleton.1 hm; omega)
              have hF106 := hF100x102.chg hC104 (fun hm => by have := List.mem_singleton.1 hm; omega)
              have hF107 := hB97x102.chg hC104 (fun hm => by have := List.mem_singleton.1 hm; omega)
              have hF108 := hfrx102.chg ((good_owS (good_oFn 46 dp))) hC104 (fun c hc => by have := List.mem_singleton.1 hc; omega)
              refine lw_tvn 1 rfl (wp_ret ?_)
              have hcd : wlC p f n = ((0 : Nat) : Int) := by first | exact wlC_4 hg0 z33_6 | exact wlC_3 hg0 z33_6 (bn_t z33_6) | exact wlC_3 hg0 z33_6 z33_6 | exact wlC_t hg0 z33_6 (bn_f z33_6) | exact wlC_t hg0 z33_6 z33_6 | exact wlC_b oM (bn_t z33_6) | exact wlC_a oM
              exact post_retC (t0 := 7) (ts := []) (cs := [v92]) [(.int .i64 ((0 : Nat) : Int))] rfl agg52 rfl hB104 rfl rfl ⟨v92, by rw [hcd], hE104, (by rw [wlR_t hcd]; exact ((hF108.up (good_owS (good_oFn 46 dp))).low (B' := w.heap.size) oM))⟩
            ·
              refine c_cond_t (by first | rfl | (show Value.bool _ = _; rw [hb103])) (wp_seq (wp_plain _ [0, 4, 0] rfl ?_))
              have hbd109 : ∀ (wq : World), (Instr.build 52 #[]).run Try.prog wq = .ok (.agg #[(.slice none 0 0)]) wq := by intro wq; kernel_rfl
              refine q_build (ps := #[]) (.agg #[(.slice none 0 0)]) z33_4 (fun wq => hbd109  wq) zN (e_setA (vs := [(.slice none 0 0)]) agg52 rfl rfl z33_2 hF99x102 rfl rfl zN fun w110 hC110 hz110 hB110 => ?_)
              replace hB110 : BX w110.heap w1.heap.size [(.slice none 0 0)] := hB110
              have hzs110 : w102.heap.size ≤ w110.heap.size := hC110.size
              have hE110 : Ext w w110 := hC110.below hE102 (fun c hc => by have := List.mem_singleton.1 hc; omega) hE102.size
              have hF111 := hF98x102.chg hC110 (fun hm => by have := List.mem_singleton.1 hm; omega)
              have hF112 := hF100x102.chg hC110 (fun hm => by have := List.mem_singleton.1 hm; omega)
              have hF113 := hB97x102.chg hC110 (fun hm => by have := List.mem_singleton.1 hm; omega)
              have hF114 := hfrx102.chg ((good_owS (good_oFn 46 dp))) hC110 (fun c hc => by have := List.mem_singleton.1 hc; omega)
              refine lw_tvn 1 rfl (wp_ret (t_ret ?_))
              have hcd : wlC p f n = ((3 : Nat) : Int) := by first | exact wlC_4 hg0 z33_6 | exact wlC_3 hg0 z33_6 (bn_t z33_6) | exact wlC_3 hg0 z33_6 z33_6 | exact wlC_t hg0 z33_6 (bn_f z33_6) | exact wlC_t hg0 z33_6 z33_6 | exact wlC_b oM (bn_t z33_6) | exact wlC_a oM
              exact post_retC (t0 := 7) (ts := []) (cs := [(.slice none 0 0)]) [(.int .i64 ((3 : Nat) : Int))] rfl agg52 rfl hB110 rfl rfl ⟨_, by rw [hcd], hE110, z33_5⟩
        ·
          refine c_cond_t (by first | rfl | (show Value.bool _ = _; rw [hb15])) (wp_seq (wp_plain _ [0, 4, 0] rfl ?_))
          have hbd115 : ∀ (wq : World), (Instr.build 52 #[]).run Try.prog wq = .ok (.agg #[(.slice none 0 0)]) wq := by intro wq; kernel_rfl
          refine q_build (ps := #[]) (.agg #[(.slice none 0 0)]) z33_4 (fun wq => hbd115  wq) zN (e_setA (vs := [(.slice none 0 0)]) agg52 rfl rfl z33_2 hB2x14 rfl rfl zN fun w116 hC116 hz116 hB116 => ?_)
          replace hB116 : BX w116.heap w1.heap.size [(.slice none 0 0)] := hB116
          have hzs116 : w14.heap.size ≤ w116.heap.size := hC116.size
          have hE116 : Ext w w116 := hC116.below hE14 (fun c hc => by have := List.mem_singleton.1 hc; omega) hE14.size
          have hF117 := hB1x14.chg hC116 (fun hm => by have := List.mem_singleton.1 hm; omega)
          refine lw_tvn 1 rfl (wp_ret (t_ret ?_))
          have hcd : wlC p f n = ((4 : Nat) : Int) := by first | exact wlC_4 hg0 z33_6 | exact wlC_3 hg0 z33_6 (bn_t z33_6) | exact wlC_3 hg0 z33_6 z33_6 | exact wlC_t hg0 z33_6 (bn_f z33_6) | exact wlC_t hg0 z33_6 z33_6 | exact wlC_b oM (bn_t z33_6) | exact wlC_a oM
          exact post_retC (t0 := 7) (ts := []) (cs := [(.slice none 0 0)]) [(.int .i64 ((4 : Nat) : Int))] rfl agg52 rfl hB116 rfl rfl ⟨_, by rw [hcd], hE116, z33_5⟩
    ·
      refine c_cond_t (by first | rfl | (show Value.bool _ = _; rw [hb9])) (wp_plain _ [0] rfl (lw_tvn 1 rfl (wp_seq (wp_seq (wp_plain _ [0, 0] rfl (lw_tv 1 rfl (q_neq true rfl rfl z33_7 zN (lw_nil (c_cond_t rfl (wp_seq (wp_plain _ [0, 0, 4, 0] rfl ?_)))))))))))
      have hbd118 : ∀ (wq : World), (Instr.build 52 #[]).run Try.prog wq = .ok (.agg #[(.slice none 0 0)]) wq := by intro wq; kernel_rfl
      refine q_build (ps := #[]) (.agg #[(.slice none 0 0)]) z33_4 (fun wq => hbd118  wq) zN (lw_tv 1 rfl (e_setA (vs := [(.slice none 0 0)]) agg52 rfl rfl z33_2 hB2x5 rfl rfl zN fun w119 hC119 hz119 hB119 => ?_))
      replace hB119 : BX w119.heap w1.heap.size [(.slice none 0 0)] := hB119
      have hzs119 : w5.heap.size ≤ w119.heap.size := hC119.size
      have hE119 : Ext w w119 := hC119.below hE5 (fun c hc => by have := List.mem_singleton.1 hc; omega) hE5.size
      have hF120 := hB1x5.chg hC119 (fun hm => by have := List.mem_singleton.1 hm; omega)
      refine lw_tvn 1 rfl (wp_ret (t_ret ?_))
      have hcd : wlC p f n = ((2 : Nat) : Int) := by first | exact wlC_4 hg0 z33_6 | exact wlC_3 hg0 z33_6 (bn_t z33_6) | exact wlC_3 hg0 z33_6 z33_6 | exact wlC_t hg0 z33_6 (bn_f z33_6) | exact wlC_t hg0 z33_6 z33_6 | exact wlC_b oM (bn_t z33_6) | exact wlC_a oM
      exact post_retC (t0 := 7) (ts := []) (cs := [(.slice none 0 0)]) [(.int .i64 ((2 : Nat) : Int))] rfl agg52 rfl hB119 rfl rfl ⟨_, by rw [hcd], hE119, z33_5⟩
  ·
    refine q_eql false rfl rfl (decide_eq_false hc7) zN (lw_tvn 5 rfl (c_cond_f rfl (wp_skip (wp_seq (wp_seq (wp_plain _ [0, 0] rfl (lw_tv 1 rfl ?_)))))))
    by_cases hc121 : chC p f ([] : List Sr) ≠ ((0 : Nat) : Int)
    ·
      refine q_neq true rfl rfl (decide_eq_true hc121) zN (lw_nil (c_cond_t rfl (wp_seq (wp_plain _ [0, 0, 4, 0] rfl ?_))))
      have hbd122 : ∀ (wq : World), (Instr.build 52 #[]).run Try.prog wq = .ok (.agg #[(.slice none 0 0)]) wq := by intro wq; kernel_rfl
      refine q_build (ps := #[]) (.agg #[(.slice none 0 0)]) z33_4 (fun wq => hbd122  wq) zN (lw_tv 1 rfl (e_setA (vs := [(.slice none 0 0)]) agg52 rfl rfl z33_2 hB2x5 rfl rfl zN fun w123 hC123 hz123 hB123 => ?_))
      replace hB123 : BX w123.heap w1.heap.size [(.slice none 0 0)] := hB123
      have hzs123 : w5.heap.size ≤ w123.heap.size := hC123.size
      have hE123 : Ext w w123 := hC123.below hE5 (fun c hc => by have := List.mem_singleton.1 hc; omega) hE5.size
      have hF124 := hB1x5.chg hC123 (fun hm => by have := List.mem_singleton.1 hm; omega)
      refine lw_tvn 1 rfl (wp_ret (t_ret ?_))
      have hcd : wlC p f n = chC p f ([] : List Sr) := by first | exact wlC_4 hg0 z33_6 | exact wlC_3 hg0 z33_6 (bn_t z33_6) | exact wlC_3 hg0 z33_6 z33_6 | exact wlC_t hg0 z33_6 (bn_f z33_6) | exact wlC_t hg0 z33_6 z33_6 | exact wlC_b oM (bn_t z33_6) | exact wlC_a oM
      exact post_retC (t0 := 7) (ts := []) (cs := [(.slice none 0 0)]) [(.int .i64 (chC p f ([] : List Sr)))] rfl agg52 rfl hB123 rfl rfl ⟨_, by rw [hcd], hE123, z33_5⟩
    ·
      refine q_neq false rfl rfl (decide_eq_false hc121) zN (lw_nil (c_cond_f rfl (wp_skip (wp_seq (wp_seq (wp_plain _ [0, 2, 3] rfl ?_))))))
      have hg0 : wlA p f n = 0 := by first | exact wlA_t oM (bn_f z33_6) | (exfalso; omega)
      have hq0 := wlA_0 hg0
      have hq1 := rnF_iff.1 hq0.2.1
      have hvp := okP_vpr hq0.1
      have hpl := okP_len hq0.1
      have hpar := hvp.par f.toNat oM
      have hou := hvp.outs f.toNat oM
      have hft : ((f.toNat : Nat) : Int) = f := by omega
      have hnt : ((n.toNat : Nat) : Int) = n := by omega
      have hszx := hz.lp (n := n) hvp (f := f) oM
      refine q_fldP (p := (.pointer (some ⟨w.heap.size, 0, none⟩))) (b := w.heap.size) (o := 0) 0 fd52_0 rfl rfl zN (q_load (p := (padd (.pointer (some ⟨w.heap.size, 0, none⟩)) 0)) (.inr rfl) vp one50 rfl (hB1x5.ldp (i := 0) sM) zN (lw_call 84 [] [] [vp, (.func (.func 85) #[] #[])] rfl rfl cf84 zN (c_slices_ContainsFunc___impl_Func_impl_Func_ _ dp vp (p) 85 [] [] (fun g : Fn => strE g.name (⟨#[108, 111, 111, 112]⟩ : ByteArray)) (hp.ext (good_rdS (good_rFn dp)) hE5) cf85 (fun d9 u x w1 hx hw => c_impl_WithLoop_1 w1 d9 u x hx)) ?_))
      rintro e125 w125 ⟨rfl, hX125⟩
      refine ⟨_, rfl, hX125, ?_⟩
      have hzs125 : w5.heap.size ≤ w125.heap.size := hX125.size
      have hE125 : Ext w w125 := hE5.trans hX125
      have hB1x125 := hB1x5.ext hX125
      have hB2x125 := hB2x5.ext hX125
      refine lw_nil ?_
      cases hb126 : (p.any (fun g : Fn => strE g.name (⟨#[108, 111, 111, 112]⟩ : ByteArray)))
      ·
        refine c_cond_f (by first | rfl | (show Value.bool _ = _; rw [hb126])) (wp_skip (wp_seq (wp_plain _ [0, 2, 0, 0, 0, 2, 0, 3, 4] rfl (q_fldP (p := (.pointer (some ⟨w.heap.size, 0, none⟩))) (b := w.heap.size) (o := 0) 0 fd52_0 rfl rfl zN (q_load (p := (padd (.pointer (some ⟨w.heap.size, 0, none⟩)) 0)) (.inr rfl) vp one50 rfl (hB1x125.ldp (i := 0) sM) zN (lw_tv 1 rfl (q_idx (v := vp) ((f).toNat) u50 tiS49 rfl rfl hp.isSl oM sD zN ?_)))))))
        obtain ⟨cs127, hr127, hl127⟩ := hp.get (good_rFn dp) Fn.zero (k := ((f).toNat)) sD
        obtain ⟨ve127, rfl, hx127⟩ := RF.of hr127
        have hln127 := hx127.rn.lenle
        unfold maxLen at hln127
        refine q_fldL (p := eptr vp ((f).toNat) 3) 1 fd49_1 rfl (hl127 _ (Chg.of_ext [] hE125)) zN (q_load (p := (padd (eptr vp ((f).toNat) 3) 1)) (.inr rfl) (.int .i64 ((p.getD ((f).toNat) Fn.zero).params)) one2 rfl ((hl127 _ (Chg.of_ext [] hE125)).ld (i := 1) (by simp [exC, fnC])) zN ?_)
        have hbd128 : ∀ (wq : World), (Instr.build 49 #[(0, (.string (⟨#[108, 111, 111, 112]⟩))), (1, (.int .i64 ((p.getD ((f).toNat) Fn.zero).params)))]).run Try.prog wq = .ok (.agg #[(.string (⟨#[108, 111, 111, 112]⟩)), (.int .i64 ((p.getD ((f).toNat) Fn.zero).params)), (.slice none 0 0)]) wq := by intro wq; kernel_rfl
        refine q_build (ps := #[(0, (.string (⟨#[108, 111, 111, 112]⟩))), (1, (.int .i64 ((p.getD ((f).toNat) Fn.zero).params)))]) (.agg #[(.string (⟨#[108, 111, 111, 112]⟩)), (.int .i64 ((p.getD ((f).toNat) Fn.zero).params)), (.slice none 0 0)]) z33_3 (fun wq => hbd128  wq) zN ?_
        have hq130 := hB1x125.lt
        have hq131 := hB2x125.lt
        refine r_allocA (z := .agg #[.string ByteArray.empty, .int .i64 0, .slice none 0 0]) zr49 zN fun w129 hX129 hz129 hB129 => ?_
        have hzs129 : w125.heap.size ≤ w129.heap.size := hX129.size
        have hE129 : Ext w w129 := hE125.trans hX129
        have hB1x129 := hB1x125.ext hX129
        have hB2x129 := hB2x125.ext hX129
        replace hB129 : BX w129.heap w125.heap.size [(.string ByteArray.empty), (.int .i64 0), (.slice none 0 0)] := hB129
        refine e_setA (vs := [(.string (⟨#[108, 111, 111, 112]⟩)), (.int .i64 ((p.getD ((f).toNat) Fn.zero).params)), (.slice none 0 0)]) agg49 rfl rfl z33_1 hB129 rfl rfl zN fun w132 hC132 hz132 hB132 => ?_
        replace hB132 : BX w132.heap w125.heap.size [(.string (⟨#[108, 111, 111, 112]⟩)), (.int .i64 ((p.getD ((f).toNat) Fn.zero).params)), (.slice none 0 0)] := hB132
        have hzs132 : w129.heap.size ≤ w132.heap.size := hC132.size
        have hE132 : Ext w w132 := hC132.below hE129 (fun c hc => by have := List.mem_singleton.1 hc; omega) hE129.size
        have hF133 := hB1x129.chg hC132 (fun hm => by have := List.mem_singleton.1 hm; omega)
        have hF134 := hB2x129.chg hC132 (fun hm => by have := List.mem_singleton.1 hm; omega)
        refine lw_nil (wp_seq (wp_seq (wp_plain _ [0, 2, 0, 0, 0, 2, 0, 0] rfl (q_fldP (p := (.pointer (some ⟨w.heap.size, 0, none⟩))) (b := w.heap.size) (o := 0) 0 fd52_0 rfl rfl zN (q_load (p := (padd (.pointer (some ⟨w.heap.size, 0, none⟩)) 0)) (.inr rfl) vp one50 rfl (hF133.ldp (i := 0) sM) zN (lw_tv 1 rfl (q_idx (v := vp) ((f).toNat) u50 tiS49 rfl rfl hp.isSl oM sD zN ?_)))))))
        refine q_fldL (p := eptr vp ((f).toNat) 3) 2 fd49_2 rfl (hl127 _ (Chg.of_ext [] hE132)) zN (q_load (p := (padd (eptr vp ((f).toNat) 3) 2)) (.inr rfl) ve127 one44 rfl ((hl127 _ (Chg.of_ext [] hE132)).ld (i := 2) (by simp [exC, fnC])) zN (q_len (v := ve127) u44 rfl hx127.rn.isSl zN (lw_tvn 1 rfl (wp_block ?_))))
        refine c_loop (S := Nat × Value) (fun (⟨k, vo⟩ : Nat × Value) => ([(46, (.int .i64 ((k : Nat) : Int))), (1, (.int .i64 f)), (2, (.int .i64 n)), (3, (.pointer (some ⟨w.heap.size, 0, none⟩))), (6, (.pointer (some ⟨w1.heap.size, 0, none⟩))), (9, (.pointer (some ⟨w125.heap.size, 0, none⟩))), (45, (.int .i64 ((((p.getD ((f).toNat) Fn.zero).outs).length : Nat) : Int)))] : List (Nat × Value))) (fun (⟨k, vo⟩ : Nat × Value) (W : World) => Ext w W ∧ Fr (owS 5 (oEx 46 dp) 46) w132.heap.size W.heap.size W.heap vo (loopL f.toNat (p.getD f.toNat Fn.zero).params.toNat n.toNat 0 k) ∧ BX W.heap w.heap.size [vp] ∧ BX W.heap w1.heap.size [(.slice none 0 0)] ∧ BX W.heap w125.heap.size [(.string (⟨#[108, 111, 111, 112]⟩)), (.int .i64 ((p.getD ((f).toNat) Fn.zero).params)), vo] ∧ k ≤ (p.getD f.toNat Fn.zero).outs.length ∧ w.heap.size < w132.heap.size ∧ w1.heap.size < w132.heap.size ∧ w125.heap.size < w132.heap.size ∧ w132.heap.size ≤ W.heap.size) (fun (⟨k, vo⟩ : Nat × Value) => (p.getD f.toNat Fn.zero).outs.length - k) (0, (.slice none 0 0)) ⟨rfl, rfl, rfl, rfl, rfl, rfl, rfl, trivial⟩ ⟨hE132, (frNilS _ 0 _).up (good_owS (good_oEx 46 dp)), hF133, hF134, hB132, oM, oM, oM, oM, oM⟩ ?_
        clear hE0 hz1 hX1 hzs1 hE1 hz2 hX2 hzs2 hE2 hX5 hzs5 hE5 hX125 hzs125 hE125 hln127 hz129 hX129 hzs129 hE129 hz132 hC132 hF133 hF134
        rintro ⟨k, vo⟩ ρ138 w138 ⟨hE138, hL138_0, hL138_1, hL138_2, hL138_3, hp138_0, hkg135, hkg136, hkg137, hkB139⟩
        have hzs138 : w.heap.size ≤ w138.heap.size := hE138.size
        have hq140 := hL138_1.lt
        have hq141 := hL138_2.lt
        have hq142 := hL138_3.lt
        refine wp_seq (wp_plain _ [0] rfl ?_)
        by_cases hc143 : ((k : Nat) : Int) < ((((p.getD ((f).toNat) Fn.zero).outs).length : Nat) : Int)
        ·
          refine q_lss true rfl rfl (decide_eq_true hc143) zN (lw_nil (wp_seq (c_cond_t rfl (wp_skip (wp_seq (wp_block (wp_seq (wp_plain _ [0, 0] rfl (lw_tvn 2 rfl (wp_seq (wp_plain _ [0, 0, 0, 0, 3, 4] rfl (lw_tv 3 rfl ?_))))))))))))
          have hbd144 : ∀ (wq : World), (Instr.build 46 #[(0, (.int .i64 ((11 : Nat) : Int))), (1, (.int .i64 f)), (2, (.int .i64 ((k : Nat) : Int))), (3, (.int .i64 n))]).run Try.prog wq = .ok (.agg #[(.int .i64 ((11 : Nat) : Int)), (.int .i64 f), (.int .i64 ((k : Nat) : Int)), (.int .i64 n), (.slice none 0 0)]) wq := by intro wq; kernel_rfl
          refine q_build (ps := #[(0, (.int .i64 ((11 : Nat) : Int))), (1, (.int .i64 f)), (2, (.int .i64 ((k : Nat) : Int))), (3, (.int .i64 n))]) (.agg #[(.int .i64 ((11 : Nat) : Int)), (.int .i64 f), (.int .i64 ((k : Nat) : Int)), (.int .i64 n), (.slice none 0 0)]) z33_3 (fun wq => hbd144  wq) zN ?_
          have hq146 := hL138_1.lt
          have hq147 := hL138_2.lt
          have hq148 := hL138_3.lt
          refine r_allocA (z := .agg #[.int .i64 0, .int .i64 0, .int .i64 0, .int .i64 0, .slice none 0 0]) zr46 zN fun w145 hX145 hz145 hB145 => ?_
          have hzs145 : w138.heap.size ≤ w145.heap.size := hX145.size
          have hE145 : Ext w w145 := hE138.trans hX145
          have hL138_0x145 := hL138_0.ext ((good_owS (good_oEx 46 dp))) hX145
          have hL138_1x145 := hL138_1.ext hX145
          have hL138_2x145 := hL138_2.ext hX145
          have hL138_3x145 := hL138_3.ext hX145
          replace hB145 : BX w145.heap w138.heap.size [(.int .i64 0), (.int .i64 0), (.int .i64 0), (.int .i64 0), (.slice none 0 0)] := hB145
          refine e_setA (vs := [(.int .i64 ((11 : Nat) : Int)), (.int .i64 f), (.int .i64 ((k : Nat) : Int)), (.int .i64 n), (.slice none 0 0)]) agg46 rfl rfl z33_0 hB145 rfl rfl zN fun w149 hC149 hz149 hB149 => ?_
          replace hB149 : BX w149.heap w138.heap.size [(.int .i64 ((11 : Nat) : Int)), (.int .i64 f), (.int .i64 ((k : Nat) : Int)), (.int .i64 n), (.slice none 0 0)] := hB149
          have hzs149 : w145.heap.size ≤ w149.heap.size := hC149.size
          have hE149 : Ext w w149 := hC149.below hE145 (fun c hc => by have := List.mem_singleton.1 hc; omega) hE145.size
          have hF150 := hL138_0x145.chg ((good_owS (good_oEx 46 dp))) hC149 (fun c hc => by have := List.mem_singleton.1 hc; omega)
          have hF151 := hL138_1x145.chg hC149 (fun hm => by have := List.mem_singleton.1 hm; omega)
          have hF152 := hL138_2x145.chg hC149 (fun hm => by have := List.mem_singleton.1 hm; omega)
          have hF153 := hL138_3x145.chg hC149 (fun hm => by have := List.mem_singleton.1 hm; omega)
          refine lw_nil (wp_seq (wp_seq (wp_plain _ [0, 2, 0] rfl (q_fldP (p := (.pointer (some ⟨w125.heap.size, 0, none⟩))) (b := w125.heap.size) (o := 0) 1 fd49_1 rfl rfl zN (q_load (p := (padd (.pointer (some ⟨w125.heap.size, 0, none⟩)) 1)) (.inr rfl) (.int .i64 ((p.getD ((f).toNat) Fn.zero).params)) one2 rfl (hF153.ldp (i := 1) sM) zN (lw_tvn 1 rfl (wp_block ?_)))))))
          refine c_loop (S := Nat × Value) (fun (⟨i, vk⟩ : Nat × Value) => ([(55, (.int .i64 ((i : Nat) : Int))), (1, (.int .i64 f)), (2, (.int .i64 n)), (3, (.pointer (some ⟨w.heap.size, 0, none⟩))), (6, (.pointer (some ⟨w1.heap.size, 0, none⟩))), (9, (.pointer (some ⟨w125.heap.size, 0, none⟩))), (11, (.pointer (some ⟨w138.heap.size, 0, none⟩))), (45, (.int .i64 ((((p.getD ((f).toNat) Fn.zero).outs).length : Nat) : Int))), (46, (.int .i64 ((k : Nat) : Int))), (54, (.int .i64 ((p.getD ((f).toNat) Fn.zero).params)))] : List (Nat × Value))) (fun (⟨i, vk⟩ : Nat × Value) (W : World) => Ext w W ∧ Fr (owS 5 (oEx 46 1) 46) w149.heap.size W.heap.size W.heap vk (varL 0 i) ∧ Fr (owS 5 (oEx 46 dp) 46) w132.heap.size w138.heap.size W.heap vo (loopL f.toNat (p.getD f.toNat Fn.zero).params.toNat n.toNat 0 k) ∧ BX W.heap w.heap.size [vp] ∧ BX W.heap w1.heap.size [(.slice none 0 0)] ∧ BX W.heap w125.heap.size [(.string (⟨#[108, 111, 111, 112]⟩)), (.int .i64 ((p.getD ((f).toNat) Fn.zero).params)), vo] ∧ BX W.heap w138.heap.size [(.int .i64 ((11 : Nat) : Int)), (.int .i64 f), (.int .i64 ((k : Nat) : Int)), (.int .i64 n), vk] ∧ i ≤ (p.getD f.toNat Fn.zero).params.toNat ∧ w138.heap.size ≤ w149.heap.size ∧ w138.heap.size ≤ w138.heap.size ∧ w.heap.size ≤ w132.heap.size ∧ w.heap.size < w149.heap.size ∧ w1.heap.size < w149.heap.size ∧ w125.heap.size < w149.heap.size ∧ w138.heap.size < w149.heap.size ∧ w149.heap.size ≤ W.heap.size ∧ w132.heap.size ≤ W.heap.size) (fun (⟨i, vk⟩ : Nat × Value) => (p.getD f.toNat Fn.zero).params.toNat - i) (0, (.slice none 0 0)) ⟨rfl, rfl, rfl, rfl, rfl, rfl, rfl, rfl, rfl, rfl, trivial⟩ ⟨hE149, (frNilS _ 0 _).up (good_owS (good_oEx 46 1)), hF150, hF151, hF152, hF153, hB149, oM, oM, oM, oM, oM, oM, oM, oM, oM, oM⟩ ?_
          clear hL138_3 hL138_2 hL138_1 hL138_0 hz145 hX145 hzs145 hE145 hL138_0x145 hL138_1x145 hL138_2x145 hL138_3x145 hz149 hC149 hF150 hF151 hF152 hF153
          rintro ⟨i, vk⟩ ρ158 w158 ⟨hE158, hL158_0, hL158_1, hL158_2, hL158_3, hL158_4, hL158_5, hp158_0, huw, huf, hwb, hkg154, hkg155, hkg156, hkg157, hkB159, hkB160⟩
          have hzs158 : w.heap.size ≤ w158.heap.size := hE158.size
          have hq161 := hL158_2.lt
          have hq162 := hL158_3.lt
          have hq163 := hL158_4.lt
          have hq164 := hL158_5.lt
          refine wp_seq (wp_plain _ [0] rfl ?_)
          by_cases hc165 : ((i : Nat) : Int) < (p.getD ((f).toNat) Fn.zero).params
          ·
            refine q_lss true rfl rfl (decide_eq_true hc165) zN (lw_nil (wp_seq (c_cond_t rfl (wp_skip (wp_seq (wp_block (wp_seq (wp_plain _ [0, 0] rfl (lw_tvn 2 rfl (wp_draw _ [0, 1, 0, 3, 3, 4, 0, 4] mixed (by kernel_rfl) (q_fldP (p := (.pointer (some ⟨w138.heap.size, 0, none⟩))) (b := w138.heap.size) (o := 0) 4 fd46_4 rfl rfl zN (q_load (p := (padd (.pointer (some ⟨w138.heap.size, 0, none⟩)) 4)) (.inl rfl) vk one44 rfl (hL158_5.ldp (i := 4) sM) zN (lw_tv 1 rfl (lw_call 86 [] [] [(.int .i64 ((i : Nat) : Int))] rfl rfl cf86 zN (c_impl_variable _ (((i : Nat) : Int)) oM) ?_))))))))))))))
            rintro e166 w166 ⟨rfl, hX166⟩
            refine ⟨_, rfl, hX166, ?_⟩
            replace hX166 := hX166.of_drew
            have hzs166 : w158.heap.size ≤ w166.heap.size := hX166.size
            have hE166 : Ext w w166 := hE158.trans hX166
            have hL158_0x166 := hL158_0.ext ((good_owS (good_oEx 46 1))) hX166
            have hL158_1x166 := hL158_1.ext ((good_owS (good_oEx 46 dp))) hX166
            have hL158_2x166 := hL158_2.ext hX166
            have hL158_3x166 := hL158_3.ext hX166
            have hL158_4x166 := hL158_4.ext hX166
            have hL158_5x166 := hL158_5.ext hX166
            refine r_oneS (cs := [(.int .i64 ((2 : Nat) : Int)), (.int .i64 ((i : Nat) : Int)), (.int .i64 0), (.int .i64 0), (.slice none 0 0)]) (y := (.mk 2 ((i : Nat) : Int) 0 0 [])) (B := w166.heap.size) (good_oEx 46 1) u44 tiS46 rfl z33_7 rfl (FrN.mk1 (d := 1) (x := (.mk 2 ((i : Nat) : Int) 0 0 [])) oM (exR_mk (a := 2) (b := ((i : Nat) : Int)) (c := 0) (k := 0) oM oM oM oM) (frNilS _ 0 _)) oM zN fun v167 w167 hX167 hz167 hO167 => ?_
            have hzs167 : w166.heap.size ≤ w167.heap.size := hX167.size
            have hE167 : Ext w w167 := hE166.trans hX167
            have hL158_0x167 := hL158_0x166.ext ((good_owS (good_oEx 46 1))) hX167
            have hL158_1x167 := hL158_1x166.ext ((good_owS (good_oEx 46 dp))) hX167
            have hL158_2x167 := hL158_2x166.ext hX167
            have hL158_3x167 := hL158_3x166.ext hX167
            have hL158_4x167 := hL158_4x166.ext hX167
            have hL158_5x167 := hL158_5x166.ext hX167
            refine e_appS (v := vk) (a := v167) (good_oEx 46 1) u44 tiS46 rfl z33_7 rfl rfl hL158_0x167 oM hO167 oM oM (by rw [varL_len]; omega) (by rw [varL_len]; unfold maxLen; omega) zN fun v168 w168 F168 hC168 hF168 hO168 => ?_
            have hzs168 : w167.heap.size ≤ w168.heap.size := hC168.size
            have hE168 : Ext w w168 := hC168.below hE167 (fun c hc => by have := hF168 _ hc; omega) hE167.size
            have hF169 := hL158_1x167.chg ((good_owS (good_oEx 46 dp))) hC168 (fun c hc => by have := hF168 _ hc; omega)
            have hF170 := hL158_2x167.chg hC168 (fun hm => by have := hF168 _ hm; omega)
            have hF171 := hL158_3x167.chg hC168 (fun hm => by have := hF168 _ hm; omega)
            have hF172 := hL158_4x167.chg hC168 (fun hm => by have := hF168 _ hm; omega)
            have hF173 := hL158_5x167.chg hC168 (fun hm => by have := hF168 _ hm; omega)
            refine q_fldP (p := (.pointer (some ⟨w138.heap.size, 0, none⟩))) (b := w138.heap.size) (o := 0) 4 fd46_4 rfl rfl zN (e_setB (k := 4) (w := w168) sz44 rfl rfl (isSl_one hO168.isSlS) hF173 sM zN fun w174 hC174 hz174 hB174 => ?_)
            replace hB174 : BX w174.heap w138.heap.size [(.int .i64 ((11 : Nat) : Int)), (.int .i64 f), (.int .i64 ((k : Nat) : Int)), (.int .i64 n), v168] := hB174
            have hzs174 : w168.heap.size ≤ w174.heap.size := hC174.size
            have hE174 : Ext w w174 := hC174.below hE168 (fun c hc => by have := List.mem_singleton.1 hc; omega) hE168.size
            have hF175 := hF169.chg ((good_owS (good_oEx 46 dp))) hC174 (fun c hc => by have := List.mem_singleton.1 hc; omega)
            have hF176 := hF170.chg hC174 (fun hm => by have := List.mem_singleton.1 hm; omega)
            have hF177 := hF171.chg hC174 (fun hm => by have := List.mem_singleton.1 hm; omega)
            have hF178 := hF172.chg hC174 (fun hm => by have := List.mem_singleton.1 hm; omega)
            have hF179 := hO168.chg ((good_owS (good_oEx 46 1))) hC174 (fun c hc => by have := List.mem_singleton.1 hc; omega)
            exact lw_nil (wp_plain _ [0, 0] rfl (q_add ((i + 1 : Nat) : Int) rfl rfl (w64n oM oM) zN (lw_tvn 1 rfl ⟨((i + 1), v168), _, rfl, ⟨rfl, rfl, rfl, rfl, rfl, rfl, rfl, rfl, rfl, rfl, trivial⟩, ⟨hE174, (by rw [varL_snoc, Nat.zero_add]; exact hF179.up (good_owS (good_oEx 46 1))), hF175, hF176, hF177, hF178, hB174, oM, oM, oM, oM, oM, oM, oM, oM, oM, oM⟩, by first | omega | (dsimp only; omega)⟩)))
          ·
            refine q_lss false rfl rfl (decide_eq_false hc165) zN (lw_nil (wp_seq (c_cond_f rfl (wp_exit (t_exit (t_exit (c_exit_here (wp_plain _ [0, 2, 2, 3, 4, 0, 4] rfl ?_))))))))
            have hik : i = (p.getD f.toNat Fn.zero).params.toNat := by omega
            have hkm : Fr (owS 5 (oEx 46 1) 46) w149.heap.size w158.heap.size w158.heap vk (varL 0 (p.getD f.toNat Fn.zero).params.toNat) := by rw [← hik]; exact hL158_0
            refine q_fldP (p := (.pointer (some ⟨w125.heap.size, 0, none⟩))) (b := w125.heap.size) (o := 0) 2 fd49_2 rfl rfl zN (q_load (p := (padd (.pointer (some ⟨w125.heap.size, 0, none⟩)) 2)) (.inr rfl) vo one44 rfl (hL158_4.ldp (i := 2) sM) zN (q_loadA (p := (.pointer (some ⟨w138.heap.size, 0, none⟩))) (.inr rfl) [(.int .i64 ((11 : Nat) : Int)), (.int .i64 f), (.int .i64 ((k : Nat) : Int)), (.int .i64 n), vk] agg46 rfl (fun wq9 hw9 => LD.of_box (BX.ext (w := w158) hL158_5 hw9)) rfl zN ?_))
            refine r_oneS (cs := [(.int .i64 ((11 : Nat) : Int)), (.int .i64 f), (.int .i64 ((k : Nat) : Int)), (.int .i64 n), vk]) (y := (.mk 11 f ((k : Nat) : Int) n (varL 0 (p.getD f.toNat Fn.zero).params.toNat))) (B := w149.heap.size) (good_oEx 46 dp) u44 tiS46 rfl z33_7 rfl (FrN.le (FrN.mk1 (d := 2) (x := .mk 11 f ((k : Nat) : Int) n (varL 0 (p.getD f.toNat Fn.zero).params.toNat)) oM (exR_mk oM oM oM oM) hkm) oM) oM zN fun v180 w180 hX180 hz180 hO180 => ?_
            have hzs180 : w158.heap.size ≤ w180.heap.size := hX180.size
            have hE180 : Ext w w180 := hE158.trans hX180
            have hL158_1x180 := hL158_1.ext ((good_owS (good_oEx 46 dp))) hX180
            have hL158_2x180 := hL158_2.ext hX180
            have hL158_3x180 := hL158_3.ext hX180
            have hL158_4x180 := hL158_4.ext hX180
            have hL158_5x180 := hL158_5.ext hX180
            refine e_appS (v := vo) (a := v180) (good_oEx 46 dp) u44 tiS46 rfl z33_7 rfl rfl hL158_1x180 oM hO180 oM oM (by rw [loopL_len]; omega) (by rw [loopL_len]; unfold maxLen; omega) zN fun v181 w181 F181 hC181 hF181 hO181 => ?_
            have hzs181 : w180.heap.size ≤ w181.heap.size := hC181.size
            have hE181 : Ext w w181 := hC181.below hE180 (fun c hc => by have := hF181 _ hc; omega) hE180.size
            have hF182 := hL158_2x180.chg hC181 (fun hm => by have := hF181 _ hm; omega)
            have hF183 := hL158_3x180.chg hC181 (fun hm => by have := hF181 _ hm; omega)
            have hF184 := hL158_4x180.chg hC181 (fun hm => by have := hF181 _ hm; omega)
            have hF185 := hL158_5x180.chg hC181 (fun hm => by have := hF181 _ hm; omega)
            refine q_fldP (p := (.pointer (some ⟨w125.heap.size, 0, none⟩))) (b := w125.heap.size) (o := 0) 2 fd49_2 rfl rfl zN (e_setB (k := 2) (w := w181) sz44 rfl rfl (isSl_one hO181.isSlS) hF184 sM zN fun w186 hC186 hz186 hB186 => ?_)
            replace hB186 : BX w186.heap w125.heap.size [(.string (⟨#[108, 111, 111, 112]⟩)), (.int .i64 ((p.getD ((f).toNat) Fn.zero).params)), v181] := hB186
            have hzs186 : w181.heap.size ≤ w186.heap.size := hC186.size
            have hE186 : Ext w w186 := hC186.below hE181 (fun c hc => by have := List.mem_singleton.1 hc; omega) hE181.size
            have hF187 := hF182.chg hC186 (fun hm => by have := List.mem_singleton.1 hm; omega)
            have hF188 := hF183.chg hC186 (fun hm => by have := List.mem_singleton.1 hm; omega)
            have hF189 := hF185.chg hC186 (fun hm => by have := List.mem_singleton.1 hm; omega)
            have hF190 := hO181.chg ((good_owS (good_oEx 46 dp))) hC186 (fun c hc => by have := List.mem_singleton.1 hc; omega)
            exact lw_nil (wp_plain _ [0, 0] rfl (q_add ((k + 1 : Nat) : Int) rfl rfl (w64n oM oM) zN (lw_tvn 1 rfl ⟨((k + 1), v181), _, rfl, ⟨rfl, rfl, rfl, rfl, rfl, rfl, rfl, trivial⟩, ⟨hE186, (by rw [loopL_snoc, Nat.zero_add, hft, hnt]; exact hF190.up (good_owS (good_oEx 46 dp))), hF187, hF188, hB186, oM, oM, oM, oM, oM⟩, by first | omega | (dsimp only; omega)⟩)))
        ·
          refine q_lss false rfl rfl (decide_eq_false hc143) zN (lw_nil (wp_seq (c_cond_f rfl (wp_exit (t_exit (t_exit (c_exit_here (wp_seq (wp_plain _ [2, 3, 3, 4] rfl ?_)))))))))
          have hkk : k = (p.getD f.toNat Fn.zero).outs.length := by omega
          have hrm : Fr (owS 5 (oEx 46 dp) 46) w132.heap.size w138.heap.size w138.heap vo (loopL f.toNat (p.getD f.toNat Fn.zero).params.toNat n.toNat 0 (p.getD f.toNat Fn.zero).outs.length) := by rw [← hkk]; exact hL138_0
          refine q_loadA (p := (.pointer (some ⟨w.heap.size, 0, none⟩))) (.inr rfl) [vp] agg52 rfl (fun wq9 hw9 => LD.of_box (BX.ext (w := w138) hL138_1 hw9)) rfl zN (lw_call 87 [] [] [(.agg #[vp])] rfl rfl cf87 zN (c_impl_cloneProgram _ dp vp (p) (hp.ext (good_rdS (good_rFn dp)) hE138) (by exact hz) oM) ?_)
          rintro e191 w191 ⟨v191, rfl, hX191, hO191⟩
          refine ⟨_, rfl, hX191, ?_⟩
          have hzs191 : w138.heap.size ≤ w191.heap.size := hX191.size
          have hE191 : Ext w w191 := hE138.trans hX191
          have hrmx191 := hrm.ext ((good_owS (good_oEx 46 dp))) hX191
          have hL138_1x191 := hL138_1.ext hX191
          have hL138_2x191 := hL138_2.ext hX191
          have hL138_3x191 := hL138_3.ext hX191
          have hq193 := hL138_1x191.lt
          have hq194 := hL138_2x191.lt
          have hq195 := hL138_3x191.lt
          refine r_allocA (z := .agg #[.slice none 0 0]) zr52 zN fun w192 hX192 hz192 hB192 => ?_
          have hzs192 : w191.heap.size ≤ w192.heap.size := hX192.size
          have hE192 : Ext w w192 := hE191.trans hX192
          have hrmx192 := hrmx191.ext ((good_owS (good_oEx 46 dp))) hX192
          have hL138_1x192 := hL138_1x191.ext hX192
          have hL138_2x192 := hL138_2x191.ext hX192
          have hL138_3x192 := hL138_3x191.ext hX192
          have hO191x192 := hO191.ext ((good_owS (good_oFn 46 dp))) hX192
          replace hB192 : BX w192.heap w191.heap.size [(.slice none 0 0)] := hB192
          refine e_setA (vs := [v191]) agg52 rfl rfl (by intro u hu; simp only [List.mem_cons, List.not_mem_nil, or_false] at hu; rcases hu with rfl <;> first | exact ⟨rfl, rfl⟩ | exact isSl_one hO191x192.isSlS) hB192 rfl rfl zN fun w196 hC196 hz196 hB196 => ?_
          replace hB196 : BX w196.heap w191.heap.size [v191] := hB196
          have hzs196 : w192.heap.size ≤ w196.heap.size := hC196.size
          have hE196 : Ext w w196 := hC196.below hE192 (fun c hc => by have := List.mem_singleton.1 hc; omega) hE192.size
          have hF197 := hrmx192.chg ((good_owS (good_oEx 46 dp))) hC196 (fun c hc => by have := List.mem_singleton.1 hc; omega)
          have hF198 := hL138_1x192.chg hC196 (fun hm => by have := List.mem_singleton.1 hm; omega)
          have hF199 := hL138_2x192.chg hC196 (fun hm => by have := List.mem_singleton.1 hm; omega)
          have hF200 := hL138_3x192.chg hC196 (fun hm => by have := List.mem_singleton.1 hm; omega)
          have hF201 := hO191x192.chg ((good_owS (good_oFn 46 dp))) hC196 (fun c hc => by have := List.mem_singleton.1 hc; omega)
          refine lw_nil (wp_seq (wp_plain _ [0, 2, 2, 3, 4, 0, 4] rfl (q_fldP (p := (.pointer (some ⟨w191.heap.size, 0, none⟩))) (b := w191.heap.size) (o := 0) 0 fd52_0 rfl rfl zN (q_load (p := (padd (.pointer (some ⟨w191.heap.size, 0, none⟩)) 0)) (.inr rfl) v191 one50 rfl (hB196.ldp (i := 0) sM) zN (q_loadA (p := (.pointer (some ⟨w125.heap.size, 0, none⟩))) (.inr rfl) [(.string (⟨#[108, 111, 111, 112]⟩)), (.int .i64 ((p.getD ((f).toNat) Fn.zero).params)), vo] agg49 rfl (fun wq9 hw9 => LD.of_box (BX.ext (w := w196) hF200 hw9)) rfl zN ?_)))))
          refine r_oneQ (cs := [(.string (⟨#[108, 111, 111, 112]⟩)), (.int .i64 ((p.getD ((f).toNat) Fn.zero).params)), vo]) (y := (Fn.mk (⟨#[108, 111, 111, 112]⟩) ((p.getD ((f).toNat) Fn.zero).params) (loopL f.toNat (p.getD f.toNat Fn.zero).params.toNat n.toNat 0 (p.getD f.toNat Fn.zero).outs.length))) (good_oFn 46 dp) u50 tiS49 rfl z33_7 rfl (FrN.mkF (x := ⟨(⟨#[108, 111, 111, 112]⟩), ((p.getD ((f).toNat) Fn.zero).params), (loopL f.toNat (p.getD f.toNat Fn.zero).params.toNat n.toNat 0 (p.getD f.toNat Fn.zero).outs.length)⟩) (i64_mk (a := ((p.getD ((f).toNat) Fn.zero).params)) hx127.rng) hF197) zN fun v202 w202 hX202 hz202 hO202 => ?_
          have hzs202 : w196.heap.size ≤ w202.heap.size := hX202.size
          have hE202 : Ext w w202 := hE196.trans hX202
          have hF198x202 := hF198.ext hX202
          have hF199x202 := hF199.ext hX202
          have hF200x202 := hF200.ext hX202
          have hF201x202 := hF201.ext ((good_owS (good_oFn 46 dp))) hX202
          have hB196x202 := hB196.ext hX202
          refine e_appG (v := v191) (a := v202) (good_oFn 46 dp) u50 tiS49 rfl z33_7 rfl rfl hF201x202 hO202 (fun b h8 h9 => by (try dsimp only at h9); omega) oM (by unfold maxLen; omega) zN fun v203 w203 F203 hC203 hF203 hO203 => ?_
          have hzs203 : w202.heap.size ≤ w203.heap.size := hC203.size
          have hE203 : Ext w w203 := hC203.below hE202 (fun c hc => by have := hF203 _ hc; omega) hE202.size
          have hF204 := hF198x202.chg hC203 (fun hm => by have := hF203 _ hm; omega)
          have hF205 := hF199x202.chg hC203 (fun hm => by have := hF203 _ hm; omega)
          have hF206 := hF200x202.chg hC203 (fun hm => by have := hF203 _ hm; omega)
          have hF207 := hB196x202.chg hC203 (fun hm => by have := hF203 _ hm; omega)
          refine q_fldP (p := (.pointer (some ⟨w191.heap.size, 0, none⟩))) (b := w191.heap.size) (o := 0) 0 fd52_0 rfl rfl zN (e_setB (k := 0) (w := w203) sz50 rfl rfl (isSl_one (FrP.isSlS hO203)) hF207 sM zN fun w208 hC208 hz208 hB208 => ?_)
          replace hB208 : BX w208.heap w191.heap.size [v203] := hB208
          have hzs208 : w203.heap.size ≤ w208.heap.size := hC208.size
          have hE208 : Ext w w208 := hC208.below hE203 (fun c hc => by have := List.mem_singleton.1 hc; omega) hE203.size
          have hF209 := hF204.chg hC208 (fun hm => by have := List.mem_singleton.1 hm; omega)
          have hF210 := hF205.chg hC208 (fun hm => by have := List.mem_singleton.1 hm; omega)
          have hF211 := hF206.chg hC208 (fun hm => by have := List.mem_singleton.1 hm; omega)
          have hF212 := hO203.chg (good_owS (good_oFn 46 dp)) hC208 (fun c hc => by have := List.mem_singleton.1 hc; intro hs9; (try dsimp only at hs9); omega)
          refine lw_nil (wp_seq (wp_seq (wp_plain _ [2, 3, 0] rfl ?_)))
          have hfr : Fr (owS 3 (oFn 46 dp) 49) w132.heap.size w208.heap.size w208.heap v203 (lpX p f n) := hF212.fr (good_owS (good_oFn 46 dp)) (B := w132.heap.size) (fun b hb => by (try dsimp only at hb); omega)
          refine q_loadA (p := (.pointer (some ⟨w191.heap.size, 0, none⟩))) (.inr rfl) [v203] agg52 rfl (fun wq9 hw9 => LD.of_box (BX.ext (w := w208) hB208 hw9)) rfl zN (lw_call 88 [] [] [(.agg #[v203])] rfl rfl cf88 zN (c_impl_ValidProgram _ dp v203 ((lpX p f n)) (RN.of_frF hfr (fun b hb => by cases hb)) (by exact hszx)) ?_)
          rintro e213 w213 ⟨rfl, hX213⟩
          refine ⟨_, rfl, hX213, ?_⟩
          have hzs213 : w208.heap.size ≤ w213.heap.size := hX213.size
          have hE213 : Ext w w213 := hE208.trans hX213
          have hF209x213 := hF209.ext hX213
          have hF210x213 := hF210.ext hX213
          have hF211x213 := hF211.ext hX213
          have hB208x213 := hB208.ext hX213
          have hfrx213 := hfr.ext ((good_owS (good_oFn 46 dp))) hX213
          refine q_not (!(okP (lpX p f n))) rfl rfl zN (lw_nil ?_)
          cases hb214 : (!(okP (lpX p f n)))
          ·
            refine c_cond_f (by first | rfl | (show Value.bool _ = _; rw [hb214])) (wp_skip (wp_seq (wp_plain _ [2, 4, 0] rfl (q_loadA (p := (.pointer (some ⟨w191.heap.size, 0, none⟩))) (.inr rfl) [v203] agg52 rfl (fun wq9 hw9 => LD.of_box (BX.ext (w := w213) hB208x213 hw9)) rfl zN (e_setA (vs := [v203]) agg52 rfl rfl (by intro u hu; simp only [List.mem_cons, List.not_mem_nil, or_false] at hu; rcases hu with rfl <;> first | exact ⟨rfl, rfl⟩ | exact isSl_one hfrx213.isSlS) hF210x213 rfl rfl zN fun w215 hC215 hz215 hB215 => ?_)))))
            replace hB215 : BX w215.heap w1.heap.size [v203] := hB215
            have hzs215 : w213.heap.size ≤ w215.heap.size := hC215.size
            have hE215 : Ext w w215 := hC215.below hE213 (fun c hc => by have := List.mem_singleton.1 hc; omega) hE213.size
            have hF216 := hF209x213.chg hC215 (fun hm => by have := List.mem_singleton.1 hm; omega)
            have hF217 := hF211x213.chg hC215 (fun hm => by have := List.mem_singleton.1 hm; omega)
            have hF218 := hB208x213.chg hC215 (fun hm => by have := List.mem_singleton.1 hm; omega)
            have hF219 := hfrx213.chg ((good_owS (good_oFn 46 dp))) hC215 (fun c hc => by have := List.mem_singleton.1 hc; omega)
            refine lw_tvn 1 rfl (wp_ret ?_)
            have hcd : wlC p f n = ((0 : Nat) : Int) := by first | exact wlC_4 hg0 z33_6 | exact wlC_3 hg0 z33_6 (bn_t z33_6) | exact wlC_3 hg0 z33_6 z33_6 | exact wlC_t hg0 z33_6 (bn_f z33_6) | exact wlC_t hg0 z33_6 z33_6 | exact wlC_b oM (bn_t z33_6) | exact wlC_a oM
            exact post_retC (t0 := 7) (ts := []) (cs := [v203]) [(.int .i64 ((0 : Nat) : Int))] rfl agg52 rfl hB215 rfl rfl ⟨v203, by rw [hcd], hE215, (by rw [wlR_t hcd]; exact ((hF219.up (good_owS (good_oFn 46 dp))).low (B' := w.heap.size) oM))⟩
          ·
            refine c_cond_t (by first | rfl | (show Value.bool _ = _; rw [hb214])) (wp_seq (wp_plain _ [0, 4, 0] rfl ?_))
            have hbd220 : ∀ (wq : World), (Instr.build 52 #[]).run Try.prog wq = .ok (.agg #[(.slice none 0 0)]) wq := by intro wq; kernel_rfl
            refine q_build (ps := #[]) (.agg #[(.slice none 0 0)]) z33_4 (fun wq => hbd220  wq) zN (e_setA (vs := [(.slice none 0 0)]) agg52 rfl rfl z33_2 hF210x213 rfl rfl zN fun w221 hC221 hz221 hB221 => ?_)
            replace hB221 : BX w221.heap w1.heap.size [(.slice none 0 0)] := hB221
            have hzs221 : w213.heap.size ≤ w221.heap.size := hC221.size
            have hE221 : Ext w w221 := hC221.below hE213 (fun c hc => by have := List.mem_singleton.1 hc; omega) hE213.size
            have hF222 := hF209x213.chg hC221 (fun hm => by have := List.mem_singleton.1 hm; omega)
            have hF223 := hF211x213.chg hC221 (fun hm => by have := List.mem_singleton.1 hm; omega)
            have hF224 := hB208x213.chg hC221 (fun hm => by have := List.mem_singleton.1 hm; omega)
            have hF225 := hfrx213.chg ((good_owS (good_oFn 46 dp))) hC221 (fun c hc => by have := List.mem_singleton.1 hc; omega)
            refine lw_tvn 1 rfl (wp_ret (t_ret ?_))
            have hcd : wlC p f n = ((3 : Nat) : Int) := by first | exact wlC_4 hg0 z33_6 | exact wlC_3 hg0 z33_6 (bn_t z33_6) | exact wlC_3 hg0 z33_6 z33_6 | exact wlC_t hg0 z33_6 (bn_f z33_6) | exact wlC_t hg0 z33_6 z33_6 | exact wlC_b oM (bn_t z33_6) | exact wlC_a oM
            exact post_retC (t0 := 7) (ts := []) (cs := [(.slice none 0 0)]) [(.int .i64 ((3 : Nat) : Int))] rfl agg52 rfl hB221 rfl rfl ⟨_, by rw [hcd], hE221, z33_5⟩
      ·
        refine c_cond_t (by first | rfl | (show Value.bool _ = _; rw [hb126])) (wp_seq (wp_plain _ [0, 4, 0] rfl ?_))
        have hbd226 : ∀ (wq : World), (Instr.build 52 #[]).run Try.prog wq = .ok (.agg #[(.slice none 0 0)]) wq := by intro wq; kernel_rfl
        refine q_build (ps := #[]) (.agg #[(.slice none 0 0)]) z33_4 (fun wq => hbd226  wq) zN (e_setA (vs := [(.slice none 0 0)]) agg52 rfl rfl z33_2 hB2x125 rfl rfl zN fun w227 hC227 hz227 hB227 => ?_)
        replace hB227 : BX w227.heap w1.heap.size [(.slice none 0 0)] := hB227
        have hzs227 : w125.heap.size ≤ w227.heap.size := hC227.size
        have hE227 : Ext w w227 := hC227.below hE125 (fun c hc => by have := List.mem_singleton.1 hc; omega) hE125.size
        have hF228 := hB1x125.chg hC227 (fun hm => by have := List.mem_singleton.1 hm; omega)
        refine lw_tvn 1 rfl (wp_ret (t_ret ?_))
        have hcd : wlC p f n = ((4 : Nat) : Int) := by first | exact wlC_4 hg0 z33_6 | exact wlC_3 hg0 z33_6 (bn_t z33_6) | exact wlC_3 hg0 z33_6 z33_6 | exact wlC_t hg0 z33_6 (bn_f z33_6) | exact wlC_t hg0 z33_6 z33_6 | exact wlC_b oM (bn_t z33_6) | exact wlC_a oM
        exact post_retC (t0 := 7) (ts := []) (cs := [(.slice none 0 0)]) [(.int .i64 ((4 : Nat) : Int))] rfl agg52 rfl hB227 rfl rfl ⟨_, by rw [hcd], hE227, z33_5⟩
theorem z31_0 {p : Prop} (h : p := by intro u hu; simp only [List.mem_cons, List.not_mem_nil, or_false] at hu; rcases hu with rfl <;> first | exact ⟨rfl, rfl⟩) : p := h
theorem z31_1 {p : Prop} (h : p := by simp only [List.map_toArray, List.map_cons, List.map_nil]; rfl) : p := h
theorem z31_2 {p : Prop} (h : p := by simp only [List.map_toArray, List.map_cons, List.map_nil]) : p := h
theorem z31_3 {p : Prop} (h : p := by rw [wlR_n (by rw [hcd]; omega)]; exact frNilS _ _ _) : p := h
theorem z31_4 {p : Prop} (h : p := by assumption) : p := h
theorem c_spec_WithLoop (w : World) (dp : Nat) (vp : Value) (p : List Fn) (f : Int) (n : Int) (hp : RP [] dp w.heap vp p) (_hf : -9223372036854775808 ≤ f ∧ f ≤ 9223372036854775807) (_hn : -9223372036854775808 ≤ n ∧ n ≤ 9223372036854775807) (hz : SzP p) (hdp : 2 ≤ dp) :
    Calls Try.prog 31 #[(.agg #[vp]), .int .i64 f, .int .i64 n] w (fun e w' => ∃ v, e = .returned (.tuple #[.agg #[v], .int .i64 (wlC p f n)]) ∧ Ext w w' ∧ Fr (owS 3 (oFn 46 dp) 49) w.heap.size w'.heap.size w'.heap v (wlR p f n)) := by
  refine calls_mk [(.agg #[vp]), .int .i64 f, .int .i64 n] 90 Try.func31 rfl rfl sM ?_
  have hE0 : Ext w w := Ext.refl w
  have hl_vp := hp.lenle
  unfold maxLen at hl_vp
  refine wp_seq (wp_plain _ [3, 3, 0] rfl (r_boxA (cs := #[vp]) rfl zN fun w1 hX1 hz1 hB1 => ?_))
  have hzs1 : w.heap.size ≤ w1.heap.size := hX1.size
  have hE1 : Ext w w1 := hE0.trans hX1
  replace hB1 : BX w1.heap w.heap.size [vp] := hB1
  have hq3 := hB1.lt
  refine r_allocA (z := .agg #[.slice none 0 0]) zr52 zN fun w2 hX2 hz2 hB2 => ?_
  have hzs2 : w1.heap.size ≤ w2.heap.size := hX2.size
  have hE2 : Ext w w2 := hE1.trans hX2
  have hB1x2 := hB1.ext hX2
  replace hB2 : BX w2.heap w1.heap.size [(.slice none 0 0)] := hB2
  refine lw_tvn 1 rfl (wp_seq (wp_seq (wp_plain _ [3, 0] rfl (lw_call 77 [] [] [(.pointer (some ⟨w.heap.size, 0, none⟩))] rfl rfl cf77 zN (c_spec_l02Ok _ dp ((.pointer (some ⟨w.heap.size, 0, none⟩))) (p) (RN.box hB1x2 (RP.mk' (hp.ext (good_rdS (good_rFn dp)) hE2)) sM) (by exact hz)) ?_))))
  rintro e4 w4 ⟨rfl, hX4⟩
  refine ⟨_, rfl, hX4, ?_⟩
  have hzs4 : w2.heap.size ≤ w4.heap.size := hX4.size
  have hE4 : Ext w w4 := hE2.trans hX4
  have hB1x4 := hB1x2.ext hX4
  have hB2x4 := hB2.ext hX4
  refine q_not (!(okP p)) rfl rfl zN (lw_nil ?_)
  cases hb5 : (!(okP p))
  ·
    refine c_cond_f (by first | rfl | (show Value.bool _ = _; rw [hb5])) (wp_skip (wp_seq (wp_seq (wp_plain _ [0, 3, 0, 0, 0, 0, 0, 0] rfl (lw_tv 1 rfl (lw_call 78 [] [] [(.pointer (some ⟨w.heap.size, 0, none⟩)), (.int .i64 f)] rfl rfl cf78 zN (c_spec_l06Round _ dp ((.pointer (some ⟨w.heap.size, 0, none⟩))) (p) _ (RN.box hB1x4 (RP.mk' (hp.ext (good_rdS (good_rFn dp)) hE4)) sM) _hf (by exact hz)) ?_))))))
    rintro e6 w6 ⟨rfl, hX6⟩
    refine ⟨_, rfl, hX6, ?_⟩
    have hzs6 : w4.heap.size ≤ w6.heap.size := hX6.size
    have hE6 : Ext w w6 := hE4.trans hX6
    have hB1x6 := hB1x4.ext hX6
    have hB2x6 := hB2x4.ext hX6
    refine q_not (!(rnF p f)) rfl rfl zN (lw_tv 1 rfl ?_)
    cases hb7 : (!(rnF p f))
    ·
      refine lw_tv 1 rfl (lw_callq 79 [] [] [(.int .i64 n), (.int .i64 ((0 : Nat) : Int)), (.int .i64 ((8 : Nat) : Int))] rfl rfl cf79 (zS (e := 20) rfl rfl rfl) (.bool (decide (((0 : Nat) : Int) ≤ n) && decide (n ≤ ((8 : Nat) : Int)))) (fun wq => c_spec_l00In wq _ _ _ _hn oM oM) (q_not (!(decide (((0 : Nat) : Int) ≤ n) && decide (n ≤ ((8 : Nat) : Int)))) rfl rfl (zS (e := 20) rfl rfl rfl) (lw_tvn 1 rfl ?_)))
      cases hb9 : (!(decide (((0 : Nat) : Int) ≤ n) && decide (n ≤ ((8 : Nat) : Int))))
      ·
        refine c_cond_f (by first | rfl | (show Value.bool _ = _; rw [hb9])) (wp_skip (wp_seq (wp_plain _ [3, 3, 4] rfl ?_)))
        have hokp : okP p = true := bn_f z31_4
        have hrn : rnF p f = true := by first | assumption | exact bn_f z31_4
        have hin : inB n 0 8 = true := by first | assumption | exact bn_f z31_4
        have hg0 : wlA p f n = 0 := wlA_t (chN_t hokp hrn) hin
        have hq0 := wlA_0 hg0
        have hq1 := rnF_iff.1 hq0.2.1
        have hvp := okP_vpr hq0.1
        have hpl := okP_len hq0.1
        have hpar := hvp.par f.toNat oM
        have hou := hvp.outs f.toNat oM
        have hft : ((f.toNat : Nat) : Int) = f := by omega
        have hnt : ((n.toNat : Nat) : Int) = n := by omega
        have hszx := hz.lp (n := n) hvp (f := f) oM
        refine lw_call 80 [] [] [(.pointer (some ⟨w.heap.size, 0, none⟩))] rfl rfl cf80 zN (c_spec_l02OwnProgram _ dp ((.pointer (some ⟨w.heap.size, 0, none⟩))) (p) (RN.box hB1x6 (RP.mk' (hp.ext (good_rdS (good_rFn dp)) hE6)) sM) (by exact hz) oM) ?_
        rintro e10 w10 ⟨v10, rfl, hX10, hO10⟩
        refine ⟨_, rfl, hX10, ?_⟩
        have hzs10 : w6.heap.size ≤ w10.heap.size := hX10.size
        have hE10 : Ext w w10 := hE6.trans hX10
        have hB1x10 := hB1x6.ext hX10
        have hB2x10 := hB2x6.ext hX10
        have hq12 := hB1x10.lt
        have hq13 := hB2x10.lt
        refine r_allocA (z := .agg #[.slice none 0 0]) zr52 zN fun w11 hX11 hz11 hB11 => ?_
        have hzs11 : w10.heap.size ≤ w11.heap.size := hX11.size
        have hE11 : Ext w w11 := hE10.trans hX11
        have hB1x11 := hB1x10.ext hX11
        have hB2x11 := hB2x10.ext hX11
        have hO10x11 := hO10.ext ((good_owS (good_oFn 46 dp))) hX11
        replace hB11 : BX w11.heap w10.heap.size [(.slice none 0 0)] := hB11
        refine e_setA (vs := [v10]) agg52 rfl rfl (by intro u hu; simp only [List.mem_cons, List.not_mem_nil, or_false] at hu; rcases hu with rfl <;> first | exact ⟨rfl, rfl⟩ | exact isSl_one hO10x11.isSlS) hB11 rfl rfl zN fun w14 hC14 hz14 hB14 => ?_
        replace hB14 : BX w14.heap w10.heap.size [v10] := hB14
        have hzs14 : w11.heap.size ≤ w14.heap.size := hC14.size
        have hE14 : Ext w w14 := hC14.below hE11 (fun c hc => by have := List.mem_singleton.1 hc; omega) hE11.size
        have hF15 := hB1x11.chg hC14 (fun hm => by have := List.mem_singleton.1 hm; omega)
        have hF16 := hB2x11.chg hC14 (fun hm => by have := List.mem_singleton.1 hm; omega)
        have hF17 := hO10x11.chg ((good_owS (good_oFn 46 dp))) hC14 (fun c hc => by have := List.mem_singleton.1 hc; omega)
        refine lw_nil (wp_seq (wp_plain _ [0, 2, 0, 0, 0, 2, 0, 3, 4] rfl (q_fldP (p := (.pointer (some ⟨w.heap.size, 0, none⟩))) (b := w.heap.size) (o := 0) 0 fd52_0 rfl rfl zN (q_load (p := (padd (.pointer (some ⟨w.heap.size, 0, none⟩)) 0)) (.inr rfl) vp one50 rfl (hF15.ldp (i := 0) sM) zN (lw_tv 1 rfl (q_idx (v := vp) ((f).toNat) u50 tiS49 rfl rfl hp.isSl oM sD zN ?_))))))
        obtain ⟨cs18, hr18, hl18⟩ := hp.get (good_rFn dp) Fn.zero (k := ((f).toNat)) sD
        obtain ⟨ve18, rfl, hx18⟩ := RF.of hr18
        have hln18 := hx18.rn.lenle
        unfold maxLen at hln18
        refine q_fldL (p := eptr vp ((f).toNat) 3) 1 fd49_1 rfl (hl18 _ (Chg.of_ext [] hE14)) zN (q_load (p := (padd (eptr vp ((f).toNat) 3) 1)) (.inr rfl) (.int .i64 ((p.getD ((f).toNat) Fn.zero).params)) one2 rfl ((hl18 _ (Chg.of_ext [] hE14)).ld (i := 1) (by simp [exC, fnC])) zN ?_)
        have hbd19 : ∀ (wq : World), (Instr.build 49 #[(0, (.string (⟨#[108, 111, 111, 112]⟩))), (1, (.int .i64 ((p.getD ((f).toNat) Fn.zero).params)))]).run Try.prog wq = .ok (.agg #[(.string (⟨#[108, 111, 111, 112]⟩)), (.int .i64 ((p.getD ((f).toNat) Fn.zero).params)), (.slice none 0 0)]) wq := by intro wq; kernel_rfl
        refine q_build (ps := #[(0, (.string (⟨#[108, 111, 111, 112]⟩))), (1, (.int .i64 ((p.getD ((f).toNat) Fn.zero).params)))]) (.agg #[(.string (⟨#[108, 111, 111, 112]⟩)), (.int .i64 ((p.getD ((f).toNat) Fn.zero).params)), (.slice none 0 0)]) z31_1 (fun wq => hbd19  wq) zN ?_
        have hq21 := hF15.lt
        have hq22 := hF16.lt
        have hq23 := hB14.lt
        refine r_allocA (z := .agg #[.string ByteArray.empty, .int .i64 0, .slice none 0 0]) zr49 zN fun w20 hX20 hz20 hB20 => ?_
        have hzs20 : w14.heap.size ≤ w20.heap.size := hX20.size
        have hE20 : Ext w w20 := hE14.trans hX20
        have hF15x20 := hF15.ext hX20
        have hF16x20 := hF16.ext hX20
        have hF17x20 := hF17.ext ((good_owS (good_oFn 46 dp))) hX20
        have hB14x20 := hB14.ext hX20
        replace hB20 : BX w20.heap w14.heap.size [(.string ByteArray.empty), (.int .i64 0), (.slice none 0 0)] := hB20
        refine e_setA (vs := [(.string (⟨#[108, 111, 111, 112]⟩)), (.int .i64 ((p.getD ((f).toNat) Fn.zero).params)), (.slice none 0 0)]) agg49 rfl rfl (by intro u hu; simp only [List.mem_cons, List.not_mem_nil, or_false] at hu; rcases hu with rfl | rfl | rfl <;> first | exact ⟨rfl, rfl⟩) hB20 rfl rfl zN fun w24 hC24 hz24 hB24 => ?_
        replace hB24 : BX w24.heap w14.heap.size [(.string (⟨#[108, 111, 111, 112]⟩)), (.int .i64 ((p.getD ((f).toNat) Fn.zero).params)), (.slice none 0 0)] := hB24
        have hzs24 : w20.heap.size ≤ w24.heap.size := hC24.size
        have hE24 : Ext w w24 := hC24.below hE20 (fun c hc => by have := List.mem_singleton.1 hc; omega) hE20.size
        have hF25 := hF15x20.chg hC24 (fun hm => by have := List.mem_singleton.1 hm; omega)
        have hF26 := hF16x20.chg hC24 (fun hm => by have := List.mem_singleton.1 hm; omega)
        have hF27 := hF17x20.chg ((good_owS (good_oFn 46 dp))) hC24 (fun c hc => by have := List.mem_singleton.1 hc; omega)
        have hF28 := hB14x20.chg hC24 (fun hm => by have := List.mem_singleton.1 hm; omega)
        refine lw_nil (wp_seq (wp_seq (wp_plain _ [0] rfl (lw_tvn 1 rfl (wp_block ?_)))))
        refine c_loop (S := Nat × Value) (fun (⟨k, vo⟩ : Nat × Value) => ([(10, (.int .i64 ((k : Nat) : Int))), (1, (.int .i64 f)), (2, (.int .i64 n)), (3, (.pointer (some ⟨w.heap.size, 0, none⟩))), (6, (.pointer (some ⟨w1.heap.size, 0, none⟩))), (8, (.pointer (some ⟨w10.heap.size, 0, none⟩))), (9, (.pointer (some ⟨w14.heap.size, 0, none⟩)))] : List (Nat × Value))) (fun (⟨k, vo⟩ : Nat × Value) (W : World) => Ext w W ∧ Fr (owS 5 (oEx 46 dp) 46) w24.heap.size W.heap.size W.heap vo (loopL f.toNat (p.getD f.toNat Fn.zero).params.toNat n.toNat 0 k) ∧ Fr (owS 3 (oFn 46 dp) 49) w6.heap.size w10.heap.size W.heap v10 p ∧ BX W.heap w.heap.size [vp] ∧ BX W.heap w1.heap.size [(.slice none 0 0)] ∧ BX W.heap w10.heap.size [v10] ∧ BX W.heap w14.heap.size [(.string (⟨#[108, 111, 111, 112]⟩)), (.int .i64 ((p.getD ((f).toNat) Fn.zero).params)), vo] ∧ k ≤ (p.getD f.toNat Fn.zero).outs.length ∧ w10.heap.size ≤ w24.heap.size ∧ w10.heap.size ≤ w14.heap.size ∧ w.heap.size ≤ w6.heap.size ∧ w1.heap.size < w6.heap.size ∧ w.heap.size < w24.heap.size ∧ w1.heap.size < w24.heap.size ∧ w10.heap.size < w24.heap.size ∧ w14.heap.size < w24.heap.size ∧ w24.heap.size ≤ W.heap.size ∧ w6.heap.size ≤ W.heap.size) (fun (⟨k, vo⟩ : Nat × Value) => (p.getD f.toNat Fn.zero).outs.length - k) (0, (.slice none 0 0)) ⟨rfl, rfl, rfl, rfl, rfl, rfl, rfl, trivial⟩ ⟨hE24, (frNilS _ 0 _).up (good_owS (good_oEx 46 dp)), hF27, hF25, hF26, hF28, hB24, oM, oM, oM, oM, oM, oM, oM, oM, oM, oM, oM⟩ ?_
        clear hE0 hz1 hX1 hzs1 hE1 hz2 hX2 hzs2 hE2 hX4 hzs4 hE4 hX6 hO10 hX10 hz11 hX11 hzs11 hE11 hO10x11 hz14 hC14 hzs14 hE14 hF15 hF16 hF17 hln18 hz20 hX20 hzs20 hE20 hF15x20 hF16x20 hF17x20 hz24 hC24 hF25 hF26 hF27 hF28
        rintro ⟨k, vo⟩ ρ33 w33 ⟨hE33, hL33_0, hL33_1, hL33_2, hL33_3, hL33_4, hL33_5, hp33_0, hou1, hou2, hou3, hou4, hkg29, hkg30, hkg31, hkg32, hkB34, hkB35⟩
        have hzs33 : w.heap.size ≤ w33.heap.size := hE33.size
        have hq36 := hL33_2.lt
        have hq37 := hL33_3.lt
        have hq38 := hL33_4.lt
        have hq39 := hL33_5.lt
        refine wp_seq (wp_seq (wp_plain _ [0, 0, 2, 0] rfl (lw_tv 1 rfl (q_fldP (p := (.pointer (some ⟨w14.heap.size, 0, none⟩))) (b := w14.heap.size) (o := 0) 1 fd49_1 rfl rfl zN (q_load (p := (padd (.pointer (some ⟨w14.heap.size, 0, none⟩)) 1)) (.inr rfl) (.int .i64 ((p.getD ((f).toNat) Fn.zero).params)) one2 rfl (hL33_5.ldp (i := 1) sM) zN ?_)))))
        by_cases hc40 : ((k : Nat) : Int) < (p.getD ((f).toNat) Fn.zero).params
        ·
          refine q_lss true rfl rfl (decide_eq_true hc40) zN (lw_nil (c_cond_t rfl (wp_skip (wp_seq (wp_block (wp_seq (wp_plain _ [0, 0, 0, 0, 3, 4] rfl (lw_tv 3 rfl ?_))))))))
          have hbd41 : ∀ (wq : World), (Instr.build 46 #[(0, (.int .i64 ((11 : Nat) : Int))), (1, (.int .i64 f)), (2, (.int .i64 ((k : Nat) : Int))), (3, (.int .i64 n))]).run Try.prog wq = .ok (.agg #[(.int .i64 ((11 : Nat) : Int)), (.int .i64 f), (.int .i64 ((k : Nat) : Int)), (.int .i64 n), (.slice none 0 0)]) wq := by intro wq; kernel_rfl
          refine q_build (ps := #[(0, (.int .i64 ((11 : Nat) : Int))), (1, (.int .i64 f)), (2, (.int .i64 ((k : Nat) : Int))), (3, (.int .i64 n))]) (.agg #[(.int .i64 ((11 : Nat) : Int)), (.int .i64 f), (.int .i64 ((k : Nat) : Int)), (.int .i64 n), (.slice none 0 0)]) z31_1 (fun wq => hbd41  wq) zN ?_
          have hq43 := hL33_2.lt
          have hq44 := hL33_3.lt
          have hq45 := hL33_4.lt
          have hq46 := hL33_5.lt
          refine r_allocA (z := .agg #[.int .i64 0, .int .i64 0, .int .i64 0, .int .i64 0, .slice none 0 0]) zr46 zN fun w42 hX42 hz42 hB42 => ?_
          have hzs42 : w33.heap.size ≤ w42.heap.size := hX42.size
          have hE42 : Ext w w42 := hE33.trans hX42
          have hL33_0x42 := hL33_0.ext ((good_owS (good_oEx 46 dp))) hX42
          have hL33_1x42 := hL33_1.ext ((good_owS (good_oFn 46 dp))) hX42
          have hL33_2x42 := hL33_2.ext hX42
          have hL33_3x42 := hL33_3.ext hX42
          have hL33_4x42 := hL33_4.ext hX42
          have hL33_5x42 := hL33_5.ext hX42
          replace hB42 : BX w42.heap w33.heap.size [(.int .i64 0), (.int .i64 0), (.int .i64 0), (.int .i64 0), (.slice none 0 0)] := hB42
          refine e_setA (vs := [(.int .i64 ((11 : Nat) : Int)), (.int .i64 f), (.int .i64 ((k : Nat) : Int)), (.int .i64 n), (.slice none 0 0)]) agg46 rfl rfl (by intro u hu; simp only [List.mem_cons, List.not_mem_nil, or_false] at hu; rcases hu with rfl | rfl | rfl | rfl | rfl <;> first | exact ⟨rfl, rfl⟩) hB42 rfl rfl zN fun w47 hC47 hz47 hB47 => ?_
          replace hB47 : BX w47.heap w33.heap.size [(.int .i64 ((11 : Nat) : Int)), (.int .i64 f), (.int .i64 ((k : Nat) : Int)), (.int .i64 n), (.slice none 0 0)] := hB47
          have hzs47 : w42.heap.size ≤ w47.heap.size := hC47.size
          have hE47 : Ext w w47 := hC47.below hE42 (fun c hc => by have := List.mem_singleton.1 hc; omega) hE42.size
          have hF48 := hL33_0x42.chg ((good_owS (good_oEx 46 dp))) hC47 (fun c hc => by have := List.mem_singleton.1 hc; omega)
          have hF49 := hL33_1x42.chg ((good_owS (good_oFn 46 dp))) hC47 (fun c hc => by have := List.mem_singleton.1 hc; omega)
          have hF50 := hL33_2x42.chg hC47 (fun hm => by have := List.mem_singleton.1 hm; omega)
          have hF51 := hL33_3x42.chg hC47 (fun hm => by have := List.mem_singleton.1 hm; omega)
          have hF52 := hL33_4x42.chg hC47 (fun hm => by have := List.mem_singleton.1 hm; omega)
          have hF53 := hL33_5x42.chg hC47 (fun hm => by have := List.mem_singleton.1 hm; omega)
          refine lw_nil (wp_seq (wp_seq (wp_plain _ [0] rfl (lw_tvn 1 rfl (wp_block ?_)))))
          refine c_loop (S := Nat × Value) (fun (⟨i, vk⟩ : Nat × Value) => ([(12, (.int .i64 ((i : Nat) : Int))), (1, (.int .i64 f)), (2, (.int .i64 n)), (3, (.pointer (some ⟨w.heap.size, 0, none⟩))), (6, (.pointer (some ⟨w1.heap.size, 0, none⟩))), (8, (.pointer (some ⟨w10.heap.size, 0, none⟩))), (9, (.pointer (some ⟨w14.heap.size, 0, none⟩))), (10, (.int .i64 ((k : Nat) : Int))), (11, (.pointer (some ⟨w33.heap.size, 0, none⟩)))] : List (Nat × Value))) (fun (⟨i, vk⟩ : Nat × Value) (W : World) => Ext w W ∧ Fr (owS 5 (oEx 46 1) 46) w47.heap.size W.heap.size W.heap vk (varL 0 i) ∧ Fr (owS 5 (oEx 46 dp) 46) w24.heap.size w33.heap.size W.heap vo (loopL f.toNat (p.getD f.toNat Fn.zero).params.toNat n.toNat 0 k) ∧ Fr (owS 3 (oFn 46 dp) 49) w6.heap.size w10.heap.size W.heap v10 p ∧ BX W.heap w.heap.size [vp] ∧ BX W.heap w1.heap.size [(.slice none 0 0)] ∧ BX W.heap w10.heap.size [v10] ∧ BX W.heap w14.heap.size [(.string (⟨#[108, 111, 111, 112]⟩)), (.int .i64 ((p.getD ((f).toNat) Fn.zero).params)), vo] ∧ BX W.heap w33.heap.size [(.int .i64 ((11 : Nat) : Int)), (.int .i64 f), (.int .i64 ((k : Nat) : Int)), (.int .i64 n), vk] ∧ i ≤ (p.getD f.toNat Fn.zero).params.toNat ∧ w33.heap.size ≤ w47.heap.size ∧ w33.heap.size ≤ w33.heap.size ∧ w10.heap.size ≤ w24.heap.size ∧ w10.heap.size ≤ w47.heap.size ∧ w10.heap.size ≤ w14.heap.size ∧ w.heap.size ≤ w6.heap.size ∧ w1.heap.size < w6.heap.size ∧ w.heap.size < w47.heap.size ∧ w1.heap.size < w47.heap.size ∧ w10.heap.size < w47.heap.size ∧ w14.heap.size < w47.heap.size ∧ w33.heap.size < w47.heap.size ∧ w47.heap.size ≤ W.heap.size ∧ w24.heap.size ≤ W.heap.size ∧ w6.heap.size ≤ W.heap.size) (fun (⟨i, vk⟩ : Nat × Value) => (p.getD f.toNat Fn.zero).params.toNat - i) (0, (.slice none 0 0)) ⟨rfl, rfl, rfl, rfl, rfl, rfl, rfl, rfl, rfl, trivial⟩ ⟨hE47, (frNilS _ 0 _).up (good_owS (good_oEx 46 1)), hF48, hF49, hF50, hF51, hF52, hF53, hB47, oM, oM, oM, oM, oM, oM, oM, oM, oM, oM, oM, oM, oM, oM, oM, oM⟩ ?_
          clear hL33_5 hL33_4 hL33_3 hL33_2 hL33_1 hL33_0 hz42 hX42 hzs42 hE42 hL33_0x42 hL33_1x42 hL33_2x42 hL33_3x42 hL33_4x42 hL33_5x42 hz47 hC47 hF48 hF49 hF50 hF51 hF52 hF53
          rintro ⟨i, vk⟩ ρ59 w59 ⟨hE59, hL59_0, hL59_1, hL59_2, hL59_3, hL59_4, hL59_5, hL59_6, hL59_7, hp59_0, huw, huf, hwb, hou1, hou2, hou3, hou4, hkg54, hkg55, hkg56, hkg57, hkg58, hkB60, hkB61, hkB62⟩
          have hzs59 : w.heap.size ≤ w59.heap.size := hE59.size
          have hq63 := hL59_3.lt
          have hq64 := hL59_4.lt
          have hq65 := hL59_5.lt
          have hq66 := hL59_6.lt
          have hq67 := hL59_7.lt
          refine wp_seq (wp_seq (wp_plain _ [0, 0, 2, 0] rfl (lw_tv 1 rfl (q_fldP (p := (.pointer (some ⟨w14.heap.size, 0, none⟩))) (b := w14.heap.size) (o := 0) 1 fd49_1 rfl rfl zN (q_load (p := (padd (.pointer (some ⟨w14.heap.size, 0, none⟩)) 1)) (.inr rfl) (.int .i64 ((p.getD ((f).toNat) Fn.zero).params)) one2 rfl (hL59_6.ldp (i := 1) sM) zN ?_)))))
          by_cases hc68 : ((i : Nat) : Int) < (p.getD ((f).toNat) Fn.zero).params
          ·
            refine q_lss true rfl rfl (decide_eq_true hc68) zN (lw_nil (c_cond_t rfl (wp_skip (wp_seq (wp_block (wp_plain _ [0, 2, 0, 0, 3, 4, 0, 4] rfl (q_fldP (p := (.pointer (some ⟨w33.heap.size, 0, none⟩))) (b := w33.heap.size) (o := 0) 4 fd46_4 rfl rfl zN (q_load (p := (padd (.pointer (some ⟨w33.heap.size, 0, none⟩)) 4)) (.inr rfl) vk one44 rfl (hL59_7.ldp (i := 4) sM) zN (lw_tv 1 rfl ?_)))))))))
            have hbd69 : ∀ (wq : World), (Instr.build 46 #[(0, (.int .i64 ((2 : Nat) : Int))), (1, (.int .i64 ((i : Nat) : Int)))]).run Try.prog wq = .ok (.agg #[(.int .i64 ((2 : Nat) : Int)), (.int .i64 ((i : Nat) : Int)), (.int .i64 0), (.int .i64 0), (.slice none 0 0)]) wq := by intro wq; kernel_rfl
            refine q_build (ps := #[(0, (.int .i64 ((2 : Nat) : Int))), (1, (.int .i64 ((i : Nat) : Int)))]) (.agg #[(.int .i64 ((2 : Nat) : Int)), (.int .i64 ((i : Nat) : Int)), (.int .i64 0), (.int .i64 0), (.slice none 0 0)]) z31_1 (fun wq => hbd69  wq) zN (r_oneS (cs := [(.int .i64 ((2 : Nat) : Int)), (.int .i64 ((i : Nat) : Int)), (.int .i64 0), (.int .i64 0), (.slice none 0 0)]) (y := (.mk 2 ((i : Nat) : Int) 0 0 [])) (B := w59.heap.size) (good_oEx 46 1) u44 tiS46 rfl (by decide) rfl (FrN.mk1 (d := 1) (x := .mk 2 ((i : Nat) : Int) 0 0 []) oM (exR_mk oM oM oM oM) (frNilS _ 0 _)) oM zN fun v70 w70 hX70 hz70 hO70 => ?_)
            have hzs70 : w59.heap.size ≤ w70.heap.size := hX70.size
            have hE70 : Ext w w70 := hE59.trans hX70
            have hL59_0x70 := hL59_0.ext ((good_owS (good_oEx 46 1))) hX70
            have hL59_1x70 := hL59_1.ext ((good_owS (good_oEx 46 dp))) hX70
            have hL59_2x70 := hL59_2.ext ((good_owS (good_oFn 46 dp))) hX70
            have hL59_3x70 := hL59_3.ext hX70
            have hL59_4x70 := hL59_4.ext hX70
            have hL59_5x70 := hL59_5.ext hX70
            have hL59_6x70 := hL59_6.ext hX70
            have hL59_7x70 := hL59_7.ext hX70
            refine e_appS (v := vk) (a := v70) (good_oEx 46 1) u44 tiS46 rfl (by decide) rfl rfl hL59_0x70 oM hO70 oM oM (by rw [varL_len]; omega) (by rw [varL_len]; unfold maxLen; omega) zN fun v71 w71 F71 hC71 hF71 hO71 => ?_
            have hzs71 : w70.heap.size ≤ w71.heap.size := hC71.size
            have hE71 : Ext w w71 := hC71.below hE70 (fun c hc => by have := hF71 _ hc; omega) hE70.size
            have hF72 := hL59_1x70.chg ((good_owS (good_oEx 46 dp))) hC71 (fun c hc => by have := hF71 _ hc; omega)
            have hF73 := hL59_2x70.chg ((good_owS (good_oFn 46 dp))) hC71 (fun c hc => by have := hF71 _ hc; omega)
            have hF74 := hL59_3x70.chg hC71 (fun hm => by have := hF71 _ hm; omega)
            have hF75 := hL59_4x70.chg hC71 (fun hm => by have := hF71 _ hm; omega)
            have hF76 := hL59_5x70.chg hC71 (fun hm => by have := hF71 _ hm; omega)
            have hF77 := hL59_6x70.chg hC71 (fun hm => by have := hF71 _ hm; omega)
            have hF78 := hL59_7x70.chg hC71 (fun hm => by have := hF71 _ hm; omega)
            refine q_fldP (p := (.pointer (some ⟨w33.heap.size, 0, none⟩))) (b := w33.heap.size) (o := 0) 4 fd46_4 rfl rfl zN (e_setB (k := 4) (w := w71) sz44 rfl rfl (isSl_one hO71.isSlS) hF78 sM zN fun w79 hC79 hz79 hB79 => ?_)
            replace hB79 : BX w79.heap w33.heap.size [(.int .i64 ((11 : Nat) : Int)), (.int .i64 f), (.int .i64 ((k : Nat) : Int)), (.int .i64 n), v71] := hB79
            have hzs79 : w71.heap.size ≤ w79.heap.size := hC79.size
            have hE79 : Ext w w79 := hC79.below hE71 (fun c hc => by have := List.mem_singleton.1 hc; omega) hE71.size
            have hF80 := hF72.chg ((good_owS (good_oEx 46 dp))) hC79 (fun c hc => by have := List.mem_singleton.1 hc; omega)
            have hF81 := hF73.chg ((good_owS (good_oFn 46 dp))) hC79 (fun c hc => by have := List.mem_singleton.1 hc; omega)
            have hF82 := hF74.chg hC79 (fun hm => by have := List.mem_singleton.1 hm; omega)
            have hF83 := hF75.chg hC79 (fun hm => by have := List.mem_singleton.1 hm; omega)
            have hF84 := hF76.chg hC79 (fun hm => by have := List.mem_singleton.1 hm; omega)
            have hF85 := hF77.chg hC79 (fun hm => by have := List.mem_singleton.1 hm; omega)
            have hF86 := hO71.chg ((good_owS (good_oEx 46 1))) hC79 (fun c hc => by have := List.mem_singleton.1 hc; omega)
            exact lw_nil (wp_plain _ [0, 0, 0] rfl (lw_tv 1 rfl (q_add ((i + 1 : Nat) : Int) rfl rfl (w64n oM oM) zN (lw_tvn 1 rfl ⟨((i + 1), v71), _, rfl, ⟨rfl, rfl, rfl, rfl, rfl, rfl, rfl, rfl, rfl, trivial⟩, ⟨hE79, (by rw [varL_snoc, Nat.zero_add]; exact hF86.up (good_owS (good_oEx 46 1))), hF80, hF81, hF82, hF83, hF84, hF85, hB79, oM, oM, oM, oM, oM, oM, oM, oM, oM, oM, oM, oM, oM, oM, oM, oM⟩, by first | omega | (dsimp only; omega)⟩))))
          ·
            refine q_lss false rfl rfl (decide_eq_false hc68) zN (lw_nil (c_cond_f rfl (wp_exit (t_exit (t_exit (c_exit_here (wp_plain _ [0, 2, 2, 3, 4, 0, 4] rfl ?_)))))))
            have hik : i = (p.getD f.toNat Fn.zero).params.toNat := by omega
            have hkm : Fr (owS 5 (oEx 46 1) 46) w47.heap.size w59.heap.size w59.heap vk (varL 0 (p.getD f.toNat Fn.zero).params.toNat) := by rw [← hik]; exact hL59_0
            refine q_fldP (p := (.pointer (some ⟨w14.heap.size, 0, none⟩))) (b := w14.heap.size) (o := 0) 2 fd49_2 rfl rfl zN (q_load (p := (padd (.pointer (some ⟨w14.heap.size, 0, none⟩)) 2)) (.inr rfl) vo one44 rfl (hL59_6.ldp (i := 2) sM) zN (q_loadA (p := (.pointer (some ⟨w33.heap.size, 0, none⟩))) (.inr rfl) [(.int .i64 ((11 : Nat) : Int)), (.int .i64 f), (.int .i64 ((k : Nat) : Int)), (.int .i64 n), vk] agg46 rfl (fun wq9 hw9 => LD.of_box (BX.ext (w := w59) hL59_7 hw9)) rfl zN ?_))
            refine r_oneS (cs := [(.int .i64 ((11 : Nat) : Int)), (.int .i64 f), (.int .i64 ((k : Nat) : Int)), (.int .i64 n), vk]) (y := (.mk 11 f ((k : Nat) : Int) n (varL 0 (p.getD f.toNat Fn.zero).params.toNat))) (B := w47.heap.size) (good_oEx 46 dp) u44 tiS46 rfl (by decide) rfl (FrN.le (FrN.mk1 (d := 2) (x := .mk 11 f ((k : Nat) : Int) n (varL 0 (p.getD f.toNat Fn.zero).params.toNat)) oM (exR_mk oM oM oM oM) hkm) oM) oM zN fun v87 w87 hX87 hz87 hO87 => ?_
            have hzs87 : w59.heap.size ≤ w87.heap.size := hX87.size
            have hE87 : Ext w w87 := hE59.trans hX87
            have hL59_1x87 := hL59_1.ext ((good_owS (good_oEx 46 dp))) hX87
            have hL59_2x87 := hL59_2.ext ((good_owS (good_oFn 46 dp))) hX87
            have hL59_3x87 := hL59_3.ext hX87
            have hL59_4x87 := hL59_4.ext hX87
            have hL59_5x87 := hL59_5.ext hX87
            have hL59_6x87 := hL59_6.ext hX87
            have hL59_7x87 := hL59_7.ext hX87
            refine e_appS (v := vo) (a := v87) (good_oEx 46 dp) u44 tiS46 rfl (by decide) rfl rfl hL59_1x87 oM hO87 oM oM (by rw [loopL_len]; omega) (by rw [loopL_len]; unfold maxLen; omega) zN fun v88 w88 F88 hC88 hF88 hO88 => ?_
            have hzs88 : w87.heap.size ≤ w88.heap.size := hC88.size
            have hE88 : Ext w w88 := hC88.below hE87 (fun c hc => by have := hF88 _ hc; omega) hE87.size
            have hF89 := hL59_2x87.chg ((good_owS (good_oFn 46 dp))) hC88 (fun c hc => by have := hF88 _ hc; omega)
            have hF90 := hL59_3x87.chg hC88 (fun hm => by have := hF88 _ hm; omega)
            have hF91 := hL59_4x87.chg hC88 (fun hm => by have := hF88 _ hm; omega)
            have hF92 := hL59_5x87.chg hC88 (fun hm => by have := hF88 _ hm; omega)
            have hF93 := hL59_6x87.chg hC88 (fun hm => by have := hF88 _ hm; omega)
            have hF94 := hL59_7x87.chg hC88 (fun hm => by have := hF88 _ hm; omega)
            refine q_fldP (p := (.pointer (some ⟨w14.heap.size, 0, none⟩))) (b := w14.heap.size) (o := 0) 2 fd49_2 rfl rfl zN (e_setB (k := 2) (w := w88) sz44 rfl rfl (isSl_one hO88.isSlS) hF93 sM zN fun w95 hC95 hz95 hB95 => ?_)
            replace hB95 : BX w95.heap w14.heap.size [(.string (⟨#[108, 111, 111, 112]⟩)), (.int .i64 ((p.getD ((f).toNat) Fn.zero).params)), v88] := hB95
            have hzs95 : w88.heap.size ≤ w95.heap.size := hC95.size
            have hE95 : Ext w w95 := hC95.below hE88 (fun c hc => by have := List.mem_singleton.1 hc; omega) hE88.size
            have hF96 := hF89.chg ((good_owS (good_oFn 46 dp))) hC95 (fun c hc => by have := List.mem_singleton.1 hc; omega)
            have hF97 := hF90.chg hC95 (fun hm => by have := List.mem_singleton.1 hm; omega)
            have hF98 := hF91.chg hC95 (fun hm => by have := List.mem_singleton.1 hm; omega)
            have hF99 := hF92.chg hC95 (fun hm => by have := List.mem_singleton.1 hm; omega)
            have hF100 := hF94.chg hC95 (fun hm => by have := List.mem_singleton.1 hm; omega)
            have hF101 := hO88.chg ((good_owS (good_oEx 46 dp))) hC95 (fun c hc => by have := List.mem_singleton.1 hc; omega)
            exact lw_nil (wp_plain _ [0, 0, 0] rfl (lw_tv 1 rfl (q_add ((k + 1 : Nat) : Int) rfl rfl (w64n oM oM) zN (lw_tvn 1 rfl ⟨((k + 1), v88), _, rfl, ⟨rfl, rfl, rfl, rfl, rfl, rfl, rfl, trivial⟩, ⟨hE95, (by rw [loopL_snoc, Nat.zero_add, hft, hnt]; exact hF101.up (good_owS (good_oEx 46 dp))), hF96, hF97, hF98, hF99, hB95, oM, oM, oM, oM, oM, oM, oM, oM, oM, oM, oM⟩, by first | omega | (dsimp only; omega)⟩))))
        ·
          refine q_lss false rfl rfl (decide_eq_false hc40) zN (lw_nil (c_cond_f rfl (wp_exit (t_exit (t_exit (c_exit_here (wp_seq (wp_seq (wp_plain _ [0] rfl ?_)))))))))
          have hkk : k = (p.getD f.toNat Fn.zero).outs.length := by omega
          have hrm : Fr (owS 5 (oEx 46 dp) 46) w24.heap.size w33.heap.size w33.heap vo (loopL f.toNat (p.getD f.toNat Fn.zero).params.toNat n.toNat 0 (p.getD f.toNat Fn.zero).outs.length) := by rw [← hkk]; exact hL33_0
          refine lw_tvn 1 rfl (wp_block ?_)
          refine c_loop (S := Nat) (fun (i : Nat) => ([(13, (.int .i64 ((i : Nat) : Int))), (3, (.pointer (some ⟨w.heap.size, 0, none⟩))), (6, (.pointer (some ⟨w1.heap.size, 0, none⟩))), (8, (.pointer (some ⟨w10.heap.size, 0, none⟩))), (9, (.pointer (some ⟨w14.heap.size, 0, none⟩)))] : List (Nat × Value))) (fun (i : Nat) (W : World) => Ext w W ∧ Fr (owS 5 (oEx 46 dp) 46) w24.heap.size w33.heap.size W.heap vo (loopL f.toNat (p.getD f.toNat Fn.zero).params.toNat n.toNat 0 (p.getD f.toNat Fn.zero).outs.length) ∧ Fr (owS 3 (oFn 46 dp) 49) w6.heap.size w10.heap.size W.heap v10 p ∧ BX W.heap w.heap.size [vp] ∧ BX W.heap w1.heap.size [(.slice none 0 0)] ∧ BX W.heap w10.heap.size [v10] ∧ BX W.heap w14.heap.size [(.string (⟨#[108, 111, 111, 112]⟩)), (.int .i64 ((p.getD ((f).toNat) Fn.zero).params)), vo] ∧ i ≤ p.length ∧ (w1.heap.size < w6.heap.size ∧ w1.heap.size < w24.heap.size) ∧ (∀ j, j < i → strE (p.getD j Fn.zero).name (⟨#[108, 111, 111, 112]⟩ : ByteArray) = false) ∧ w24.heap.size ≤ W.heap.size ∧ w6.heap.size ≤ W.heap.size) (fun (i : Nat) => p.length - i) 0 ⟨rfl, rfl, rfl, rfl, rfl, trivial⟩ ⟨hE33, hrm, hL33_1, hL33_2, hL33_3, hL33_4, hL33_5, oM, oM, (by intro j hj; omega), oM, oM⟩ ?_
          clear hL33_5 hL33_4 hL33_3 hL33_2 hL33_1 hL33_0
          rintro i ρ102 w102 ⟨hE102, hL102_0, hL102_1, hL102_2, hL102_3, hL102_4, hL102_5, hp102_0, hou4, hnj, hkB103, hkB104⟩
          have hzs102 : w.heap.size ≤ w102.heap.size := hE102.size
          have hq105 := hL102_2.lt
          have hq106 := hL102_3.lt
          have hq107 := hL102_4.lt
          have hq108 := hL102_5.lt
          refine wp_seq (wp_seq (wp_plain _ [0, 0, 2, 0, 0] rfl (lw_tv 1 rfl (q_fldP (p := (.pointer (some ⟨w.heap.size, 0, none⟩))) (b := w.heap.size) (o := 0) 0 fd52_0 rfl rfl zN (q_load (p := (padd (.pointer (some ⟨w.heap.size, 0, none⟩)) 0)) (.inr rfl) vp one50 rfl (hL102_2.ldp (i := 0) sM) zN (q_len (v := vp) u50 rfl hp.isSl zN ?_))))))
          by_cases hc109 : ((i : Nat) : Int) < ((p.length : Nat) : Int)
          ·
            refine q_lss true rfl rfl (decide_eq_true hc109) zN (lw_nil (c_cond_t rfl (wp_skip (wp_seq (wp_block (wp_seq (wp_draw _ [0, 1, 0, 0, 0, 1, 0, 1, 0] mixed (by kernel_rfl) (q_fldP (p := (.pointer (some ⟨w.heap.size, 0, none⟩))) (b := w.heap.size) (o := 0) 0 fd52_0 rfl rfl zN (q_load (p := (padd (.pointer (some ⟨w.heap.size, 0, none⟩)) 0)) (.inl rfl) vp one50 rfl (hL102_2.ldp (i := 0) sM) zN (lw_tv 1 rfl ?_))))))))))
            refine q_idx (v := vp) i u50 tiS49 rfl rfl hp.isSl rfl sD zN ?_
            obtain ⟨cs110, hr110, hl110⟩ := hp.get (good_rFn dp) Fn.zero (k := i) sD
            obtain ⟨ve110, rfl, hx110⟩ := RF.of hr110
            have hln110 := hx110.rn.lenle
            unfold maxLen at hln110
            refine q_fldL (p := eptr vp i 3) 0 fd49_0 rfl (hl110 _ (Chg.of_ext [] hE102.drew)) zN (q_load (p := (padd (eptr vp i 3) 0)) (.inl rfl) (.string ((p.getD i Fn.zero).name)) one9 rfl ((hl110 _ (Chg.of_ext [] hE102.drew)).ld (i := 0) (by simp [exC, fnC])) zN (q_fldP (p := (.pointer (some ⟨w14.heap.size, 0, none⟩))) (b := w14.heap.size) (o := 0) 0 fd49_0 rfl rfl zN (q_load (p := (padd (.pointer (some ⟨w14.heap.size, 0, none⟩)) 0)) (.inl rfl) (.string (⟨#[108, 111, 111, 112]⟩)) one9 rfl (hL102_5.ldp (i := 0) sM) zN ?_)))
            cases hc111 : strE ((p.getD i Fn.zero).name) (⟨#[108, 111, 111, 112]⟩)
            ·
              refine q_eqls false u9 rfl rfl hc111 zN (lw_nil (c_cond_f rfl (wp_skip (wp_plain _ [0, 0, 0] rfl (lw_tv 1 rfl (q_add ((i + 1 : Nat) : Int) rfl rfl (w64n oM oM) zN (lw_tvn 1 rfl ?_)))))))
              have hdrw : w102.drew.heap.size = w102.heap.size := rfl
              exact ⟨(i + 1), _, rfl, ⟨rfl, rfl, rfl, rfl, rfl, trivial⟩, ⟨hE102.drew, hL102_0, hL102_1, hL102_2, hL102_3, hL102_4, hL102_5, oM, oM, (by intro j hj; by_cases h9 : j = i; (subst h9; assumption); exact hnj j oM), oM, oM⟩, by first | omega | (dsimp only; omega)⟩
            ·
              refine q_eqls true u9 rfl rfl hc111 zN (lw_nil (c_cond_t rfl (wp_seq (wp_plain _ [0, 4, 0] rfl ?_))))
              have hbd112 : ∀ (wq : World), (Instr.build 52 #[]).run Try.prog wq = .ok (.agg #[(.slice none 0 0)]) wq := by intro wq; kernel_rfl
              refine q_build (ps := #[]) (.agg #[(.slice none 0 0)]) z31_2 (fun wq => hbd112  wq) zN (e_setA (vs := [(.slice none 0 0)]) agg52 rfl rfl z31_0 hL102_3 rfl rfl zN fun w113 hC113 hz113 hB113 => ?_)
              replace hB113 : BX w113.heap w1.heap.size [(.slice none 0 0)] := hB113
              replace hC113 := hC113.of_drew
              have hzs113 : w102.heap.size ≤ w113.heap.size := hC113.size
              have hE113 : Ext w w113 := hC113.below hE102 (fun c hc => by have := List.mem_singleton.1 hc; omega) hE102.size
              have hF114 := hL102_0.chg ((good_owS (good_oEx 46 dp))) hC113 (fun c hc => by have := List.mem_singleton.1 hc; omega)
              have hF115 := hL102_1.chg ((good_owS (good_oFn 46 dp))) hC113 (fun c hc => by have := List.mem_singleton.1 hc; omega)
              have hF116 := hL102_2.chg hC113 (fun hm => by have := List.mem_singleton.1 hm; omega)
              have hF117 := hL102_4.chg hC113 (fun hm => by have := List.mem_singleton.1 hm; omega)
              have hF118 := hL102_5.chg hC113 (fun hm => by have := List.mem_singleton.1 hm; omega)
              refine lw_tvn 1 rfl (wp_ret (b_ret (t_ret (t_ret (b_ret (t_ret ?_))))))
              have hcd : wlC p f n = ((4 : Nat) : Int) := by first | exact wlC_4 hg0 (hasL_y (k := i) oM z31_4) | exact wlC_3 hg0 hnm (bn_t z31_4) | exact wlC_t hg0 hnm (bn_f z31_4) | (have h9 := chN_1 (f := f) (bn_t z31_4); rw [wlC_a oM]; exact h9) | (have h9 := chN_2 (f := f) (bn_f z31_4) z31_4; rw [wlC_a oM]; exact h9) | (have h9 := chN_2 (f := f) (bn_f z31_4) (bn_t z31_4); rw [wlC_a oM]; exact h9) | exact wlC_b (chN_t (bn_f z31_4) z31_4) (bn_t z31_4) | exact wlC_b (chN_t (bn_f z31_4) (bn_f z31_4)) (bn_t z31_4) | exact wlC_b (chN_t (bn_f z31_4) z31_4) z31_4
              exact post_retC (t0 := 7) (ts := []) (cs := [(.slice none 0 0)]) [(.int .i64 ((4 : Nat) : Int))] rfl agg52 rfl hB113 rfl rfl ⟨_, by rw [hcd], hE113, z31_3⟩
          ·
            refine q_lss false rfl rfl (decide_eq_false hc109) zN (lw_nil (c_cond_f rfl (wp_exit (t_exit (t_exit (c_exit_here (wp_seq (wp_plain _ [0, 2, 2, 3, 4, 0, 4] rfl ?_))))))))
            have hnm : hasL p = false := hasL_n fun j hj => hnj j oM
            refine q_fldP (p := (.pointer (some ⟨w10.heap.size, 0, none⟩))) (b := w10.heap.size) (o := 0) 0 fd52_0 rfl rfl zN (q_load (p := (padd (.pointer (some ⟨w10.heap.size, 0, none⟩)) 0)) (.inr rfl) v10 one50 rfl (hL102_4.ldp (i := 0) sM) zN (q_loadA (p := (.pointer (some ⟨w14.heap.size, 0, none⟩))) (.inr rfl) [(.string (⟨#[108, 111, 111, 112]⟩)), (.int .i64 ((p.getD ((f).toNat) Fn.zero).params)), vo] agg49 rfl (fun wq9 hw9 => LD.of_box (BX.ext (w := w102) hL102_5 hw9)) rfl zN ?_))
            refine r_oneS (cs := [(.string (⟨#[108, 111, 111, 112]⟩)), (.int .i64 ((p.getD ((f).toNat) Fn.zero).params)), vo]) (y := (Fn.mk (⟨#[108, 111, 111, 112]⟩) ((p.getD ((f).toNat) Fn.zero).params) (loopL f.toNat (p.getD f.toNat Fn.zero).params.toNat n.toNat 0 (p.getD f.toNat Fn.zero).outs.length))) (B := w24.heap.size) (good_oFn 46 dp) u50 tiS49 rfl (by decide) rfl (FrN.mkF (x := ⟨(⟨#[108, 111, 111, 112]⟩), ((p.getD ((f).toNat) Fn.zero).params), (loopL f.toNat (p.getD f.toNat Fn.zero).params.toNat n.toNat 0 (p.getD f.toNat Fn.zero).outs.length)⟩) (i64_mk (a := ((p.getD ((f).toNat) Fn.zero).params)) hx18.rng) hL102_0) oM zN fun v119 w119 hX119 hz119 hO119 => ?_
            have hzs119 : w102.heap.size ≤ w119.heap.size := hX119.size
            have hE119 : Ext w w119 := hE102.trans hX119
            have hL102_1x119 := hL102_1.ext ((good_owS (good_oFn 46 dp))) hX119
            have hL102_2x119 := hL102_2.ext hX119
            have hL102_3x119 := hL102_3.ext hX119
            have hL102_4x119 := hL102_4.ext hX119
            have hL102_5x119 := hL102_5.ext hX119
            refine e_appQ (v := v10) (a := v119) (good_oFn 46 dp) u50 tiS49 rfl (by decide) rfl rfl hL102_1x119 hO119 oM oM (by unfold maxLen; omega) zN fun v120 w120 F120 hC120 hF120 hO120 => ?_
            have hzs120 : w119.heap.size ≤ w120.heap.size := hC120.size
            have hE120 : Ext w w120 := hC120.below hE119 (fun c hc => by have := hF120 _ hc; omega) hE119.size
            have hF121 := hL102_2x119.chg hC120 (fun hm => by have := hF120 _ hm; omega)
            have hF122 := hL102_3x119.chg hC120 (fun hm => by have := hF120 _ hm; omega)
            have hF123 := hL102_4x119.chg hC120 (fun hm => by have := hF120 _ hm; omega)
            have hF124 := hL102_5x119.chg hC120 (fun hm => by have := hF120 _ hm; omega)
            refine q_fldP (p := (.pointer (some ⟨w10.heap.size, 0, none⟩))) (b := w10.heap.size) (o := 0) 0 fd52_0 rfl rfl zN (e_setB (k := 0) (w := w120) sz50 rfl rfl (isSl_one (FrP.isSlS hO120)) hF123 sM zN fun w125 hC125 hz125 hB125 => ?_)
            replace hB125 : BX w125.heap w10.heap.size [v120] := hB125
            have hzs125 : w120.heap.size ≤ w125.heap.size := hC125.size
            have hE125 : Ext w w125 := hC125.below hE120 (fun c hc => by have := List.mem_singleton.1 hc; omega) hE120.size
            have hF126 := hF121.chg hC125 (fun hm => by have := List.mem_singleton.1 hm; omega)
            have hF127 := hF122.chg hC125 (fun hm => by have := List.mem_singleton.1 hm; omega)
            have hF128 := hF124.chg hC125 (fun hm => by have := List.mem_singleton.1 hm; omega)
            have hF129 := hO120.chg (good_owS (good_oFn 46 dp)) hC125 (fun c hc => by have := List.mem_singleton.1 hc; intro hs9; (try dsimp only at hs9); omega)
            refine lw_nil (wp_seq (wp_seq (wp_plain _ [3, 0] rfl ?_)))
            have hfr : Fr (owS 3 (oFn 46 dp) 49) w6.heap.size w125.heap.size w125.heap v120 (lpX p f n) := hF129.fr (good_owS (good_oFn 46 dp)) (B := w6.heap.size) (fun b hb => by (try dsimp only at hb); omega)
            refine lw_call 77 [] [] [(.pointer (some ⟨w10.heap.size, 0, none⟩))] rfl rfl cf77 zN (c_spec_l02Ok _ dp ((.pointer (some ⟨w10.heap.size, 0, none⟩))) ((lpX p f n)) (RN.box hB125 (RP.mk' (RN.of_frF2 hfr (fun b hb => by cases hb))) sM) (by exact hszx)) ?_
            rintro e130 w130 ⟨rfl, hX130⟩
            refine ⟨_, rfl, hX130, ?_⟩
            have hzs130 : w125.heap.size ≤ w130.heap.size := hX130.size
            have hE130 : Ext w w130 := hE125.trans hX130
            have hF126x130 := hF126.ext hX130
            have hF127x130 := hF127.ext hX130
            have hB125x130 := hB125.ext hX130
            have hF128x130 := hF128.ext hX130
            have hfrx130 := hfr.ext ((good_owS (good_oFn 46 dp))) hX130
            refine q_not (!(okP (lpX p f n))) rfl rfl zN (lw_nil ?_)
            cases hb131 : (!(okP (lpX p f n)))
            ·
              refine c_cond_f (by first | rfl | (show Value.bool _ = _; rw [hb131])) (wp_skip (wp_seq (wp_plain _ [2, 4, 0] rfl (q_loadA (p := (.pointer (some ⟨w10.heap.size, 0, none⟩))) (.inr rfl) [v120] agg52 rfl (fun wq9 hw9 => LD.of_box (BX.ext (w := w130) hB125x130 hw9)) rfl zN (e_setA (vs := [v120]) agg52 rfl rfl (by intro u hu; simp only [List.mem_cons, List.not_mem_nil, or_false] at hu; rcases hu with rfl <;> first | exact ⟨rfl, rfl⟩ | exact isSl_one hfrx130.isSlS) hF127x130 rfl rfl zN fun w132 hC132 hz132 hB132 => ?_)))))
              replace hB132 : BX w132.heap w1.heap.size [v120] := hB132
              have hzs132 : w130.heap.size ≤ w132.heap.size := hC132.size
              have hE132 : Ext w w132 := hC132.below hE130 (fun c hc => by have := List.mem_singleton.1 hc; omega) hE130.size
              have hF133 := hF126x130.chg hC132 (fun hm => by have := List.mem_singleton.1 hm; omega)
              have hF134 := hB125x130.chg hC132 (fun hm => by have := List.mem_singleton.1 hm; omega)
              have hF135 := hF128x130.chg hC132 (fun hm => by have := List.mem_singleton.1 hm; omega)
              have hF136 := hfrx130.chg ((good_owS (good_oFn 46 dp))) hC132 (fun c hc => by have := List.mem_singleton.1 hc; omega)
              refine lw_tvn 1 rfl (wp_ret ?_)
              have hcd : wlC p f n = ((0 : Nat) : Int) := by first | exact wlC_4 hg0 (hasL_y (k := i) oM z31_4) | exact wlC_3 hg0 hnm (bn_t z31_4) | exact wlC_t hg0 hnm (bn_f z31_4) | (have h9 := chN_1 (f := f) (bn_t z31_4); rw [wlC_a oM]; exact h9) | (have h9 := chN_2 (f := f) (bn_f z31_4) z31_4; rw [wlC_a oM]; exact h9) | (have h9 := chN_2 (f := f) (bn_f z31_4) (bn_t z31_4); rw [wlC_a oM]; exact h9) | exact wlC_b (chN_t (bn_f z31_4) z31_4) (bn_t z31_4) | exact wlC_b (chN_t (bn_f z31_4) (bn_f z31_4)) (bn_t z31_4) | exact wlC_b (chN_t (bn_f z31_4) z31_4) z31_4
              exact post_retC (t0 := 7) (ts := []) (cs := [v120]) [(.int .i64 ((0 : Nat) : Int))] rfl agg52 rfl hB132 rfl rfl ⟨v120, by rw [hcd], hE132, (by rw [wlR_t hcd]; exact ((hF136.up (good_owS (good_oFn 46 dp))).low (B' := w.heap.size) oM))⟩
            ·
              refine c_cond_t (by first | rfl | (show Value.bool _ = _; rw [hb131])) (wp_seq (wp_plain _ [0, 4, 0] rfl ?_))
              have hbd137 : ∀ (wq : World), (Instr.build 52 #[]).run Try.prog wq = .ok (.agg #[(.slice none 0 0)]) wq := by intro wq; kernel_rfl
              refine q_build (ps := #[]) (.agg #[(.slice none 0 0)]) z31_2 (fun wq => hbd137  wq) zN (e_setA (vs := [(.slice none 0 0)]) agg52 rfl rfl z31_0 hF127x130 rfl rfl zN fun w138 hC138 hz138 hB138 => ?_)
              replace hB138 : BX w138.heap w1.heap.size [(.slice none 0 0)] := hB138
              have hzs138 : w130.heap.size ≤ w138.heap.size := hC138.size
              have hE138 : Ext w w138 := hC138.below hE130 (fun c hc => by have := List.mem_singleton.1 hc; omega) hE130.size
              have hF139 := hF126x130.chg hC138 (fun hm => by have := List.mem_singleton.1 hm; omega)
              have hF140 := hB125x130.chg hC138 (fun hm => by have := List.mem_singleton.1 hm; omega)
              have hF141 := hF128x130.chg hC138 (fun hm => by have := List.mem_singleton.1 hm; omega)
              have hF142 := hfrx130.chg ((good_owS (good_oFn 46 dp))) hC138 (fun c hc => by have := List.mem_singleton.1 hc; omega)
              refine lw_tvn 1 rfl (wp_ret (t_ret ?_))
              have hcd : wlC p f n = ((3 : Nat) : Int) := by first | exact wlC_4 hg0 (hasL_y (k := i) oM z31_4) | exact wlC_3 hg0 hnm (bn_t z31_4) | exact wlC_t hg0 hnm (bn_f z31_4) | (have h9 := chN_1 (f := f) (bn_t z31_4); rw [wlC_a oM]; exact h9) | (have h9 := chN_2 (f := f) (bn_f z31_4) z31_4; rw [wlC_a oM]; exact h9) | (have h9 := chN_2 (f := f) (bn_f z31_4) (bn_t z31_4); rw [wlC_a oM]; exact h9) | exact wlC_b (chN_t (bn_f z31_4) z31_4) (bn_t z31_4) | exact wlC_b (chN_t (bn_f z31_4) (bn_f z31_4)) (bn_t z31_4) | exact wlC_b (chN_t (bn_f z31_4) z31_4) z31_4
              exact post_retC (t0 := 7) (ts := []) (cs := [(.slice none 0 0)]) [(.int .i64 ((3 : Nat) : Int))] rfl agg52 rfl hB138 rfl rfl ⟨_, by rw [hcd], hE138, z31_3⟩
      ·
        refine c_cond_t (by first | rfl | (show Value.bool _ = _; rw [hb9])) (wp_seq (wp_plain _ [0, 4, 0] rfl ?_))
        have hbd143 : ∀ (wq : World), (Instr.build 52 #[]).run Try.prog wq = .ok (.agg #[(.slice none 0 0)]) wq := by intro wq; kernel_rfl
        refine q_build (ps := #[]) (.agg #[(.slice none 0 0)]) z31_2 (fun wq => hbd143  wq) zN (e_setA (vs := [(.slice none 0 0)]) agg52 rfl rfl z31_0 hB2x6 rfl rfl zN fun w144 hC144 hz144 hB144 => ?_)
        replace hB144 : BX w144.heap w1.heap.size [(.slice none 0 0)] := hB144
        have hzs144 : w6.heap.size ≤ w144.heap.size := hC144.size
        have hE144 : Ext w w144 := hC144.below hE6 (fun c hc => by have := List.mem_singleton.1 hc; omega) hE6.size
        have hF145 := hB1x6.chg hC144 (fun hm => by have := List.mem_singleton.1 hm; omega)
        refine lw_tvn 1 rfl (wp_ret (t_ret ?_))
        have hcd : wlC p f n = ((2 : Nat) : Int) := by first | exact wlC_4 hg0 (hasL_y (k := i) oM z31_4) | exact wlC_3 hg0 hnm (bn_t z31_4) | exact wlC_t hg0 hnm (bn_f z31_4) | (have h9 := chN_1 (f := f) (bn_t z31_4); rw [wlC_a oM]; exact h9) | (have h9 := chN_2 (f := f) (bn_f z31_4) z31_4; rw [wlC_a oM]; exact h9) | (have h9 := chN_2 (f := f) (bn_f z31_4) (bn_t z31_4); rw [wlC_a oM]; exact h9) | exact wlC_b (chN_t (bn_f z31_4) z31_4) (bn_t z31_4) | exact wlC_b (chN_t (bn_f z31_4) (bn_f z31_4)) (bn_t z31_4) | exact wlC_b (chN_t (bn_f z31_4) z31_4) z31_4
        exact post_retC (t0 := 7) (ts := []) (cs := [(.slice none 0 0)]) [(.int .i64 ((2 : Nat) : Int))] rfl agg52 rfl hB144 rfl rfl ⟨_, by rw [hcd], hE144, z31_3⟩
    ·
      refine lw_tvn 4 rfl (c_cond_t rfl (wp_seq (wp_plain _ [0, 4, 0] rfl ?_)))
      have hbd146 : ∀ (wq : World), (Instr.build 52 #[]).run Try.prog wq = .ok (.agg #[(.slice none 0 0)]) wq := by intro wq; kernel_rfl
      refine q_build (ps := #[]) (.agg #[(.slice none 0 0)]) z31_2 (fun wq => hbd146  wq) zN (e_setA (vs := [(.slice none 0 0)]) agg52 rfl rfl z31_0 hB2x6 rfl rfl zN fun w147 hC147 hz147 hB147 => ?_)
      replace hB147 : BX w147.heap w1.heap.size [(.slice none 0 0)] := hB147
      have hzs147 : w6.heap.size ≤ w147.heap.size := hC147.size
      have hE147 : Ext w w147 := hC147.below hE6 (fun c hc => by have := List.mem_singleton.1 hc; omega) hE6.size
      have hF148 := hB1x6.chg hC147 (fun hm => by have := List.mem_singleton.1 hm; omega)
      refine lw_tvn 1 rfl (wp_ret (t_ret ?_))
      have hcd : wlC p f n = ((2 : Nat) : Int) := by first | exact wlC_4 hg0 (hasL_y (k := i) oM z31_4) | exact wlC_3 hg0 hnm (bn_t z31_4) | exact wlC_t hg0 hnm (bn_f z31_4) | (have h9 := chN_1 (f := f) (bn_t z31_4); rw [wlC_a oM]; exact h9) | (have h9 := chN_2 (f := f) (bn_f z31_4) z31_4; rw [wlC_a oM]; exact h9) | (have h9 := chN_2 (f := f) (bn_f z31_4) (bn_t z31_4); rw [wlC_a oM]; exact h9) | exact wlC_b (chN_t (bn_f z31_4) z31_4) (bn_t z31_4) | exact wlC_b (chN_t (bn_f z31_4) (bn_f z31_4)) (bn_t z31_4) | exact wlC_b (chN_t (bn_f z31_4) z31_4) z31_4
      exact post_retC (t0 := 7) (ts := []) (cs := [(.slice none 0 0)]) [(.int .i64 ((2 : Nat) : Int))] rfl agg52 rfl hB147 rfl rfl ⟨_, by rw [hcd], hE147, z31_3⟩
  ·
    refine c_cond_t (by first | rfl | (show Value.bool _ = _; rw [hb5])) (wp_seq (wp_plain _ [0, 4, 0] rfl ?_))
    have hbd149 : ∀ (wq : World), (Instr.build 52 #[]).run Try.prog wq = .ok (.agg #[(.slice none 0 0)]) wq := by intro wq; kernel_rfl
    refine q_build (ps := #[]) (.agg #[(.slice none 0 0)]) z31_2 (fun wq => hbd149  wq) zN (e_setA (vs := [(.slice none 0 0)]) agg52 rfl rfl z31_0 hB2x4 rfl rfl zN fun w150 hC150 hz150 hB150 => ?_)
    replace hB150 : BX w150.heap w1.heap.size [(.slice none 0 0)] := hB150
    have hzs150 : w4.heap.size ≤ w150.heap.size := hC150.size
    have hE150 : Ext w w150 := hC150.below hE4 (fun c hc => by have := List.mem_singleton.1 hc; omega) hE4.size
    have hF151 := hB1x4.chg hC150 (fun hm => by have := List.mem_singleton.1 hm; omega)
    refine lw_tvn 1 rfl (wp_ret (t_ret ?_))
    have hcd : wlC p f n = ((1 : Nat) : Int) := by first | exact wlC_4 hg0 (hasL_y (k := i) oM z31_4) | exact wlC_3 hg0 hnm (bn_t z31_4) | exact wlC_t hg0 hnm (bn_f z31_4) | (have h9 := chN_1 (f := f) (bn_t z31_4); rw [wlC_a oM]; exact h9) | (have h9 := chN_2 (f := f) (bn_f z31_4) z31_4; rw [wlC_a oM]; exact h9) | (have h9 := chN_2 (f := f) (bn_f z31_4) (bn_t z31_4); rw [wlC_a oM]; exact h9) | exact wlC_b (chN_t (bn_f z31_4) z31_4) (bn_t z31_4) | exact wlC_b (chN_t (bn_f z31_4) (bn_f z31_4)) (bn_t z31_4) | exact wlC_b (chN_t (bn_f z31_4) z31_4) z31_4
    exact post_retC (t0 := 7) (ts := []) (cs := [(.slice none 0 0)]) [(.int .i64 ((1 : Nat) : Int))] rfl agg52 rfl hB150 rfl rfl ⟨_, by rw [hcd], hE150, z31_3⟩
end Go.Proofs.Ytjnbnlniafmblaa
