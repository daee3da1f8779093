/- Vh, Vi, Vj, Vk, Vl, Vn, Vo, Xf, Xg: texts of this claim, joined; what the claim does not come to is left out. -/
import Derived.Test.YtnofbmdpabcjaaaQH3
import Derived.Test.YtnofbmdpabcjaaaProg
set_option linter.unusedVariables false
set_option linter.unusedSimpArgs false
namespace Go.Proofs.Ytnofbmdpabcjaaa
open Go Go.RowKit
set_option linter.unusedVariables false
set_option linter.unusedSimpArgs false
set_option maxHeartbeats 4000000
set_option maxRecDepth 100000
attribute [local irreducible] LW
theorem isF_1 {p : List Fn} {f : Int} (h : okP p = false) : 1 = isF p f := by unfold isF; rw [h]; rfl
theorem isF_2 {p : List Fn} {f : Int} (h : okP p = true) (h2 : ¬ (0 ≤ f ∧ f ≤ ((p.length : Nat) : Int) - 1)) : 2 = isF p f := by unfold isF; rw [if_pos h, if_neg h2]
theorem isF_3 {p : List Fn} {f : Int} (h : okP p = true) (h2 : 0 ≤ f ∧ f ≤ ((p.length : Nat) : Int) - 1) : 0 = isF p f := by unfold isF; rw [if_pos h, if_pos h2]
theorem z78_0 {p : Prop} (h : p := by first | exact ret_int (isF_1 (bn_t (by assumption))) | exact ret_int (isF_2 (bn_f (by assumption)) (inB_d (bn_t (by assumption)))) | exact ret_int (isF_3 (bn_f (by assumption)) (inB_e (bn_f (by assumption))))) : p := h
theorem c_impl_isFunc (w : World) (dp : Nat) (vp : Value) (p : List Fn) (f : Int) (hp : RP [] dp w.heap vp p) (_hf : -9223372036854775808 ≤ f ∧ f ≤ 9223372036854775807) (hz : SzP p) :
  Calls Try.prog 78 #[(.agg #[vp]),.int .i64 f] w (fun e w' => e = .returned (.int .i64 (isF p f)) ∧ Ext w w') := by
 refine calls_mk [(.agg #[vp]),.int .i64 f] 17 Try.func78 rfl rfl sM ?_
 have hE0 : Ext w w := Ext.refl w
 have hl_vp := hp.lenle
 unfold maxLen at hl_vp
 refine wp_seq (wp_plain _ [3,0] rfl (r_boxA (cs := #[vp]) rfl zN fun w1 hX1 hz1 hB1 => ?_))
 have hzs1:=hX1.size
 have hE1:=hE0.trans hX1
 replace hB1 : BX w1.heap w.heap.size [vp] := hB1
 refine lw_tvn 1 rfl (wp_seq (wp_block (wp_seq (wp_plain _ [2,3,0,0] rfl (q_loadA (p := (.pointer (some ⟨w.heap.size,0,none⟩))) (.inr rfl) [vp] agg37 rfl (fun w9 hw9 => LD.of_box (BX.ext (w := w1) hB1 hw9)) rfl zN (lw_call 71 [] [] [(.agg #[vp])] rfl rfl cf71 zN (c_impl_ValidProgram _ dp vp (p) (hp.ext (good_rdS (good_rFn dp)) hE1) (by exact hz)) ?_))))))
 rintro e2 w2 ⟨rfl,hX2⟩
 refine ⟨_,rfl,hX2,?_⟩
 have hzs2:=hX2.size
 have hE2:=hE1.trans hX2
 have hB1x2 := hB1.ext hX2
 refine q_not (!(okP p)) rfl rfl zN (lw_tvn 1 rfl ?_)
 cases hb3 : (!(okP p))
 ·
  refine c_cond_f (by first | rfl | (show Value.bool _ = _; rw [hb3])) (wp_seq (wp_plain _ [0,0,2,0,0,0,0,0] rfl (lw_tv 1 rfl (q_fldP (p := (.pointer (some ⟨w.heap.size,0,none⟩))) (b := w.heap.size) (o := 0) 0 fd37_0 rfl rfl zN (q_load (p := (padd (.pointer (some ⟨w.heap.size,0,none⟩)) 0)) (.inr rfl) vp one35 rfl (hB1x2.ldp (i := 0) sM) zN (q_len (v := vp) u35 rfl hp.isSl zN (q_sub (((p.length :Nat):Int) - 1) rfl rfl (w64 oM oM) zN (lw_callq 66 [] [] [(.int .i64 f),(.int .i64 ((0 :Nat):Int)),(.int .i64 (((p.length :Nat):Int) - 1))] rfl rfl cf66 zN (.bool (decide (((0 :Nat):Int) ≤ f) && decide (f ≤ (((p.length :Nat):Int) - 1)))) (fun wq => c_impl_within wq _ _ _ _hf oM oM) ?_))))))))
  refine q_not (!(decide (((0 :Nat):Int) ≤ f) && decide (f ≤ (((p.length :Nat):Int) - 1)))) rfl rfl zN (lw_tvn 1 rfl ?_)
  cases hb5 : (!(decide (((0 :Nat):Int) ≤ f) && decide (f ≤ (((p.length :Nat):Int) - 1))))
  ·
   exact c_cond_f (by first | rfl | (show Value.bool _ = _; rw [hb5])) (wp_skip (wp_seq (wp_plain _ [0] rfl (lw_tvn 1 rfl (wp_ret (post_ret [4] rfl (.int .i64 ((0 :Nat):Int)) rfl ⟨z78_0,hE2⟩))))))
  ·
   exact c_cond_t (by first | rfl | (show Value.bool _ = _; rw [hb5])) (wp_seq (wp_plain _ [0] rfl (lw_tvn 1 rfl (wp_ret (b_ret (t_ret (post_ret [4] rfl (.int .i64 ((2 :Nat):Int)) rfl ⟨z78_0,hE2⟩)))))))
 ·
  exact c_cond_t (by first | rfl | (show Value.bool _ = _; rw [hb3])) (wp_seq (wp_plain _ [0] rfl (lw_tvn 1 rfl (wp_ret (b_ret (t_ret (post_ret [4] rfl (.int .i64 ((1 :Nat):Int)) rfl ⟨z78_0,hE2⟩)))))))
end Go.Proofs.Ytnofbmdpabcjaaa
namespace Go.Proofs.Ytnofbmdpabcjaaa
open Go Go.RowKit
set_option linter.unusedVariables false
set_option linter.unusedSimpArgs false
set_option maxHeartbeats 4000000
set_option maxRecDepth 100000
attribute [local irreducible] LW
theorem c_spec_l00Max (w : World) (a : Int) (b : Int) (_ha : -9223372036854775808 ≤ a ∧ a ≤ 9223372036854775807) (_hb : -9223372036854775808 ≤ b ∧ b ≤ 9223372036854775807)  :
  Calls Try.prog 166 #[.int .i64 a,.int .i64 b] w (fun e w' => e = .returned (.int .i64 (max a b)) ∧ w' = w) := by
 refine calls_mk [.int .i64 a,.int .i64 b] 10 Try.func166 rfl rfl sM ?_
 have hE0 : w = w := rfl
 refine wp_seq (wp_plain _ [0] rfl (lw_tvn 1 rfl (wp_seq (wp_seq (wp_plain _ [0,0,0] rfl (lw_tv 2 rfl ?_))))))
 by_cases hc1 : b < a
 ·
  exact q_gtr true rfl rfl (decide_eq_true hc1) zN (lw_nil (c_cond_t rfl (wp_seq (wp_plain _ [0,0] rfl (lw_tvn 2 rfl (wp_ret (t_ret (post_ret [4] rfl (.int .i64 a) rfl ⟨(ret_int oM),hE0⟩))))))))
 ·
  exact q_gtr false rfl rfl (decide_eq_false hc1) zN (lw_nil (c_cond_f rfl (wp_skip (wp_seq (wp_plain _ [0,0] rfl (lw_tvn 2 rfl (wp_ret (post_ret [4] rfl (.int .i64 b) rfl ⟨(ret_int oM),hE0⟩))))))))
theorem z135_0 {p : Prop} (h : p := by rw [lftE_eq, hx]; first | rw [List.take_of_length_le oM] | exact (lfts_stop oM).symm) : p := h
theorem c_spec_l02Left (w : World) (dex : Nat) (ve : Value) (ex : Ex) (left : Int) (hex : RN [] (rP (rEx dex)) w.heap ve ex) (_hleft : -9223372036854775808 ≤ left ∧ left ≤ 9223372036854775807) (hl0 : 0 ≤ left ∧ left ≤ 100000) (hs : ex.size ≤ 1000000000) :
  Calls Try.prog 135 #[ve,.int .i64 left] w (fun e w' => e = .returned (.int .i64 (lftE ex left)) ∧ Ext w w') := by
 induction dex using Nat.strongRecOn generalizing w ve ex left
 rename_i dex ih
 refine calls_mk [ve,.int .i64 left] 30 Try.func135 rfl rfl sM ?_
 have hE0 : Ext w w := Ext.refl w
 have hsk := size_kids ex
 refine wp_seq (wp_plain _ [0] rfl (lw_tvn 1 rfl (wp_seq (wp_plain _ [0,0,0] rfl (lw_tv 1 rfl (q_sub (left - 1) rfl rfl (w64 oM oM) zN (lw_tvn 1 rfl (wp_seq (wp_seq (wp_plain _ [0] rfl (lw_tvn 1 rfl (wp_block ?_))))))))))))
 refine c_loop (S := Nat × Int) (fun (⟨k,x⟩ : Nat × Int) => ([(1,(.int .i64 x)),(5,(.int .i64 ((k :Nat):Int))),(0,ve)] : List (Nat × Value))) (fun (⟨k,x⟩ : Nat × Int) (W : World) => Ext w W ∧ k ≤ ex.kids.length ∧ x = lfts (ex.kids.take k) (left - 1) ∧ (-1 ≤ x ∧ x ≤ left)) (fun (⟨k,x⟩ : Nat × Int) => ex.kids.length - k) (0,(left - 1)) ⟨rfl,rfl,rfl,trivial⟩ ⟨hE0,sD,(by rw [List.take_zero,lfts]),oM⟩ ?_
 clear hE0
 rintro ⟨k,x⟩ ρ1 w1 ⟨hE1,hp1_0,hx,hp1_2⟩
 have hzs1 : w.heap.size ≤ w1.heap.size := hE1.size
 refine wp_seq (wp_seq (wp_plain _ [0,0,0,0,2,0,0,0,0,0,0] rfl (lw_tv 2 rfl (q_nilP (hex.isPtr) rfl zN ?_))))
 obtain ⟨cs2,hr2,hl2⟩ := RN.at (good_rEx _) hex
 obtain ⟨dd2,ve2,hd2,rfl,hx2⟩ := RX.of hr2
 have hln2 := hx2.rn.lenle
 unfold maxLen at hln2
 refine q_fldL (p := ve) 4 fd31_4 rfl (hl2 _ (Chg.of_ext [] hE1)) zN (q_load (p := (padd ve 4)) (.inr rfl) ve2 one29 rfl ((hl2 _ (Chg.of_ext [] hE1)).ld (i := 4) (by simp [exC,fnC])) zN (q_len (v := ve2) u29 rfl hx2.rn.isSl zN ?_))
 by_cases hc3 : ((k :Nat):Int) < ((ex.kids.length :Nat):Int)
 ·
  refine q_lss true rfl rfl (decide_eq_true hc3) zN (lw_tv 2 rfl ?_)
  by_cases hc4 : ((0 :Nat):Int) ≤ x
  ·
   refine q_geq true rfl rfl (decide_eq_true hc4) (zS (e := 15) rfl rfl rfl) (lw_tvn 1 rfl (c_cond_t rfl (wp_skip (wp_seq (wp_block (wp_plain _ [0,0,0,2,0,0,0,3,0] rfl ?_))))))
   have hst := sizes_step (l := ex.kids) (k := k) oM
   have hle := sizes_take ex.kids (k + 1)
   have hnx := lfts_step (l := ex.kids) (k := k) (x := left - 1) oM oM
   have hnr := lftE_rng (e := ex.kids.getD k Ex.zero) (x := x) oM
   refine lw_tv 1 rfl (q_nilP (hex.isPtr) rfl zN (q_fldL (p := ve) 4 fd31_4 rfl (hl2 _ (Chg.of_ext [] hE1)) zN (q_load (p := (padd ve 4)) (.inr rfl) ve2 one29 rfl ((hl2 _ (Chg.of_ext [] hE1)).ld (i := 4) (by simp [exC,fnC])) zN (lw_tv 1 rfl (q_idx (v := ve2) k u29 tiS31 rfl rfl hx2.rn.isSl rfl sD zN (lw_tv 1 rfl ?_))))))
   refine lw_call 135 [] [] [(eptr ve2 k 5),(.int .i64 x)] rfl rfl cf135 zN (ih dd2 oM _ (eptr ve2 k 5) (ex.kids.getD k Ex.zero) _ (RN.ptr (good_rEx dd2) (by decide) Ex.zero (hx2.rn.ext (good_rdS (good_rEx dd2)) hE1) sD) oM oM oM) ?_
   rintro e5 w5 ⟨rfl,hX5⟩
   refine ⟨_,rfl,hX5,?_⟩
   have hzs5:=hX5.size
   have hE5:=hE1.trans hX5
   refine lw_tvn 1 rfl (wp_plain _ [0,0,0] rfl (lw_tv 1 rfl (q_add ((k + 1 :Nat):Int) rfl rfl (w64n oM sD) zN (lw_tvn 1 rfl ?_))))
   exact ⟨((k + 1),(lftE (ex.kids.getD k Ex.zero) x)),_,rfl,⟨rfl,rfl,rfl,trivial⟩,⟨hE5,sD,(by rw [hnx,hx]),oM⟩,by first | omega | (dsimp only; omega)⟩
  ·
   exact q_geq false rfl rfl (decide_eq_false hc4) (zS (e := 15) rfl rfl rfl) (lw_tvn 1 rfl (c_cond_f rfl (wp_exit (t_exit (t_exit (c_exit_here (wp_seq (wp_plain _ [0,0] rfl (lw_tvn 2 rfl (wp_ret (post_ret [4] rfl (.int .i64 x) rfl ⟨(ret_int z135_0),hE1⟩)))))))))))
 ·
  exact q_lss false rfl rfl (decide_eq_false hc3) zN (lw_tvn 4 rfl (c_cond_f rfl (wp_exit (t_exit (t_exit (c_exit_here (wp_seq (wp_plain _ [0,0] rfl (lw_tvn 2 rfl (wp_ret (post_ret [4] rfl (.int .i64 x) rfl ⟨(ret_int z135_0),hE1⟩)))))))))))
theorem c_spec_l02Depth (w : World) (dex : Nat) (ve : Value) (ex : Ex) (hex : RN [] (rP (rEx dex)) w.heap ve ex) (hs : ex.size ≤ 1000000000) :
  Calls Try.prog 147 #[ve] w (fun e w' => e = .returned (.int .i64 ((ex.deep :Nat):Int)) ∧ Ext w w') := by
 induction dex using Nat.strongRecOn generalizing w ve ex
 rename_i dex ih
 refine calls_mk [ve] 25 Try.func147 rfl rfl sM ?_
 have hE0 : Ext w w := Ext.refl w
 have hsk := size_kids ex
 have hdk := deep_kids ex
 refine wp_seq (wp_plain _ [0] rfl (lw_tvn 1 rfl (wp_seq (wp_plain _ [0] rfl (lw_tvn 1 rfl (wp_seq (wp_seq (wp_plain _ [0] rfl (lw_tvn 1 rfl (wp_block ?_))))))))))
 refine c_loop (S := Nat × Int) (fun (⟨k,sz⟩ : Nat × Int) => ([(3,(.int .i64 sz)),(4,(.int .i64 ((k :Nat):Int))),(0,ve)] : List (Nat × Value))) (fun (⟨k,sz⟩ : Nat × Int) (W : World) => Ext w W ∧ k ≤ ex.kids.length ∧ sz = ((Ex.deeps (ex.kids.take k) :Nat):Int) ∧ (0 ≤ sz ∧ sz ≤ 1000000000)) (fun (⟨k,sz⟩ : Nat × Int) => ex.kids.length - k) (0,((0 :Nat):Int)) ⟨rfl,rfl,rfl,trivial⟩ ⟨hE0,sD,(by rw [List.take_zero,deeps_nil] <;> rfl),oM⟩ ?_
 clear hE0
 rintro ⟨k,sz⟩ ρ1 w1 ⟨hE1,hp1_0,hsz,hp1_2⟩
 have hzs1 : w.heap.size ≤ w1.heap.size := hE1.size
 refine wp_seq (wp_seq (wp_plain _ [0,0,0,0,2,0,0] rfl (lw_tv 2 rfl (q_nilP (hex.isPtr) rfl zN ?_))))
 obtain ⟨cs2,hr2,hl2⟩ := RN.at (good_rEx _) hex
 obtain ⟨dd2,ve2,hd2,rfl,hx2⟩ := RX.of hr2
 have hln2 := hx2.rn.lenle
 unfold maxLen at hln2
 refine q_fldL (p := ve) 4 fd31_4 rfl (hl2 _ (Chg.of_ext [] hE1)) zN (q_load (p := (padd ve 4)) (.inr rfl) ve2 one29 rfl ((hl2 _ (Chg.of_ext [] hE1)).ld (i := 4) (by simp [exC,fnC])) zN (q_len (v := ve2) u29 rfl hx2.rn.isSl zN ?_))
 by_cases hc3 : ((k :Nat):Int) < ((ex.kids.length :Nat):Int)
 ·
  refine q_lss true rfl rfl (decide_eq_true hc3) zN (lw_nil (c_cond_t rfl (wp_skip (wp_seq (wp_block (wp_plain _ [0,0,0,0,2,0,0,3,0,0] rfl ?_))))))
  have hst := sizes_step (l := ex.kids) (k := k) oM
  have hle := sizes_take ex.kids (k + 1)
  have hdt := deeps_step (l := ex.kids) (k := k) oM
  have hda := deep_size (ex.kids.getD k Ex.zero)
  have hdz := deeps_size (ex.kids.take k)
  refine lw_tv 2 rfl (q_nilP (hex.isPtr) rfl zN (q_fldL (p := ve) 4 fd31_4 rfl (hl2 _ (Chg.of_ext [] hE1)) zN (q_load (p := (padd ve 4)) (.inr rfl) ve2 one29 rfl ((hl2 _ (Chg.of_ext [] hE1)).ld (i := 4) (by simp [exC,fnC])) zN (lw_tv 1 rfl (q_idx (v := ve2) k u29 tiS31 rfl rfl hx2.rn.isSl rfl sD zN ?_)))))
  refine lw_call 147 [] [] [(eptr ve2 k 5)] rfl rfl cf147 zN (ih dd2 oM _ (eptr ve2 k 5) (ex.kids.getD k Ex.zero) (RN.ptr (good_rEx dd2) (by decide) Ex.zero (hx2.rn.ext (good_rdS (good_rEx dd2)) hE1) sD) oM) ?_
  rintro e4 w4 ⟨rfl,hX4⟩
  refine ⟨_,rfl,hX4,?_⟩
  have hzs4:=hX4.size
  have hE4:=hE1.trans hX4
  refine lw_callq 166 [] [] [(.int .i64 sz),(.int .i64 (((ex.kids.getD k Ex.zero).deep :Nat):Int))] rfl rfl cf166 zN (.int .i64 (max sz (((ex.kids.getD k Ex.zero).deep :Nat):Int))) (fun wq => c_spec_l00Max wq _ _ oM (by have := deep_size (ex.kids.getD k Ex.zero); omega)) (lw_tvn 1 rfl (wp_plain _ [0,0,0] rfl (lw_tv 1 rfl (q_add ((k + 1 :Nat):Int) rfl rfl (w64n oM sD) zN (lw_tvn 1 rfl ?_)))))
  exact ⟨((k + 1),(max sz (((ex.kids.getD k Ex.zero).deep :Nat):Int))),_,rfl,⟨rfl,rfl,rfl,trivial⟩,⟨hE4,sD,oM,oM⟩,by first | omega | (dsimp only; omega)⟩
 ·
  refine q_lss false rfl rfl (decide_eq_false hc3) zN (lw_nil (c_cond_f rfl (wp_exit (t_exit (t_exit (c_exit_here (wp_seq (wp_plain _ [0,0,0] rfl ?_))))))))
  have h8 := deeps_all (l := ex.kids) (k := k) oM
  have h9 := deep_size ex
  exact lw_tv 1 rfl (q_add (sz + 1) rfl rfl (w64 oM oM) zN (lw_tvn 1 rfl (wp_ret (post_ret [2] rfl (.int .i64 (sz + 1)) rfl ⟨(ret_int oM),hE1⟩))))
theorem z121_0 {p : Prop} (h : p := by unfold kdN; repeat (first | rfl | (rw [if_pos oM]) | (rw [if_neg oM]))) : p := h
theorem c_spec_l02Kids (w : World) (kind : Int) (_hkind : -9223372036854775808 ≤ kind ∧ kind ≤ 9223372036854775807)  :
  Calls Try.prog 121 #[.int .i64 kind] w (fun e w' => e = .returned (.int .i64 (kdN kind)) ∧ w' = w) := by
 refine calls_mk [.int .i64 kind] 17 Try.func121 rfl rfl sM ?_
 have hE0 : w = w := rfl
 refine wp_seq (wp_plain _ [0] rfl (lw_tvn 1 rfl (wp_seq (wp_seq (wp_plain _ [0] rfl (lw_tvn 1 rfl (wp_block (wp_seq (wp_seq (wp_plain _ [0,0] rfl ?_))))))))))
 by_cases hc1 : kind = ((1 :Nat):Int)
 ·
  exact q_eql true rfl rfl (decide_eq_true hc1) zN (lw_tvn 1 rfl (c_cond_t rfl (wp_skip (c_cond_t rfl (wp_seq (wp_plain _ [0] rfl (lw_tvn 1 rfl (wp_ret (b_ret (t_ret (post_ret [2] rfl (.int .i64 ((0 :Nat):Int)) rfl ⟨(ret_int z121_0),hE0⟩)))))))))))
 ·
  refine q_eql false rfl rfl (decide_eq_false hc1) zN (lw_tvn 1 rfl (c_cond_f rfl (wp_plain _ [0,0] rfl ?_)))
  by_cases hc2 : kind = ((2 :Nat):Int)
  ·
   exact q_eql true rfl rfl (decide_eq_true hc2) zN (lw_tvn 1 rfl (c_cond_t rfl (wp_seq (wp_plain _ [0] rfl (lw_tvn 1 rfl (wp_ret (b_ret (t_ret (post_ret [2] rfl (.int .i64 ((0 :Nat):Int)) rfl ⟨(ret_int z121_0),hE0⟩)))))))))
  ·
   refine q_eql false rfl rfl (decide_eq_false hc2) zN (lw_tvn 1 rfl (c_cond_f rfl (wp_seq (wp_seq (wp_plain _ [0,0] rfl ?_)))))
   by_cases hc3 : kind = ((3 :Nat):Int)
   ·
    exact q_eql true rfl rfl (decide_eq_true hc3) zN (lw_tvn 1 rfl (c_cond_t rfl (wp_skip (c_cond_t rfl (wp_seq (wp_plain _ [0] rfl (lw_tvn 1 rfl (wp_ret (b_ret (t_ret (post_ret [2] rfl (.int .i64 ((2 :Nat):Int)) rfl ⟨(ret_int z121_0),hE0⟩)))))))))))
   ·
    refine q_eql false rfl rfl (decide_eq_false hc3) zN (lw_tvn 1 rfl (c_cond_f rfl (wp_seq (wp_plain _ [0,0] rfl ?_))))
    by_cases hc4 : kind = ((4 :Nat):Int)
    ·
     exact q_eql true rfl rfl (decide_eq_true hc4) zN (lw_tvn 1 rfl (c_cond_t rfl (wp_skip (c_cond_t rfl (wp_seq (wp_plain _ [0] rfl (lw_tvn 1 rfl (wp_ret (b_ret (t_ret (post_ret [2] rfl (.int .i64 ((2 :Nat):Int)) rfl ⟨(ret_int z121_0),hE0⟩)))))))))))
    ·
     refine q_eql false rfl rfl (decide_eq_false hc4) zN (lw_tvn 1 rfl (c_cond_f rfl (wp_seq (wp_plain _ [0,0] rfl ?_))))
     by_cases hc5 : kind = ((5 :Nat):Int)
     ·
      exact q_eql true rfl rfl (decide_eq_true hc5) zN (lw_tvn 1 rfl (c_cond_t rfl (wp_skip (c_cond_t rfl (wp_seq (wp_plain _ [0] rfl (lw_tvn 1 rfl (wp_ret (b_ret (t_ret (post_ret [2] rfl (.int .i64 ((2 :Nat):Int)) rfl ⟨(ret_int z121_0),hE0⟩)))))))))))
     ·
      refine q_eql false rfl rfl (decide_eq_false hc5) zN (lw_tvn 1 rfl (c_cond_f rfl (wp_seq (wp_plain _ [0,0] rfl ?_))))
      by_cases hc6 : kind = ((6 :Nat):Int)
      ·
       exact q_eql true rfl rfl (decide_eq_true hc6) zN (lw_tvn 1 rfl (c_cond_t rfl (wp_skip (c_cond_t rfl (wp_seq (wp_plain _ [0] rfl (lw_tvn 1 rfl (wp_ret (b_ret (t_ret (post_ret [2] rfl (.int .i64 ((2 :Nat):Int)) rfl ⟨(ret_int z121_0),hE0⟩)))))))))))
      ·
       refine q_eql false rfl rfl (decide_eq_false hc6) zN (lw_tvn 1 rfl (c_cond_f rfl (wp_plain _ [0,0] rfl ?_)))
       by_cases hc7 : kind = ((9 :Nat):Int)
       ·
        exact q_eql true rfl rfl (decide_eq_true hc7) zN (lw_tvn 1 rfl (c_cond_t rfl (wp_seq (wp_plain _ [0] rfl (lw_tvn 1 rfl (wp_ret (b_ret (t_ret (post_ret [2] rfl (.int .i64 ((2 :Nat):Int)) rfl ⟨(ret_int z121_0),hE0⟩)))))))))
       ·
        refine q_eql false rfl rfl (decide_eq_false hc7) zN (lw_tvn 1 rfl (c_cond_f rfl (wp_seq (wp_plain _ [0,0] rfl ?_))))
        by_cases hc8 : kind = ((7 :Nat):Int)
        ·
         exact q_eql true rfl rfl (decide_eq_true hc8) zN (lw_tvn 1 rfl (c_cond_t rfl (wp_seq (wp_plain _ [0] rfl (lw_tvn 1 rfl (wp_ret (b_ret (t_ret (post_ret [2] rfl (.int .i64 ((1 :Nat):Int)) rfl ⟨(ret_int z121_0),hE0⟩)))))))))
        ·
         refine q_eql false rfl rfl (decide_eq_false hc8) zN (lw_tvn 1 rfl (c_cond_f rfl (wp_seq (wp_plain _ [0,0] rfl ?_))))
         by_cases hc9 : kind = ((8 :Nat):Int)
         ·
          exact q_eql true rfl rfl (decide_eq_true hc9) zN (lw_tvn 1 rfl (c_cond_t rfl (wp_seq (wp_plain _ [0] rfl (lw_tvn 1 rfl (wp_ret (b_ret (t_ret (post_ret [2] rfl (.int .i64 ((3 :Nat):Int)) rfl ⟨(ret_int z121_0),hE0⟩)))))))))
         ·
          exact q_eql false rfl rfl (decide_eq_false hc9) zN (lw_tvn 1 rfl (c_cond_f rfl (wp_skip (wp_seq (wp_plain _ [0] rfl (lw_tvn 1 rfl (wp_ret (post_ret [2] rfl (.int .i64 (-1)) rfl ⟨(ret_int z121_0),hE0⟩))))))))
theorem z167_0 {p : Prop} (h : p := by first | exact ret_bool (nd_bad oM oM oM) | exact ret_bool (nd_1 oM oM oM oM) | exact ret_bool (nd_2 oM oM oM oM) | exact ret_bool ((decide_congr oM).trans (nd_o oM oM oM oM oM oM oM)) | exact ret_bool (by unfold wfN plainB inB; first | (simp [*]; done) | (simp [*]; omega) | (simp [*] <;> intros <;> omega) | (simp_all; done) | (simp_all <;> omega))) : p := h
theorem z167_1 {p : Prop} (h : p := by simp [exC, fnC]) : p := h
theorem c_spec_l02Node (w : World) (dp : Nat) (vp : Value) (p : List Fn) (dex : Nat) (ve : Value) (ex : Ex) (vars : Int) (funcs : Int) (hp : RN [] (rP (rPr dp)) w.heap vp p) (hex : RN [] (rP (rEx dex)) w.heap ve ex) (_hvars : -9223372036854775808 ≤ vars ∧ vars ≤ 9223372036854775807) (_hfuncs : -9223372036854775808 ≤ funcs ∧ funcs ≤ 9223372036854775807) (hv : 0 ≤ vars ∧ vars ≤ 2000000000) (hf : 0 ≤ funcs ∧ funcs ≤ ((p.length :Nat):Int)) :
  Calls Try.prog 167 #[vp,ve,.int .i64 vars,.int .i64 funcs] w (fun e w' => e = .returned (.bool (wfN p funcs vars ex)) ∧ Ext w w') := by
 refine calls_mk [vp,ve,.int .i64 vars,.int .i64 funcs] 140 Try.func167 rfl rfl sM ?_
 have hE0 : Ext w w := Ext.refl w
 refine wp_seq (wp_plain _ [0] rfl (lw_tvn 1 rfl (wp_seq (wp_seq (wp_plain _ [0,0,0,2,0,0,0,0,0,2,0,0] rfl (lw_tv 1 rfl (q_nilP (hex.isPtr) rfl zN ?_)))))))
 obtain ⟨cs1,hr1,hl1⟩ := RN.at (good_rEx _) hex
 obtain ⟨dd1,ve1,hd1,rfl,hx1⟩ := RX.of hr1
 have hln1 := hx1.rn.lenle
 unfold maxLen at hln1
 refine q_fldL (p := ve) 0 fd31_0 rfl (hl1 _ (Chg.of_ext [] hE0)) zN (q_load (p := (padd ve 0)) (.inr rfl) (.int .i64 ex.kind) one2 rfl ((hl1 _ (Chg.of_ext [] hE0)).ld (i := 0) z167_1) zN ?_)
 by_cases hc2 : ex.kind = ((10 :Nat):Int)
 ·
  refine q_eql true rfl rfl (decide_eq_true hc2) zN (lw_tvn 7 rfl (c_cond_t rfl (wp_seq (wp_seq (wp_plain _ [0,0,0,2,0,0,0,0] rfl (lw_tv 1 rfl (q_nilP (hex.isPtr) rfl zN (q_fldL (p := ve) 1 fd31_1 rfl (hl1 _ (Chg.of_ext [] hE0)) zN (q_load (p := (padd ve 1)) (.inr rfl) (.int .i64 ex.num) one2 rfl ((hl1 _ (Chg.of_ext [] hE0)).ld (i := 1) z167_1) zN (lw_tv 1 rfl (q_sub (funcs - 1) rfl rfl (w64 oM oM) zN (lw_callq 62 [] [] [(.int .i64 ex.num),(.int .i64 ((0 :Nat):Int)),(.int .i64 (funcs - 1))] rfl rfl cf62 zN (.bool (decide (((0 :Nat):Int) ≤ ex.num) && decide (ex.num ≤ (funcs - 1)))) (fun wq => c_spec_l00In wq _ _ _ hx1.rng.num oM oM) ?_))))))))))))
  refine q_not (!(decide (((0 :Nat):Int) ≤ ex.num) && decide (ex.num ≤ (funcs - 1)))) rfl rfl zN (lw_nil ?_)
  cases hb4 : (!(decide (((0 :Nat):Int) ≤ ex.num) && decide (ex.num ≤ (funcs - 1))))
  ·
   refine c_cond_f (by first | rfl | (show Value.bool _ = _; rw [hb4])) (wp_skip (wp_seq (wp_draw _ [0,0,0,1,0,0,0,1,0,0] mixed (by kernel_rfl) ?_)))
   have hnr := inB_e (bn_f (by assumption) : (decide (((0 :Nat):Int) ≤ ex.num) && decide (ex.num ≤ funcs - 1)) = true)
   refine lw_tv 1 rfl (q_nilP (hp.isPtr) rfl zN ?_)
   obtain ⟨cs5,hr5,hl5⟩ := RN.at (good_rPr _) hp
   obtain ⟨ve5,rfl,hx5⟩ := RPr.of hr5
   have hln5 := hx5.lenle
   unfold maxLen at hln5
   refine q_fldL (p := vp) 0 fd37_0 rfl (hl5 _ (Chg.of_ext [] hE0.drew)) zN (q_load (p := (padd vp 0)) (.inl rfl) ve5 one35 rfl ((hl5 _ (Chg.of_ext [] hE0.drew)).ld (i := 0) z167_1) zN (lw_tv 1 rfl (q_nilP (hex.isPtr) rfl zN (q_fldL (p := ve) 1 fd31_1 rfl (hl1 _ (Chg.of_ext [] hE0.drew)) zN (q_load (p := (padd ve 1)) (.inl rfl) (.int .i64 ex.num) one2 rfl ((hl1 _ (Chg.of_ext [] hE0.drew)).ld (i := 1) z167_1) zN ?_)))))
   refine q_idx (v := ve5) ((ex.num).toNat) u35 tiS34 rfl rfl hx5.isSl oM sD zN (lw_tvn 1 rfl (wp_seq (wp_seq (wp_draw _ [0,0,0,1,0,0,0,1,0,0,0,0,0,0,0,0,1,0,0,0,0,1,0,0] mixed (by kernel_rfl) (lw_tv 1 rfl (q_nilP (hex.isPtr) rfl zN (q_fldL (p := ve) 2 fd31_2 rfl (hl1 _ (Chg.of_ext [] hE0.drew.drew)) zN ?_)))))))
   refine q_load (p := (padd ve 2)) (.inl rfl) (.int .i64 ex.pick) one2 rfl ((hl1 _ (Chg.of_ext [] hE0.drew.drew)).ld (i := 2) z167_1) zN (lw_tv 1 rfl (q_nilP (RN.isPtr (RN.ptr (good_rFn dp) (by decide) Fn.zero hx5 sD)) rfl zN ?_))
   obtain ⟨cs6,hr6,hl6⟩ := hx5.get (good_rFn dp) Fn.zero (k := ((ex.num).toNat)) sD
   obtain ⟨ve6,rfl,hx6⟩ := RF.of hr6
   have hln6 := hx6.rn.lenle
   unfold maxLen at hln6
   refine q_fldL (p := eptr ve5 ((ex.num).toNat) 3) 2 fd34_2 rfl (hl6 _ (Chg.of_ext [] hE0.drew.drew)) zN (q_load (p := (padd (eptr ve5 ((ex.num).toNat) 3) 2)) (.inl rfl) ve6 one29 rfl ((hl6 _ (Chg.of_ext [] hE0.drew.drew)).ld (i := 2) z167_1) zN (q_len (v := ve6) u29 rfl hx6.rn.isSl zN (q_sub ((((p.getD (ex.num).toNat Fn.zero).outs.length :Nat):Int) - 1) rfl rfl (w64 oM oM) zN (lw_callq 62 [] [] [(.int .i64 ex.pick),(.int .i64 ((0 :Nat):Int)),(.int .i64 ((((p.getD (ex.num).toNat Fn.zero).outs.length :Nat):Int) - 1))] rfl rfl cf62 zN (.bool (decide (((0 :Nat):Int) ≤ ex.pick) && decide (ex.pick ≤ ((((p.getD (ex.num).toNat Fn.zero).outs.length :Nat):Int) - 1)))) (fun wq => c_spec_l00In wq _ _ _ hx1.rng.pick oM oM) ?_))))
   refine q_not (!(decide (((0 :Nat):Int) ≤ ex.pick) && decide (ex.pick ≤ ((((p.getD (ex.num).toNat Fn.zero).outs.length :Nat):Int) - 1)))) rfl rfl zN (lw_tv 1 rfl ?_)
   cases hb8 : (!(decide (((0 :Nat):Int) ≤ ex.pick) && decide (ex.pick ≤ ((((p.getD (ex.num).toNat Fn.zero).outs.length :Nat):Int) - 1))))
   ·
    refine lw_tv 1 rfl (q_nilP (hex.isPtr) rfl (zS (e := 51) rfl rfl rfl) (q_fldL (p := ve) 4 fd31_4 rfl (hl1 _ (Chg.of_ext [] hE0.drew.drew)) (zS (e := 51) rfl rfl rfl) (q_load (p := (padd ve 4)) (.inl rfl) ve1 one29 rfl ((hl1 _ (Chg.of_ext [] hE0.drew.drew)).ld (i := 4) z167_1) (zS (e := 51) rfl rfl rfl) (q_len (v := ve1) u29 rfl hx1.rn.isSl (zS (e := 51) rfl rfl rfl) (lw_tv 1 rfl ?_)))))
    refine q_nilP (RN.isPtr (RN.ptr (good_rFn dp) (by decide) Fn.zero hx5 sD)) rfl (zS (e := 51) rfl rfl rfl) (q_fldL (p := eptr ve5 ((ex.num).toNat) 3) 1 fd34_1 rfl (hl6 _ (Chg.of_ext [] hE0.drew.drew)) (zS (e := 51) rfl rfl rfl) (q_load (p := (padd (eptr ve5 ((ex.num).toNat) 3) 1)) (.inl rfl) (.int .i64 ((p.getD ((ex.num).toNat) Fn.zero).params)) one2 rfl ((hl6 _ (Chg.of_ext [] hE0.drew.drew)).ld (i := 1) z167_1) (zS (e := 51) rfl rfl rfl) ?_))
    by_cases hc9 : ((ex.kids.length :Nat):Int) ≠ (p.getD ((ex.num).toNat) Fn.zero).params
    ·
     exact q_neq true rfl rfl (decide_eq_true hc9) (zS (e := 51) rfl rfl rfl) (lw_tvn 1 rfl (c_cond_t rfl (wp_seq (wp_plain _ [0] rfl (lw_tvn 1 rfl (wp_ret (t_ret (t_ret (post_ret [8] rfl (.bool false) rfl ⟨z167_0,hE0.drew.drew⟩)))))))))
    ·
     refine q_neq false rfl rfl (decide_eq_false hc9) (zS (e := 51) rfl rfl rfl) (lw_tvn 1 rfl (c_cond_f rfl (wp_skip (wp_seq (wp_seq (wp_plain _ [0,0,0,2,0] rfl (lw_tv 1 rfl (q_nilP (hex.isPtr) rfl zN (q_fldL (p := ve) 0 fd31_0 rfl (hl1 _ (Chg.of_ext [] hE0.drew.drew)) zN (q_load (p := (padd ve 0)) (.inr rfl) (.int .i64 ex.kind) one2 rfl ((hl1 _ (Chg.of_ext [] hE0.drew.drew)).ld (i := 0) z167_1) zN ?_))))))))))
     by_cases hc10 : ex.kind = ((10 :Nat):Int)
     ·
      refine q_eql true rfl rfl (decide_eq_true hc10) zN (lw_nil (c_cond_t rfl (wp_seq (wp_plain _ [0,0,0,2,0,0] rfl (lw_tv 1 rfl (q_nilP (hex.isPtr) rfl zN (q_fldL (p := ve) 3 fd31_3 rfl (hl1 _ (Chg.of_ext [] hE0.drew.drew)) zN (q_load (p := (padd ve 3)) (.inr rfl) (.int .i64 ex.count) one2 rfl ((hl1 _ (Chg.of_ext [] hE0.drew.drew)).ld (i := 3) z167_1) zN (q_eql (decide (ex.count = ((0 :Nat):Int))) rfl rfl rfl zN (lw_tvn 1 rfl (wp_ret (t_ret (t_ret ?_)))))))))))))
      exact post_ret [8] rfl (.bool (decide (ex.count = ((0 :Nat):Int)))) rfl ⟨z167_0,hE0.drew.drew⟩
     ·
      refine q_eql false rfl rfl (decide_eq_false hc10) zN (lw_nil (c_cond_f rfl (wp_skip (wp_seq (wp_draw _ [0,0,0,1,0,0,0,0,0,1,0,0,0,0,1,0,0,0] mixed (by kernel_rfl) (lw_tv 1 rfl (q_nilP (hex.isPtr) rfl zN (q_fldL (p := ve) 3 fd31_3 rfl (hl1 _ (Chg.of_ext [] hE0.drew.drew.drew)) zN (q_load (p := (padd ve 3)) (.inl rfl) (.int .i64 ex.count) one2 rfl ((hl1 _ (Chg.of_ext [] hE0.drew.drew.drew)).ld (i := 3) z167_1) zN (lw_callq 62 [] [] [(.int .i64 ex.count),(.int .i64 ((0 :Nat):Int)),(.int .i64 ((8 :Nat):Int))] rfl rfl cf62 zN (.bool (decide (((0 :Nat):Int) ≤ ex.count) && decide (ex.count ≤ ((8 :Nat):Int)))) (fun wq => c_spec_l00In wq _ _ _ hx1.rng.count oM oM) (lw_tv 1 rfl ?_)))))))))))
      cases hb12 : (decide (((0 :Nat):Int) ≤ ex.count) && decide (ex.count ≤ ((8 :Nat):Int)))
      ·
       exact lw_tvn 12 rfl (wp_ret (t_ret (post_ret [8] rfl (.bool false) rfl ⟨z167_0,hE0.drew.drew.drew⟩)))
      ·
       refine lw_tv 1 rfl (q_nilP (RN.isPtr (RN.ptr (good_rFn dp) (by decide) Fn.zero hx5 sD)) rfl (zS (e := 78) rfl rfl rfl) (q_fldL (p := eptr ve5 ((ex.num).toNat) 3) 2 fd34_2 rfl (hl6 _ (Chg.of_ext [] hE0.drew.drew.drew)) (zS (e := 78) rfl rfl rfl) (q_load (p := (padd (eptr ve5 ((ex.num).toNat) 3) 2)) (.inl rfl) ve6 one29 rfl ((hl6 _ (Chg.of_ext [] hE0.drew.drew.drew)).ld (i := 2) z167_1) (zS (e := 78) rfl rfl rfl) ?_)))
       refine q_len (v := ve6) u29 rfl hx6.rn.isSl (zS (e := 78) rfl rfl rfl) (lw_tv 1 rfl (q_nilP (RN.isPtr (RN.ptr (good_rFn dp) (by decide) Fn.zero hx5 sD)) rfl (zS (e := 78) rfl rfl rfl) (q_fldL (p := eptr ve5 ((ex.num).toNat) 3) 1 fd34_1 rfl (hl6 _ (Chg.of_ext [] hE0.drew.drew.drew)) (zS (e := 78) rfl rfl rfl) ?_)))
       refine q_load (p := (padd (eptr ve5 ((ex.num).toNat) 3) 1)) (.inl rfl) (.int .i64 ((p.getD ((ex.num).toNat) Fn.zero).params)) one2 rfl ((hl6 _ (Chg.of_ext [] hE0.drew.drew.drew)).ld (i := 1) z167_1) (zS (e := 78) rfl rfl rfl) (q_eql (decide (((((p.getD ((ex.num).toNat) Fn.zero).outs).length :Nat):Int) = (p.getD ((ex.num).toNat) Fn.zero).params)) rfl rfl rfl (zS (e := 78) rfl rfl rfl) (lw_tvn 2 rfl (wp_ret (t_ret ?_))))
       exact post_ret [8] rfl (.bool (decide (((((p.getD ((ex.num).toNat) Fn.zero).outs).length :Nat):Int) = (p.getD ((ex.num).toNat) Fn.zero).params))) rfl ⟨z167_0,hE0.drew.drew.drew⟩
   ·
    exact lw_tvn 11 rfl (c_cond_t rfl (wp_seq (wp_plain _ [0] rfl (lw_tvn 1 rfl (wp_ret (t_ret (t_ret (post_ret [8] rfl (.bool false) rfl ⟨z167_0,hE0.drew.drew⟩))))))))
  ·
   exact c_cond_t (by first | rfl | (show Value.bool _ = _; rw [hb4])) (wp_seq (wp_plain _ [0] rfl (lw_tvn 1 rfl (wp_ret (t_ret (t_ret (post_ret [8] rfl (.bool false) rfl ⟨z167_0,hE0⟩)))))))
 ·
  refine q_eql false rfl rfl (decide_eq_false hc2) zN (lw_tv 2 rfl (q_nilP (hex.isPtr) rfl (zS (e := 15) rfl rfl rfl) (q_fldL (p := ve) 0 fd31_0 rfl (hl1 _ (Chg.of_ext [] hE0)) (zS (e := 15) rfl rfl rfl) (q_load (p := (padd ve 0)) (.inr rfl) (.int .i64 ex.kind) one2 rfl ((hl1 _ (Chg.of_ext [] hE0)).ld (i := 0) z167_1) (zS (e := 15) rfl rfl rfl) ?_))))
  by_cases hc13 : ex.kind = ((11 :Nat):Int)
  ·
   refine q_eql true rfl rfl (decide_eq_true hc13) (zS (e := 15) rfl rfl rfl) (lw_tvn 1 rfl (c_cond_t rfl (wp_seq (wp_seq (wp_plain _ [0,0,0,2,0,0,0,0] rfl (lw_tv 1 rfl (q_nilP (hex.isPtr) rfl zN (q_fldL (p := ve) 1 fd31_1 rfl (hl1 _ (Chg.of_ext [] hE0)) zN (q_load (p := (padd ve 1)) (.inr rfl) (.int .i64 ex.num) one2 rfl ((hl1 _ (Chg.of_ext [] hE0)).ld (i := 1) z167_1) zN (lw_tv 1 rfl (q_sub (funcs - 1) rfl rfl (w64 oM oM) zN (lw_callq 62 [] [] [(.int .i64 ex.num),(.int .i64 ((0 :Nat):Int)),(.int .i64 (funcs - 1))] rfl rfl cf62 zN (.bool (decide (((0 :Nat):Int) ≤ ex.num) && decide (ex.num ≤ (funcs - 1)))) (fun wq => c_spec_l00In wq _ _ _ hx1.rng.num oM oM) ?_))))))))))))
   refine q_not (!(decide (((0 :Nat):Int) ≤ ex.num) && decide (ex.num ≤ (funcs - 1)))) rfl rfl zN (lw_nil ?_)
   cases hb15 : (!(decide (((0 :Nat):Int) ≤ ex.num) && decide (ex.num ≤ (funcs - 1))))
   ·
    refine c_cond_f (by first | rfl | (show Value.bool _ = _; rw [hb15])) (wp_skip (wp_seq (wp_draw _ [0,0,0,1,0,0,0,1,0,0] mixed (by kernel_rfl) ?_)))
    have hnr := inB_e (bn_f (by assumption) : (decide (((0 :Nat):Int) ≤ ex.num) && decide (ex.num ≤ funcs - 1)) = true)
    refine lw_tv 1 rfl (q_nilP (hp.isPtr) rfl zN ?_)
    obtain ⟨cs16,hr16,hl16⟩ := RN.at (good_rPr _) hp
    obtain ⟨ve16,rfl,hx16⟩ := RPr.of hr16
    have hln16 := hx16.lenle
    unfold maxLen at hln16
    refine q_fldL (p := vp) 0 fd37_0 rfl (hl16 _ (Chg.of_ext [] hE0.drew)) zN (q_load (p := (padd vp 0)) (.inl rfl) ve16 one35 rfl ((hl16 _ (Chg.of_ext [] hE0.drew)).ld (i := 0) z167_1) zN (lw_tv 1 rfl (q_nilP (hex.isPtr) rfl zN (q_fldL (p := ve) 1 fd31_1 rfl (hl1 _ (Chg.of_ext [] hE0.drew)) zN (q_load (p := (padd ve 1)) (.inl rfl) (.int .i64 ex.num) one2 rfl ((hl1 _ (Chg.of_ext [] hE0.drew)).ld (i := 1) z167_1) zN ?_)))))
    refine q_idx (v := ve16) ((ex.num).toNat) u35 tiS34 rfl rfl hx16.isSl oM sD zN (lw_tvn 1 rfl (wp_seq (wp_seq (wp_draw _ [0,0,0,1,0,0,0,1,0,0,0,0,0,0,0,0,1,0,0,0,0,1,0,0] mixed (by kernel_rfl) (lw_tv 1 rfl (q_nilP (hex.isPtr) rfl zN (q_fldL (p := ve) 2 fd31_2 rfl (hl1 _ (Chg.of_ext [] hE0.drew.drew)) zN ?_)))))))
    refine q_load (p := (padd ve 2)) (.inl rfl) (.int .i64 ex.pick) one2 rfl ((hl1 _ (Chg.of_ext [] hE0.drew.drew)).ld (i := 2) z167_1) zN (lw_tv 1 rfl (q_nilP (RN.isPtr (RN.ptr (good_rFn dp) (by decide) Fn.zero hx16 sD)) rfl zN ?_))
    obtain ⟨cs17,hr17,hl17⟩ := hx16.get (good_rFn dp) Fn.zero (k := ((ex.num).toNat)) sD
    obtain ⟨ve17,rfl,hx17⟩ := RF.of hr17
    have hln17 := hx17.rn.lenle
    unfold maxLen at hln17
    refine q_fldL (p := eptr ve16 ((ex.num).toNat) 3) 2 fd34_2 rfl (hl17 _ (Chg.of_ext [] hE0.drew.drew)) zN (q_load (p := (padd (eptr ve16 ((ex.num).toNat) 3) 2)) (.inl rfl) ve17 one29 rfl ((hl17 _ (Chg.of_ext [] hE0.drew.drew)).ld (i := 2) z167_1) zN (q_len (v := ve17) u29 rfl hx17.rn.isSl zN (q_sub ((((p.getD (ex.num).toNat Fn.zero).outs.length :Nat):Int) - 1) rfl rfl (w64 oM oM) zN (lw_callq 62 [] [] [(.int .i64 ex.pick),(.int .i64 ((0 :Nat):Int)),(.int .i64 ((((p.getD (ex.num).toNat Fn.zero).outs.length :Nat):Int) - 1))] rfl rfl cf62 zN (.bool (decide (((0 :Nat):Int) ≤ ex.pick) && decide (ex.pick ≤ ((((p.getD (ex.num).toNat Fn.zero).outs.length :Nat):Int) - 1)))) (fun wq => c_spec_l00In wq _ _ _ hx1.rng.pick oM oM) ?_))))
    refine q_not (!(decide (((0 :Nat):Int) ≤ ex.pick) && decide (ex.pick ≤ ((((p.getD (ex.num).toNat Fn.zero).outs.length :Nat):Int) - 1)))) rfl rfl zN (lw_tv 1 rfl ?_)
    cases hb19 : (!(decide (((0 :Nat):Int) ≤ ex.pick) && decide (ex.pick ≤ ((((p.getD (ex.num).toNat Fn.zero).outs.length :Nat):Int) - 1))))
    ·
     refine lw_tv 1 rfl (q_nilP (hex.isPtr) rfl (zS (e := 51) rfl rfl rfl) (q_fldL (p := ve) 4 fd31_4 rfl (hl1 _ (Chg.of_ext [] hE0.drew.drew)) (zS (e := 51) rfl rfl rfl) (q_load (p := (padd ve 4)) (.inl rfl) ve1 one29 rfl ((hl1 _ (Chg.of_ext [] hE0.drew.drew)).ld (i := 4) z167_1) (zS (e := 51) rfl rfl rfl) (q_len (v := ve1) u29 rfl hx1.rn.isSl (zS (e := 51) rfl rfl rfl) (lw_tv 1 rfl ?_)))))
     refine q_nilP (RN.isPtr (RN.ptr (good_rFn dp) (by decide) Fn.zero hx16 sD)) rfl (zS (e := 51) rfl rfl rfl) (q_fldL (p := eptr ve16 ((ex.num).toNat) 3) 1 fd34_1 rfl (hl17 _ (Chg.of_ext [] hE0.drew.drew)) (zS (e := 51) rfl rfl rfl) (q_load (p := (padd (eptr ve16 ((ex.num).toNat) 3) 1)) (.inl rfl) (.int .i64 ((p.getD ((ex.num).toNat) Fn.zero).params)) one2 rfl ((hl17 _ (Chg.of_ext [] hE0.drew.drew)).ld (i := 1) z167_1) (zS (e := 51) rfl rfl rfl) ?_))
     by_cases hc20 : ((ex.kids.length :Nat):Int) ≠ (p.getD ((ex.num).toNat) Fn.zero).params
     ·
      exact q_neq true rfl rfl (decide_eq_true hc20) (zS (e := 51) rfl rfl rfl) (lw_tvn 1 rfl (c_cond_t rfl (wp_seq (wp_plain _ [0] rfl (lw_tvn 1 rfl (wp_ret (t_ret (t_ret (post_ret [8] rfl (.bool false) rfl ⟨z167_0,hE0.drew.drew⟩)))))))))
     ·
      refine q_neq false rfl rfl (decide_eq_false hc20) (zS (e := 51) rfl rfl rfl) (lw_tvn 1 rfl (c_cond_f rfl (wp_skip (wp_seq (wp_seq (wp_plain _ [0,0,0,2,0] rfl (lw_tv 1 rfl (q_nilP (hex.isPtr) rfl zN (q_fldL (p := ve) 0 fd31_0 rfl (hl1 _ (Chg.of_ext [] hE0.drew.drew)) zN (q_load (p := (padd ve 0)) (.inr rfl) (.int .i64 ex.kind) one2 rfl ((hl1 _ (Chg.of_ext [] hE0.drew.drew)).ld (i := 0) z167_1) zN ?_))))))))))
      by_cases hc21 : ex.kind = ((10 :Nat):Int)
      ·
       refine q_eql true rfl rfl (decide_eq_true hc21) zN (lw_nil (c_cond_t rfl (wp_seq (wp_plain _ [0,0,0,2,0,0] rfl (lw_tv 1 rfl (q_nilP (hex.isPtr) rfl zN (q_fldL (p := ve) 3 fd31_3 rfl (hl1 _ (Chg.of_ext [] hE0.drew.drew)) zN (q_load (p := (padd ve 3)) (.inr rfl) (.int .i64 ex.count) one2 rfl ((hl1 _ (Chg.of_ext [] hE0.drew.drew)).ld (i := 3) z167_1) zN (q_eql (decide (ex.count = ((0 :Nat):Int))) rfl rfl rfl zN (lw_tvn 1 rfl (wp_ret (t_ret (t_ret ?_)))))))))))))
       exact post_ret [8] rfl (.bool (decide (ex.count = ((0 :Nat):Int)))) rfl ⟨z167_0,hE0.drew.drew⟩
      ·
       refine q_eql false rfl rfl (decide_eq_false hc21) zN (lw_nil (c_cond_f rfl (wp_skip (wp_seq (wp_draw _ [0,0,0,1,0,0,0,0,0,1,0,0,0,0,1,0,0,0] mixed (by kernel_rfl) (lw_tv 1 rfl (q_nilP (hex.isPtr) rfl zN (q_fldL (p := ve) 3 fd31_3 rfl (hl1 _ (Chg.of_ext [] hE0.drew.drew.drew)) zN (q_load (p := (padd ve 3)) (.inl rfl) (.int .i64 ex.count) one2 rfl ((hl1 _ (Chg.of_ext [] hE0.drew.drew.drew)).ld (i := 3) z167_1) zN (lw_callq 62 [] [] [(.int .i64 ex.count),(.int .i64 ((0 :Nat):Int)),(.int .i64 ((8 :Nat):Int))] rfl rfl cf62 zN (.bool (decide (((0 :Nat):Int) ≤ ex.count) && decide (ex.count ≤ ((8 :Nat):Int)))) (fun wq => c_spec_l00In wq _ _ _ hx1.rng.count oM oM) (lw_tv 1 rfl ?_)))))))))))
       cases hb23 : (decide (((0 :Nat):Int) ≤ ex.count) && decide (ex.count ≤ ((8 :Nat):Int)))
       ·
        exact lw_tvn 12 rfl (wp_ret (t_ret (post_ret [8] rfl (.bool false) rfl ⟨z167_0,hE0.drew.drew.drew⟩)))
       ·
        refine lw_tv 1 rfl (q_nilP (RN.isPtr (RN.ptr (good_rFn dp) (by decide) Fn.zero hx16 sD)) rfl (zS (e := 78) rfl rfl rfl) (q_fldL (p := eptr ve16 ((ex.num).toNat) 3) 2 fd34_2 rfl (hl17 _ (Chg.of_ext [] hE0.drew.drew.drew)) (zS (e := 78) rfl rfl rfl) (q_load (p := (padd (eptr ve16 ((ex.num).toNat) 3) 2)) (.inl rfl) ve17 one29 rfl ((hl17 _ (Chg.of_ext [] hE0.drew.drew.drew)).ld (i := 2) z167_1) (zS (e := 78) rfl rfl rfl) ?_)))
        refine q_len (v := ve17) u29 rfl hx17.rn.isSl (zS (e := 78) rfl rfl rfl) (lw_tv 1 rfl (q_nilP (RN.isPtr (RN.ptr (good_rFn dp) (by decide) Fn.zero hx16 sD)) rfl (zS (e := 78) rfl rfl rfl) (q_fldL (p := eptr ve16 ((ex.num).toNat) 3) 1 fd34_1 rfl (hl17 _ (Chg.of_ext [] hE0.drew.drew.drew)) (zS (e := 78) rfl rfl rfl) ?_)))
        refine q_load (p := (padd (eptr ve16 ((ex.num).toNat) 3) 1)) (.inl rfl) (.int .i64 ((p.getD ((ex.num).toNat) Fn.zero).params)) one2 rfl ((hl17 _ (Chg.of_ext [] hE0.drew.drew.drew)).ld (i := 1) z167_1) (zS (e := 78) rfl rfl rfl) (q_eql (decide (((((p.getD ((ex.num).toNat) Fn.zero).outs).length :Nat):Int) = (p.getD ((ex.num).toNat) Fn.zero).params)) rfl rfl rfl (zS (e := 78) rfl rfl rfl) (lw_tvn 2 rfl (wp_ret (t_ret ?_))))
        exact post_ret [8] rfl (.bool (decide (((((p.getD ((ex.num).toNat) Fn.zero).outs).length :Nat):Int) = (p.getD ((ex.num).toNat) Fn.zero).params))) rfl ⟨z167_0,hE0.drew.drew.drew⟩
    ·
     exact lw_tvn 11 rfl (c_cond_t rfl (wp_seq (wp_plain _ [0] rfl (lw_tvn 1 rfl (wp_ret (t_ret (t_ret (post_ret [8] rfl (.bool false) rfl ⟨z167_0,hE0.drew.drew⟩))))))))
   ·
    exact c_cond_t (by first | rfl | (show Value.bool _ = _; rw [hb15])) (wp_seq (wp_plain _ [0] rfl (lw_tvn 1 rfl (wp_ret (t_ret (t_ret (post_ret [8] rfl (.bool false) rfl ⟨z167_0,hE0⟩)))))))
  ·
   refine q_eql false rfl rfl (decide_eq_false hc13) (zS (e := 15) rfl rfl rfl) (lw_tvn 1 rfl (c_cond_f rfl (wp_skip (wp_seq (wp_seq (wp_draw _ [0,0,0,1,0,0,0,0,1,0,0,0,0,0,0,1,0,0,0,0,0,0,1,0,0] mixed (by kernel_rfl) (lw_tv 1 rfl (q_nilP (hex.isPtr) rfl zN (q_fldL (p := ve) 0 fd31_0 rfl (hl1 _ (Chg.of_ext [] hE0.drew)) zN (q_load (p := (padd ve 0)) (.inl rfl) (.int .i64 ex.kind) one2 rfl ((hl1 _ (Chg.of_ext [] hE0.drew)).ld (i := 0) z167_1) zN (lw_callq 121 [] [] [(.int .i64 ex.kind)] rfl rfl cf121 zN (.int .i64 (kdN ex.kind)) (fun wq => c_spec_l02Kids wq _ hx1.rng.kind) (lw_tv 1 rfl (q_nilP (hex.isPtr) rfl zN (q_fldL (p := ve) 4 fd31_4 rfl (hl1 _ (Chg.of_ext [] hE0.drew)) zN ?_))))))))))))))
   refine q_load (p := (padd ve 4)) (.inl rfl) ve1 one29 rfl ((hl1 _ (Chg.of_ext [] hE0.drew)).ld (i := 4) z167_1) zN (q_len (v := ve1) u29 rfl hx1.rn.isSl zN ?_)
   by_cases hc25 : kdN ex.kind ≠ ((ex.kids.length :Nat):Int)
   ·
    exact q_neq true rfl rfl (decide_eq_true hc25) zN (lw_tvn 14 rfl (c_cond_t rfl (wp_seq (wp_plain _ [0] rfl (lw_tvn 1 rfl (wp_ret (t_ret (post_ret [8] rfl (.bool false) rfl ⟨z167_0,hE0.drew⟩))))))))
   ·
    refine q_neq false rfl rfl (decide_eq_false hc25) zN (lw_tv 2 rfl (q_nilP (hex.isPtr) rfl (zS (e := 101) rfl rfl rfl) (q_fldL (p := ve) 2 fd31_2 rfl (hl1 _ (Chg.of_ext [] hE0.drew)) (zS (e := 101) rfl rfl rfl) (q_load (p := (padd ve 2)) (.inl rfl) (.int .i64 ex.pick) one2 rfl ((hl1 _ (Chg.of_ext [] hE0.drew)).ld (i := 2) z167_1) (zS (e := 101) rfl rfl rfl) ?_))))
    by_cases hc26 : ex.pick ≠ ((0 :Nat):Int)
    ·
     exact q_neq true rfl rfl (decide_eq_true hc26) (zS (e := 101) rfl rfl rfl) (lw_tvn 8 rfl (c_cond_t rfl (wp_seq (wp_plain _ [0] rfl (lw_tvn 1 rfl (wp_ret (t_ret (post_ret [8] rfl (.bool false) rfl ⟨z167_0,hE0.drew⟩))))))))
    ·
     refine q_neq false rfl rfl (decide_eq_false hc26) (zS (e := 101) rfl rfl rfl) (lw_tv 3 rfl (q_nilP (hex.isPtr) rfl (zS (e := 108) rfl rfl rfl) (q_fldL (p := ve) 3 fd31_3 rfl (hl1 _ (Chg.of_ext [] hE0.drew)) (zS (e := 108) rfl rfl rfl) (q_load (p := (padd ve 3)) (.inl rfl) (.int .i64 ex.count) one2 rfl ((hl1 _ (Chg.of_ext [] hE0.drew)).ld (i := 3) z167_1) (zS (e := 108) rfl rfl rfl) ?_))))
     by_cases hc27 : ex.count ≠ ((0 :Nat):Int)
     ·
      exact q_neq true rfl rfl (decide_eq_true hc27) (zS (e := 108) rfl rfl rfl) (lw_tvn 1 rfl (c_cond_t rfl (wp_seq (wp_plain _ [0] rfl (lw_tvn 1 rfl (wp_ret (t_ret (post_ret [8] rfl (.bool false) rfl ⟨z167_0,hE0.drew⟩))))))))
     ·
      refine q_neq false rfl rfl (decide_eq_false hc27) (zS (e := 108) rfl rfl rfl) (lw_tvn 1 rfl (c_cond_f rfl (wp_skip (wp_seq (wp_seq (wp_plain _ [0,0,0,2] rfl (lw_tv 1 rfl (q_nilP (hex.isPtr) rfl zN (q_fldL (p := ve) 0 fd31_0 rfl (hl1 _ (Chg.of_ext [] hE0.drew)) zN (q_load (p := (padd ve 0)) (.inr rfl) (.int .i64 ex.kind) one2 rfl ((hl1 _ (Chg.of_ext [] hE0.drew)).ld (i := 0) z167_1) zN (lw_nil (wp_block (wp_seq (wp_plain _ [0,0] rfl ?_))))))))))))))
      by_cases hc28 : ex.kind = ((1 :Nat):Int)
      ·
       refine q_eql true rfl rfl (decide_eq_true hc28) zN (lw_tvn 1 rfl (c_cond_t rfl (wp_seq (wp_plain _ [0,0,0,2,0,0] rfl (lw_tv 1 rfl (q_nilP (hex.isPtr) rfl zN (q_fldL (p := ve) 1 fd31_1 rfl (hl1 _ (Chg.of_ext [] hE0.drew)) zN (q_load (p := (padd ve 1)) (.inr rfl) (.int .i64 ex.num) one2 rfl ((hl1 _ (Chg.of_ext [] hE0.drew)).ld (i := 1) z167_1) zN (lw_callq 143 [] [] [(.int .i64 ex.num)] rfl rfl cf143 zN (.bool (isN ex.num)) (fun wq => c_spec_l01Number wq _ hx1.rng.num) (lw_tvn 1 rfl (wp_ret (b_ret (t_ret ?_)))))))))))))
       exact post_ret [8] rfl (.bool (isN ex.num)) rfl ⟨z167_0,hE0.drew⟩
      ·
       refine q_eql false rfl rfl (decide_eq_false hc28) zN (lw_tvn 1 rfl (c_cond_f rfl (wp_seq (wp_plain _ [0,0] rfl ?_))))
       by_cases hc30 : ex.kind = ((2 :Nat):Int)
       ·
        refine q_eql true rfl rfl (decide_eq_true hc30) zN (lw_tvn 1 rfl (c_cond_t rfl (wp_seq (wp_plain _ [0,0,0,2,0,0,0,0] rfl (lw_tv 1 rfl (q_nilP (hex.isPtr) rfl zN (q_fldL (p := ve) 1 fd31_1 rfl (hl1 _ (Chg.of_ext [] hE0.drew)) zN (q_load (p := (padd ve 1)) (.inr rfl) (.int .i64 ex.num) one2 rfl ((hl1 _ (Chg.of_ext [] hE0.drew)).ld (i := 1) z167_1) zN (lw_tv 1 rfl (q_sub (vars - 1) rfl rfl (w64 oM oM) zN (lw_callq 62 [] [] [(.int .i64 ex.num),(.int .i64 ((0 :Nat):Int)),(.int .i64 (vars - 1))] rfl rfl cf62 zN (.bool (decide (((0 :Nat):Int) ≤ ex.num) && decide (ex.num ≤ (vars - 1)))) (fun wq => c_spec_l00In wq _ _ _ hx1.rng.num oM oM) (lw_tvn 1 rfl (wp_ret (b_ret (t_ret ?_)))))))))))))))
        exact post_ret [8] rfl (.bool (decide (((0 :Nat):Int) ≤ ex.num) && decide (ex.num ≤ (vars - 1)))) rfl ⟨z167_0,hE0.drew⟩
       ·
        refine q_eql false rfl rfl (decide_eq_false hc30) zN (lw_tvn 1 rfl (c_cond_f rfl (wp_skip (wp_seq (wp_plain _ [0,0,0,2,0,0] rfl (lw_tv 1 rfl (q_nilP (hex.isPtr) rfl zN (q_fldL (p := ve) 1 fd31_1 rfl (hl1 _ (Chg.of_ext [] hE0.drew)) zN (q_load (p := (padd ve 1)) (.inr rfl) (.int .i64 ex.num) one2 rfl ((hl1 _ (Chg.of_ext [] hE0.drew)).ld (i := 1) z167_1) zN (q_eql (decide (ex.num = ((0 :Nat):Int))) rfl rfl rfl zN (lw_tvn 1 rfl (wp_ret ?_))))))))))))
        exact post_ret [8] rfl (.bool (decide (ex.num = ((0 :Nat):Int)))) rfl ⟨z167_0,hE0.drew⟩
theorem z148_0 {p : Prop} (h : p := by first | exact ret_bool (wf_bad (bn_t (by assumption))) | exact ret_bool (wf_good (bn_f (by assumption)) fun j hj => hall j oM) | exact ret_bool (wf_kid (k := k) oM (by first | (rw [if_pos oM]) | (rw [if_neg oM])) (bn_t (by assumption)))) : p := h
theorem z148_1 {p : Prop} (h : p := by intro j hj; by_cases e9 : j = k; (rw [e9]; first | (rw [if_pos oM]; exact bn_f (by assumption)) | (rw [if_neg oM]; exact bn_f (by assumption))); exact hall j oM) : p := h
theorem c_spec_l02Tree (w : World) (dp : Nat) (vp : Value) (p : List Fn) (dex : Nat) (ve : Value) (ex : Ex) (vars : Int) (funcs : Int) (hp : RN [] (rP (rPr dp)) w.heap vp p) (hex : RN [] (rP (rEx dex)) w.heap ve ex) (_hvars : -9223372036854775808 ≤ vars ∧ vars ≤ 9223372036854775807) (_hfuncs : -9223372036854775808 ≤ funcs ∧ funcs ≤ 9223372036854775807) (hs : 0 ≤ vars ∧ vars + (ex.deep : Int) ≤ 2000000000) (hf : 0 ≤ funcs ∧ funcs ≤ ((p.length :Nat):Int)) :
  Calls Try.prog 148 #[vp,ve,.int .i64 vars,.int .i64 funcs] w (fun e w' => e = .returned (.bool (wf p funcs ex vars)) ∧ Ext w w') := by
 induction dex using Nat.strongRecOn generalizing w dp vp p ve ex vars funcs
 rename_i dex ih
 refine calls_mk [vp,ve,.int .i64 vars,.int .i64 funcs] 49 Try.func148 rfl rfl sM ?_
 have hE0 : Ext w w := Ext.refl w
 have hdk := deep_kids ex
 refine wp_seq (wp_plain _ [0] rfl (lw_tvn 1 rfl (wp_seq (wp_seq (wp_plain _ [0,0,0,0,3,0] rfl (lw_tv 4 rfl (lw_call 167 [] [] [vp,ve,(.int .i64 vars),(.int .i64 funcs)] rfl rfl cf167 zN (c_spec_l02Node _ dp vp (p) dex ve (ex) _ _ (hp.ext (good_rP (good_rPr dp)) hE0) (hex.ext (good_rP (good_rEx dex)) hE0) _hvars _hfuncs oM oM) ?_)))))))
 rintro e1 w1 ⟨rfl,hX1⟩
 refine ⟨_,rfl,hX1,?_⟩
 have hzs1:=hX1.size
 have hE1:=hE0.trans hX1
 refine q_not (!(wfN p funcs vars ex)) rfl rfl zN (lw_nil ?_)
 cases hb2 : (!(wfN p funcs vars ex))
 ·
  refine c_cond_f (by first | rfl | (show Value.bool _ = _; rw [hb2])) (wp_skip (wp_seq (wp_seq (wp_plain _ [0] rfl (lw_tvn 1 rfl (wp_block ?_))))))
  refine c_loop (S := Nat) (fun (k : Nat) => ([(9,(.int .i64 ((k :Nat):Int))),(0,vp),(1,ve),(2,(.int .i64 vars)),(3,(.int .i64 funcs))] : List (Nat × Value))) (fun (k : Nat) (W : World) => Ext w W ∧ k ≤ ex.kids.length ∧ (∀ j,j < k → wf p funcs (ex.kids.getD j Ex.zero) (if ex.kind = 9 ∧ j = 1 then vars + 1 else vars) = true)) (fun (k : Nat) => ex.kids.length - k) 0 ⟨rfl,rfl,rfl,rfl,rfl,trivial⟩ ⟨hE1,sD,(by intro j hj; omega)⟩ ?_
  clear hE0 hX1 hzs1 hE1
  rintro k ρ3 w3 ⟨hE3,hp3_0,hall⟩
  have hzs3 : w.heap.size ≤ w3.heap.size := hE3.size
  refine wp_seq (wp_seq (wp_plain _ [0,0,0,0,2,0,0] rfl (lw_tv 2 rfl (q_nilP (hex.isPtr) rfl zN ?_))))
  obtain ⟨cs4,hr4,hl4⟩ := RN.at (good_rEx _) hex
  obtain ⟨dd4,ve4,hd4,rfl,hx4⟩ := RX.of hr4
  have hln4 := hx4.rn.lenle
  unfold maxLen at hln4
  refine q_fldL (p := ve) 4 fd31_4 rfl (hl4 _ (Chg.of_ext [] hE3)) zN (q_load (p := (padd ve 4)) (.inr rfl) ve4 one29 rfl ((hl4 _ (Chg.of_ext [] hE3)).ld (i := 4) (by simp [exC,fnC])) zN (q_len (v := ve4) u29 rfl hx4.rn.isSl zN ?_))
  by_cases hc5 : ((k :Nat):Int) < ((ex.kids.length :Nat):Int)
  ·
   refine q_lss true rfl rfl (decide_eq_true hc5) zN (lw_nil (c_cond_t rfl (wp_skip (wp_seq (wp_block (wp_seq (wp_plain _ [0,0] rfl ?_)))))))
   have hkd := kd_at (l := ex.kids) (k := k) oM
   refine lw_tvn 2 rfl (wp_seq (wp_seq (wp_plain _ [0,0,0,2,0,0,0,0,0] rfl (lw_tv 1 rfl (q_nilP (hex.isPtr) rfl zN (q_fldL (p := ve) 0 fd31_0 rfl (hl4 _ (Chg.of_ext [] hE3)) zN (q_load (p := (padd ve 0)) (.inr rfl) (.int .i64 ex.kind) one2 rfl ((hl4 _ (Chg.of_ext [] hE3)).ld (i := 0) (by simp [exC,fnC])) zN ?_)))))))
   by_cases hc6 : ex.kind = ((9 :Nat):Int)
   ·
    refine q_eql true rfl rfl (decide_eq_true hc6) zN (lw_tv 2 rfl ?_)
    by_cases hc7 : ((k :Nat):Int) = ((1 :Nat):Int)
    ·
     refine q_eql true rfl rfl (decide_eq_true hc7) (zS (e := 32) rfl rfl rfl) (lw_tvn 1 rfl (c_cond_t rfl (wp_plain _ [0,0,0] rfl (lw_tv 1 rfl (q_add (vars + 1) rfl rfl (w64 oM oM) zN (lw_tvn 1 rfl (wp_seq (wp_plain _ [0,0,0,0,2,0,0,0,0,3,0] rfl (lw_tv 2 rfl (q_nilP (hex.isPtr) rfl zN (q_fldL (p := ve) 4 fd31_4 rfl (hl4 _ (Chg.of_ext [] hE3)) zN (q_load (p := (padd ve 4)) (.inr rfl) ve4 one29 rfl ((hl4 _ (Chg.of_ext [] hE3)).ld (i := 4) (by simp [exC,fnC])) zN (lw_tv 1 rfl ?_)))))))))))))
     refine q_idx (v := ve4) k u29 tiS31 rfl rfl hx4.rn.isSl rfl sD zN (lw_tv 2 rfl ?_)
     refine lw_call 148 [] [] [vp,(eptr ve4 k 5),(.int .i64 (vars + 1)),(.int .i64 funcs)] rfl rfl cf148 zN (ih dd4 oM _ dp vp (p) (eptr ve4 k 5) (ex.kids.getD k Ex.zero) _ _ (hp.ext (good_rP (good_rPr dp)) hE3) (RN.ptr (good_rEx dd4) (by decide) Ex.zero (hx4.rn.ext (good_rdS (good_rEx dd4)) hE3) sD) oM _hfuncs oM oM) ?_
     rintro e8 w8 ⟨rfl,hX8⟩
     refine ⟨_,rfl,hX8,?_⟩
     have hzs8:=hX8.size
     have hE8:=hE3.trans hX8
     refine q_not (!(wf p funcs (ex.kids.getD k Ex.zero) (vars + 1))) rfl rfl zN (lw_nil ?_)
     cases hb9 : (!(wf p funcs (ex.kids.getD k Ex.zero) (vars + 1)))
     ·
      refine c_cond_f (by first | rfl | (show Value.bool _ = _; rw [hb9])) (wp_skip (wp_plain _ [0,0,0] rfl (lw_tv 1 rfl (q_add ((k + 1 :Nat):Int) rfl rfl (w64n oM sD) zN (lw_tvn 1 rfl ?_)))))
      exact ⟨(k + 1),_,rfl,⟨rfl,rfl,rfl,rfl,rfl,trivial⟩,⟨hE8,sD,z148_1⟩,by first | omega | (dsimp only; omega)⟩
     ·
      exact c_cond_t (by first | rfl | (show Value.bool _ = _; rw [hb9])) (wp_seq (wp_plain _ [0] rfl (lw_tvn 1 rfl (wp_ret (b_ret (t_ret (t_ret (b_ret (t_ret (post_ret [8] rfl (.bool false) rfl ⟨z148_0,hE8⟩))))))))))
    ·
     refine q_eql false rfl rfl (decide_eq_false hc7) (zS (e := 32) rfl rfl rfl) (lw_tvn 1 rfl (c_cond_f rfl (wp_skip (wp_seq (wp_plain _ [0,0,0,0,2,0,0,0,0,3,0] rfl (lw_tv 2 rfl (q_nilP (hex.isPtr) rfl zN (q_fldL (p := ve) 4 fd31_4 rfl (hl4 _ (Chg.of_ext [] hE3)) zN (q_load (p := (padd ve 4)) (.inr rfl) ve4 one29 rfl ((hl4 _ (Chg.of_ext [] hE3)).ld (i := 4) (by simp [exC,fnC])) zN (lw_tv 1 rfl ?_))))))))))
     refine q_idx (v := ve4) k u29 tiS31 rfl rfl hx4.rn.isSl rfl sD zN (lw_tv 2 rfl ?_)
     refine lw_call 148 [] [] [vp,(eptr ve4 k 5),(.int .i64 vars),(.int .i64 funcs)] rfl rfl cf148 zN (ih dd4 oM _ dp vp (p) (eptr ve4 k 5) (ex.kids.getD k Ex.zero) _ _ (hp.ext (good_rP (good_rPr dp)) hE3) (RN.ptr (good_rEx dd4) (by decide) Ex.zero (hx4.rn.ext (good_rdS (good_rEx dd4)) hE3) sD) _hvars _hfuncs oM oM) ?_
     rintro e10 w10 ⟨rfl,hX10⟩
     refine ⟨_,rfl,hX10,?_⟩
     have hzs10:=hX10.size
     have hE10:=hE3.trans hX10
     refine q_not (!(wf p funcs (ex.kids.getD k Ex.zero) vars)) rfl rfl zN (lw_nil ?_)
     cases hb11 : (!(wf p funcs (ex.kids.getD k Ex.zero) vars))
     ·
      refine c_cond_f (by first | rfl | (show Value.bool _ = _; rw [hb11])) (wp_skip (wp_plain _ [0,0,0] rfl (lw_tv 1 rfl (q_add ((k + 1 :Nat):Int) rfl rfl (w64n oM sD) zN (lw_tvn 1 rfl ?_)))))
      exact ⟨(k + 1),_,rfl,⟨rfl,rfl,rfl,rfl,rfl,trivial⟩,⟨hE10,sD,z148_1⟩,by first | omega | (dsimp only; omega)⟩
     ·
      exact c_cond_t (by first | rfl | (show Value.bool _ = _; rw [hb11])) (wp_seq (wp_plain _ [0] rfl (lw_tvn 1 rfl (wp_ret (b_ret (t_ret (t_ret (b_ret (t_ret (post_ret [8] rfl (.bool false) rfl ⟨z148_0,hE10⟩))))))))))
   ·
    refine q_eql false rfl rfl (decide_eq_false hc6) zN (lw_tvn 4 rfl (c_cond_f rfl (wp_skip (wp_seq (wp_plain _ [0,0,0,0,2,0,0,0,0,3,0] rfl (lw_tv 2 rfl (q_nilP (hex.isPtr) rfl zN (q_fldL (p := ve) 4 fd31_4 rfl (hl4 _ (Chg.of_ext [] hE3)) zN (q_load (p := (padd ve 4)) (.inr rfl) ve4 one29 rfl ((hl4 _ (Chg.of_ext [] hE3)).ld (i := 4) (by simp [exC,fnC])) zN (lw_tv 1 rfl ?_))))))))))
    refine q_idx (v := ve4) k u29 tiS31 rfl rfl hx4.rn.isSl rfl sD zN (lw_tv 2 rfl ?_)
    refine lw_call 148 [] [] [vp,(eptr ve4 k 5),(.int .i64 vars),(.int .i64 funcs)] rfl rfl cf148 zN (ih dd4 oM _ dp vp (p) (eptr ve4 k 5) (ex.kids.getD k Ex.zero) _ _ (hp.ext (good_rP (good_rPr dp)) hE3) (RN.ptr (good_rEx dd4) (by decide) Ex.zero (hx4.rn.ext (good_rdS (good_rEx dd4)) hE3) sD) _hvars _hfuncs oM oM) ?_
    rintro e12 w12 ⟨rfl,hX12⟩
    refine ⟨_,rfl,hX12,?_⟩
    have hzs12:=hX12.size
    have hE12:=hE3.trans hX12
    refine q_not (!(wf p funcs (ex.kids.getD k Ex.zero) vars)) rfl rfl zN (lw_nil ?_)
    cases hb13 : (!(wf p funcs (ex.kids.getD k Ex.zero) vars))
    ·
     refine c_cond_f (by first | rfl | (show Value.bool _ = _; rw [hb13])) (wp_skip (wp_plain _ [0,0,0] rfl (lw_tv 1 rfl (q_add ((k + 1 :Nat):Int) rfl rfl (w64n oM sD) zN (lw_tvn 1 rfl ?_)))))
     exact ⟨(k + 1),_,rfl,⟨rfl,rfl,rfl,rfl,rfl,trivial⟩,⟨hE12,sD,z148_1⟩,by first | omega | (dsimp only; omega)⟩
    ·
     exact c_cond_t (by first | rfl | (show Value.bool _ = _; rw [hb13])) (wp_seq (wp_plain _ [0] rfl (lw_tvn 1 rfl (wp_ret (b_ret (t_ret (t_ret (b_ret (t_ret (post_ret [8] rfl (.bool false) rfl ⟨z148_0,hE12⟩))))))))))
  ·
   exact q_lss false rfl rfl (decide_eq_false hc5) zN (lw_nil (c_cond_f rfl (wp_exit (t_exit (t_exit (c_exit_here (wp_seq (wp_plain _ [0] rfl (lw_tvn 1 rfl (wp_ret (post_ret [8] rfl (.bool true) rfl ⟨z148_0,hE3⟩)))))))))))
 ·
  exact c_cond_t (by first | rfl | (show Value.bool _ = _; rw [hb2])) (wp_seq (wp_plain _ [0] rfl (lw_tvn 1 rfl (wp_ret (t_ret (post_ret [8] rfl (.bool false) rfl ⟨z148_0,hE1⟩))))))
theorem c_spec_l02Vars (w : World) (vars : Int) (_hvars : -9223372036854775808 ≤ vars ∧ vars ≤ 9223372036854775807)  :
  Calls Try.prog 146 #[.int .i64 vars] w (fun e w' => e = .returned (.bool (inB vars 0 412)) ∧ w' = w) := by
 refine calls_mk [.int .i64 vars] 5 Try.func146 rfl rfl sM ?_
 have hE0 : w = w := rfl
 exact wp_seq (wp_plain _ [0] rfl (lw_tvn 1 rfl (wp_seq (wp_plain _ [0,0,0] rfl (lw_tv 1 rfl (lw_callq 62 [] [] [(.int .i64 vars),(.int .i64 ((0 :Nat):Int)),(.int .i64 ((412 :Nat):Int))] rfl rfl cf62 zN (.bool (decide (((0 :Nat):Int) ≤ vars) && decide (vars ≤ ((412 :Nat):Int)))) (fun wq => c_spec_l00In wq _ _ _ _hvars oM oM) (lw_tvn 1 rfl (wp_ret (post_ret [2] rfl (.bool (decide (((0 :Nat):Int) ≤ vars) && decide (vars ≤ ((412 :Nat):Int)))) rfl ⟨rfl,hE0⟩)))))))))
theorem z136_0 {p : Prop} (h : p := by first | exact ret_bool (exB_w (by assumption)) | exact ret_bool (exB_t ⟨inB_iff.1 (by assumption), inB_e (by assumption), by omega, by omega⟩) | exact ret_bool ((by assumption : wf p funcs ex vars = true).symm.trans (exB_t ⟨inB_iff.1 (by assumption), inB_e (by assumption), by omega, by omega⟩)) | exact ret_bool (exB_f fun hh => inB_f (by assumption) hh.1) | exact ret_bool (exB_f fun hh => inB_d (by assumption) hh.2.1) | exact ret_bool (exB_f oM)) : p := h
theorem c_spec_l02Expr (w : World) (dp : Nat) (vp : Value) (p : List Fn) (dex : Nat) (ve : Value) (ex : Ex) (vars : Int) (funcs : Int) (hp : RN [] (rP (rPr dp)) w.heap vp p) (hex : RN [] (rP (rEx dex)) w.heap ve ex) (_hvars : -9223372036854775808 ≤ vars ∧ vars ≤ 9223372036854775807) (_hfuncs : -9223372036854775808 ≤ funcs ∧ funcs ≤ 9223372036854775807) (hs : ex.size ≤ 1000000000) :
  Calls Try.prog 136 #[vp,ve,.int .i64 vars,.int .i64 funcs] w (fun e w' => e = .returned (.bool (exB p ex vars funcs)) ∧ Ext w w') := by
 refine calls_mk [vp,ve,.int .i64 vars,.int .i64 funcs] 37 Try.func136 rfl rfl sM ?_
 have hE0 : Ext w w := Ext.refl w
 have hlp := lftE_pos (e := ex) (x := ((400 :Nat):Int)) oM
 refine wp_seq (wp_plain _ [0] rfl (lw_tvn 1 rfl (wp_seq (wp_plain _ [0,0,0,0,0,0,0,2,0,0,0,0,0,3,0,0,0,0,3,0,0,0,0,0,0,0,3,0,0] rfl (lw_tv 1 rfl (lw_callq 146 [] [] [(.int .i64 vars)] rfl rfl cf146 zN (.bool (inB vars 0 412)) (fun wq => c_spec_l02Vars wq _ _hvars) (lw_tv 1 rfl ?_)))))))
 cases hb2 : (inB vars 0 412)
 ·
  exact lw_tvn 26 rfl (wp_ret (post_ret [8] rfl (.bool false) rfl ⟨z136_0,hE0⟩))
 ·
  refine lw_tv 2 rfl (q_nilP (hp.isPtr) rfl (zS (e := 11) rfl rfl rfl) ?_)
  obtain ⟨cs3,hr3,hl3⟩ := RN.at (good_rPr _) hp
  obtain ⟨ve3,rfl,hx3⟩ := RPr.of hr3
  have hln3 := hx3.lenle
  unfold maxLen at hln3
  refine q_fldL (p := vp) 0 fd37_0 rfl (hl3 _ (Chg.of_ext [] hE0)) (zS (e := 11) rfl rfl rfl) (q_load (p := (padd vp 0)) (.inr rfl) ve3 one35 rfl ((hl3 _ (Chg.of_ext [] hE0)).ld (i := 0) (by simp [exC,fnC])) (zS (e := 11) rfl rfl rfl) (q_len (v := ve3) u35 rfl hx3.isSl (zS (e := 11) rfl rfl rfl) (lw_callq 62 [] [] [(.int .i64 funcs),(.int .i64 ((0 :Nat):Int)),(.int .i64 ((p.length :Nat):Int))] rfl rfl cf62 (zS (e := 11) rfl rfl rfl) (.bool (decide (((0 :Nat):Int) ≤ funcs) && decide (funcs ≤ ((p.length :Nat):Int)))) (fun wq => c_spec_l00In wq _ _ _ _hfuncs oM oM) (lw_tv 2 rfl ?_))))
  cases hb5 : (decide (((0 :Nat):Int) ≤ funcs) && decide (funcs ≤ ((p.length :Nat):Int)))
  ·
   exact lw_tvn 17 rfl (wp_ret (post_ret [8] rfl (.bool false) rfl ⟨z136_0,hE0⟩))
  ·
   refine lw_tv 1 rfl (lw_call 135 [] [] [ve,(.int .i64 ((400 :Nat):Int))] rfl rfl cf135 (zS (e := 20) rfl rfl rfl) (c_spec_l02Left _ dex ve (ex) _ (hex.ext (good_rP (good_rEx dex)) hE0) oM oM oM) ?_)
   rintro e6 w6 ⟨rfl,hX6⟩
   refine ⟨_,rfl,hX6,?_⟩
   have hzs6:=hX6.size
   have hE6:=hE0.trans hX6
   by_cases hc7 : ((0 :Nat):Int) ≤ lftE ex ((400 :Nat):Int)
   ·
    refine q_geq true rfl rfl (decide_eq_true hc7) (zS (e := 20) rfl rfl rfl) (lw_tv 3 rfl (lw_call 147 [] [] [ve] rfl rfl cf147 (zS (e := 25) rfl rfl rfl) (c_spec_l02Depth _ dex ve (ex) (hex.ext (good_rP (good_rEx dex)) hE6) oM) ?_))
    rintro e8 w8 ⟨rfl,hX8⟩
    refine ⟨_,rfl,hX8,?_⟩
    have hzs8:=hX8.size
    have hE8:=hE6.trans hX8
    by_cases hc9 : ((ex.deep :Nat):Int) ≤ ((60 :Nat):Int)
    ·
     refine q_leq true rfl rfl (decide_eq_true hc9) (zS (e := 25) rfl rfl rfl) (lw_tv 6 rfl (lw_call 148 [] [] [vp,ve,(.int .i64 vars),(.int .i64 funcs)] rfl rfl cf148 (zS (e := 30) rfl rfl rfl) (c_spec_l02Tree _ dp vp (p) dex ve (ex) _ _ (hp.ext (good_rP (good_rPr dp)) hE8) (hex.ext (good_rP (good_rEx dex)) hE8) _hvars _hfuncs (by have h1 := inB_iff.1 (by assumption : inB vars 0 412 = true); omega) (by have h2 := inB_e (by assumption : (decide (((0 :Nat):Int) ≤ funcs) && decide (funcs ≤ ((p.length :Nat):Int))) = true); omega)) ?_))
     rintro e10 w10 ⟨rfl,hX10⟩
     refine ⟨_,rfl,hX10,?_⟩
     have hzs10:=hX10.size
     have hE10:=hE8.trans hX10
     exact lw_tvn 2 rfl (wp_ret (post_ret [8] rfl (.bool (wf p funcs ex vars)) rfl ⟨z136_0,hE10⟩))
    ·
     exact q_leq false rfl rfl (decide_eq_false hc9) (zS (e := 25) rfl rfl rfl) (lw_tvn 9 rfl (wp_ret (post_ret [8] rfl (.bool false) rfl ⟨z136_0,hE8⟩)))
   ·
    exact q_geq false rfl rfl (decide_eq_false hc7) (zS (e := 20) rfl rfl rfl) (lw_tvn 14 rfl (wp_ret (post_ret [8] rfl (.bool false) rfl ⟨z136_0,hE6⟩)))
theorem nm_len {s : ByteArray} (h : ¬ (1 ≤ s.size ∧ s.size ≤ 12)) : false = nmB s := by
  cases hh : nmB s with
  | false => rfl
  | true => unfold nmB at hh; simp only [Bool.and_eq_true, decide_eq_true_eq] at hh; exact absurd hh.1 h
theorem z134_0 {p : Prop} (h : p := by first | exact ret_bool (nm_len (fun hh => inB_d (bn_t (by assumption)) ⟨by omega, by omega⟩)) | exact ret_bool (nm_bad (k := 0) oM oM) | exact ret_bool (nm_bad (k := k) oM oM) | exact ret_bool (nm_end hq oM (by rw [decide_eq_true (show 1 ≤ s.size by omega), decide_eq_true (show s.size ≤ 12 by omega)]; rfl))) : p := h
theorem z134_1 {p : Prop} (h : p := by exact allR_succ hq (ch_ok (by (by_cases h0 : k = 0; (rw [h0]; left; omega); omega)))) : p := h
theorem c_spec_IsName (w : World) (s : ByteArray)  (hl : s.size ≤ 1000000000) :
  Calls Try.prog 134 #[.string s] w (fun e w' => e = .returned (.bool (nmB s)) ∧ w' = w) := by
 refine calls_mk [.string s] 46 Try.func134 rfl rfl sM ?_
 have hE0 : w = w := rfl
 refine wp_seq (wp_plain _ [0] rfl (lw_tvn 1 rfl (wp_seq (wp_seq (wp_plain _ [0,0,0,0,0,0,0,0,0,0,0,0,0,0] rfl (lw_tv 1 rfl (q_lens (s := s) u9 rfl zN (lw_callq 62 [] [] [(.int .i64 ((s.size :Nat):Int)),(.int .i64 ((1 :Nat):Int)),(.int .i64 ((12 :Nat):Int))] rfl rfl cf62 zN (.bool (decide (((1 :Nat):Int) ≤ ((s.size :Nat):Int)) && decide (((s.size :Nat):Int) ≤ ((12 :Nat):Int)))) (fun wq => c_spec_l00In wq _ _ _ oM oM oM) (q_not (!(decide (((1 :Nat):Int) ≤ ((s.size :Nat):Int)) && decide (((s.size :Nat):Int) ≤ ((12 :Nat):Int)))) rfl rfl zN (lw_tv 1 rfl ?_))))))))))
 cases hb2 : (!(decide (((1 :Nat):Int) ≤ ((s.size :Nat):Int)) && decide (((s.size :Nat):Int) ≤ ((12 :Nat):Int))))
 ·
  refine lw_tv 1 rfl ?_
  have hsz := inB_e (bn_f (by assumption) : (decide (((1 :Nat):Int) ≤ ((s.size :Nat):Int)) && decide (((s.size :Nat):Int) ≤ ((12 :Nat):Int))) = true)
  refine q_index (s := s) 0 u9 rfl rfl rfl sD (zS (e := 8) rfl rfl rfl) ?_
  by_cases hc3 : ((sAt s 0 :Nat):Int) < 97
  ·
   exact q_lss true rfl rfl (decide_eq_true hc3) (zS (e := 8) rfl rfl rfl) (lw_tvn 6 rfl (c_cond_t rfl (wp_seq (wp_plain _ [0] rfl (lw_tvn 1 rfl (wp_ret (t_ret (post_ret [2] rfl (.bool false) rfl ⟨z134_0,hE0⟩))))))))
  ·
   refine q_lss false rfl rfl (decide_eq_false hc3) (zS (e := 8) rfl rfl rfl) (lw_tv 3 rfl (q_index (s := s) 0 u9 rfl rfl rfl sD (zS (e := 13) rfl rfl rfl) ?_))
   by_cases hc4 : 122 < ((sAt s 0 :Nat):Int)
   ·
    exact q_gtr true rfl rfl (decide_eq_true hc4) (zS (e := 13) rfl rfl rfl) (lw_tvn 1 rfl (c_cond_t rfl (wp_seq (wp_plain _ [0] rfl (lw_tvn 1 rfl (wp_ret (t_ret (post_ret [2] rfl (.bool false) rfl ⟨z134_0,hE0⟩))))))))
   ·
    refine q_gtr false rfl rfl (decide_eq_false hc4) (zS (e := 13) rfl rfl rfl) (lw_tvn 1 rfl (c_cond_f rfl (wp_skip (wp_seq (wp_seq (wp_plain _ [0] rfl (lw_tvn 1 rfl (wp_block (c_loop (S := Nat) (fun (k : Nat) => ([(3,(.int .i64 ((k :Nat):Int))),(0,(.string s))] : List (Nat × Value))) (fun (k : Nat) (W : World) => W = w ∧ k ≤ s.size ∧ (List.range k).all (chB s) = true) (fun (k : Nat) => s.size - k) 0 ⟨rfl,rfl,trivial⟩ ⟨hE0,sD,(by rfl)⟩ ?_)))))))))
    clear hE0
    rintro k ρ5 w5 ⟨hE5,hp5_0,hq⟩
    refine wp_seq (wp_seq (wp_plain _ [0,0,0,0] rfl (lw_tv 2 rfl (q_lens (s := s) u9 rfl zN ?_))))
    by_cases hc6 : ((k :Nat):Int) < ((s.size :Nat):Int)
    ·
     refine q_lss true rfl rfl (decide_eq_true hc6) zN (lw_nil (c_cond_t rfl (wp_skip (wp_seq (wp_block (wp_seq (wp_plain _ [0,0,0,0,0,0,0,0,0,0,0,0,0,0,0,0,0,0,0,0,0,0] rfl (lw_tv 2 rfl (q_index (s := s) k u9 rfl rfl rfl sD zN ?_)))))))))
     by_cases hc7 : ((sAt s k :Nat):Int) < 97
     ·
      refine q_lss true rfl rfl (decide_eq_true hc7) zN (lw_tv 9 rfl (q_index (s := s) k u9 rfl rfl rfl sD (zS (e := 34) rfl rfl rfl) ?_))
      by_cases hc8 : ((sAt s k :Nat):Int) < 48
      ·
       exact q_lss true rfl rfl (decide_eq_true hc8) (zS (e := 34) rfl rfl rfl) (lw_tvn 7 rfl (c_cond_t rfl (wp_seq (wp_plain _ [0] rfl (lw_tvn 1 rfl (wp_ret (b_ret (t_ret (t_ret (b_ret (t_ret (post_ret [2] rfl (.bool false) rfl ⟨z134_0,hE5⟩))))))))))))
      ·
       refine q_lss false rfl rfl (decide_eq_false hc8) (zS (e := 34) rfl rfl rfl) (lw_tv 3 rfl (q_index (s := s) k u9 rfl rfl rfl sD (zS (e := 39) rfl rfl rfl) ?_))
       by_cases hc9 : 57 < ((sAt s k :Nat):Int)
       ·
        exact q_gtr true rfl rfl (decide_eq_true hc9) (zS (e := 39) rfl rfl rfl) (lw_tvn 2 rfl (c_cond_t rfl (wp_seq (wp_plain _ [0] rfl (lw_tvn 1 rfl (wp_ret (b_ret (t_ret (t_ret (b_ret (t_ret (post_ret [2] rfl (.bool false) rfl ⟨z134_0,hE5⟩))))))))))))
       ·
        refine q_gtr false rfl rfl (decide_eq_false hc9) (zS (e := 39) rfl rfl rfl) (lw_tvn 2 rfl (c_cond_f rfl (wp_skip (wp_plain _ [0,0,0] rfl (lw_tv 1 rfl (q_add ((k + 1 :Nat):Int) rfl rfl (w64n oM sD) zN (lw_tvn 1 rfl ?_)))))))
        exact ⟨(k + 1),_,rfl,⟨rfl,rfl,trivial⟩,⟨hE5,sD,z134_1⟩,by first | omega | (dsimp only; omega)⟩
     ·
      refine q_lss false rfl rfl (decide_eq_false hc7) zN (lw_tv 3 rfl (q_index (s := s) k u9 rfl rfl rfl sD (zS (e := 28) rfl rfl rfl) ?_))
      by_cases hc10 : 122 < ((sAt s k :Nat):Int)
      ·
       refine q_gtr true rfl rfl (decide_eq_true hc10) (zS (e := 28) rfl rfl rfl) (lw_tv 4 rfl (q_index (s := s) k u9 rfl rfl rfl sD (zS (e := 34) rfl rfl rfl) ?_))
       by_cases hc11 : ((sAt s k :Nat):Int) < 48
       ·
        exact q_lss true rfl rfl (decide_eq_true hc11) (zS (e := 34) rfl rfl rfl) (lw_tvn 7 rfl (c_cond_t rfl (wp_seq (wp_plain _ [0] rfl (lw_tvn 1 rfl (wp_ret (b_ret (t_ret (t_ret (b_ret (t_ret (post_ret [2] rfl (.bool false) rfl ⟨z134_0,hE5⟩))))))))))))
       ·
        refine q_lss false rfl rfl (decide_eq_false hc11) (zS (e := 34) rfl rfl rfl) (lw_tv 3 rfl (q_index (s := s) k u9 rfl rfl rfl sD (zS (e := 39) rfl rfl rfl) ?_))
        by_cases hc12 : 57 < ((sAt s k :Nat):Int)
        ·
         exact q_gtr true rfl rfl (decide_eq_true hc12) (zS (e := 39) rfl rfl rfl) (lw_tvn 2 rfl (c_cond_t rfl (wp_seq (wp_plain _ [0] rfl (lw_tvn 1 rfl (wp_ret (b_ret (t_ret (t_ret (b_ret (t_ret (post_ret [2] rfl (.bool false) rfl ⟨z134_0,hE5⟩))))))))))))
        ·
         refine q_gtr false rfl rfl (decide_eq_false hc12) (zS (e := 39) rfl rfl rfl) (lw_tvn 2 rfl (c_cond_f rfl (wp_skip (wp_plain _ [0,0,0] rfl (lw_tv 1 rfl (q_add ((k + 1 :Nat):Int) rfl rfl (w64n oM sD) zN (lw_tvn 1 rfl ?_)))))))
         exact ⟨(k + 1),_,rfl,⟨rfl,rfl,trivial⟩,⟨hE5,sD,z134_1⟩,by first | omega | (dsimp only; omega)⟩
      ·
       refine q_gtr false rfl rfl (decide_eq_false hc10) (zS (e := 28) rfl rfl rfl) (lw_tvn 13 rfl (c_cond_f rfl (wp_skip (wp_plain _ [0,0,0] rfl (lw_tv 1 rfl (q_add ((k + 1 :Nat):Int) rfl rfl (w64n oM sD) zN (lw_tvn 1 rfl ?_)))))))
       exact ⟨(k + 1),_,rfl,⟨rfl,rfl,trivial⟩,⟨hE5,sD,z134_1⟩,by first | omega | (dsimp only; omega)⟩
    ·
     exact q_lss false rfl rfl (decide_eq_false hc6) zN (lw_nil (c_cond_f rfl (wp_exit (t_exit (t_exit (c_exit_here (wp_seq (wp_plain _ [0] rfl (lw_tvn 1 rfl (wp_ret (post_ret [2] rfl (.bool true) rfl ⟨z134_0,hE5⟩)))))))))))
 ·
  exact lw_tvn 9 rfl (c_cond_t rfl (wp_seq (wp_plain _ [0] rfl (lw_tvn 1 rfl (wp_ret (t_ret (post_ret [2] rfl (.bool false) rfl ⟨z134_0,hE0⟩)))))))
end Go.Proofs.Ytnofbmdpabcjaaa
namespace Go.Proofs.Ytnofbmdpabcjaaa
open Go Go.RowKit
set_option linter.unusedVariables false
set_option linter.unusedSimpArgs false
set_option maxHeartbeats 4000000
set_option maxRecDepth 100000
attribute [local irreducible] LW
theorem any_step {α : Type} {l : List α} {f : α → Bool} {k : Nat} (d : α) (hk : k < l.length) (h : (l.take k).any f = false) (h2 : f (l.getD k d) = false) : (l.take (k + 1)).any f = false := by
  rw [List.take_succ_eq_append_getElem hk, List.any_append, h]
  have : l.getD k d = l[k] := by simp [hk]
  rw [this] at h2
  simp [h2]
theorem any_hit {α : Type} {l : List α} {f : α → Bool} {k n : Nat} (d : α) (hk : k < n) (hn : n ≤ l.length) (h : f (l.getD k d) = true) : (l.take n).any f = true := by
  rw [List.any_eq_true]
  have hkl : k < l.length := by omega
  have e : l.getD k d = l[k] := by simp [hkl]
  refine ⟨l[k], ?_, by rw [← e]; exact h⟩
  rw [List.mem_take_iff_getElem]
  exact ⟨k, by omega, rfl⟩
theorem left_ok {p : List Fn} {a j : Nat} {x : Int} (hx : x = lfts ((p.getD a Fn.zero).outs.take j) ((400 : Nat) : Int)) (h : 0 ≤ x) (hj : (p.getD a Fn.zero).outs.length ≤ j) : Ex.sizes (p.getD a Fn.zero).outs ≤ 400 := by
  rw [List.take_of_length_le hj] at hx
  rcases lfts_spec (p.getD a Fn.zero).outs ((400 : Nat) : Int) (Int.natCast_nonneg _) with h2 | h2
  · have := h2.2; omega
  · have := h2.1; omega
theorem left_neg {p : List Fn} {a j : Nat} (h : lfts ((p.getD a Fn.zero).outs.take j) ((400 : Nat) : Int) < 0) : fnB p a = false := fn_6 (by
  have h1 := lfts_stop h
  rcases lfts_spec (p.getD a Fn.zero).outs ((400 : Nat) : Int) (Int.natCast_nonneg _) with h2 | h2
  · have := h2.1; have := h2.2; omega
  · have := h2.2; omega)
theorem z105_0 {p : Prop} (h : p := by first | exact ret_bool (fn_1 (bn_t (by assumption))).symm | exact ret_bool (fn_3 (bn_t (by assumption))).symm | exact ret_bool (fn_4 (bn_t (by assumption))).symm | exact ret_bool (fn_2 (any_hit (k := k) Fn.zero oM oM (by assumption))).symm | exact ret_bool (left_neg (j := j + 1) (by rw [hnx, ← hx]; omega)).symm | exact ret_bool (fn_5 (j := j) oM (bn_t (by assumption))).symm | exact ret_bool (fn_ok (bn_f (by assumption)) hqa (bn_f (by assumption)) (bn_f (by assumption)) hqe oM (left_ok hx oM oM)).symm) : p := h
theorem z105_1 {p : Prop} (h : p := by simp [exC, fnC]) : p := h
theorem c_spec_l02Func (w : World) (dp : Nat) (vp : Value) (p : List Fn) (a : Nat) (hp : RN [] (rP (rPr dp)) w.heap vp p) (ha : a < p.length) (hpl : p.length ≤ 1000000) (hz : SzP p) :
  Calls Try.prog 105 #[vp,.int .i64 ((a :Nat):Int)] w (fun e w' => e = .returned (.bool (fnB p a)) ∧ Ext w w') := by
 refine calls_mk [vp,.int .i64 ((a :Nat):Int)] 91 Try.func105 rfl rfl sM ?_
 have hE0 : Ext w w := Ext.refl w
 have hza := hz a ha
 refine wp_seq (wp_plain _ [0] rfl (lw_tvn 1 rfl (wp_seq (wp_plain _ [0,0,0,2,0,0,0] rfl (lw_tv 1 rfl (q_nilP (hp.isPtr) rfl zN ?_))))))
 obtain ⟨cs1,hr1,hl1⟩ := RN.at (good_rPr _) hp
 obtain ⟨ve1,rfl,hx1⟩ := RPr.of hr1
 have hln1 := hx1.lenle
 unfold maxLen at hln1
 refine q_fldL (p := vp) 0 fd37_0 rfl (hl1 _ (Chg.of_ext [] hE0)) zN (q_load (p := (padd vp 0)) (.inr rfl) ve1 one35 rfl ((hl1 _ (Chg.of_ext [] hE0)).ld (i := 0) z105_1) zN (lw_tv 1 rfl (q_idx (v := ve1) a u35 tiS34 rfl rfl hx1.isSl rfl sD zN (lw_tvn 1 rfl (wp_seq (wp_seq (wp_plain _ [0,0,0,2,0,0,0,0,0,0,2,0,0,0,0,0,0,0,2,0,0,0,0] rfl (lw_tv 1 rfl ?_))))))))
 refine q_nilP (RN.isPtr (RN.ptr (good_rFn dp) (by decide) Fn.zero hx1 sD)) rfl zN ?_
 obtain ⟨cs2,hr2,hl2⟩ := hx1.get (good_rFn dp) Fn.zero (k := a) sD
 obtain ⟨ve2,rfl,hx2⟩ := RF.of hr2
 have hln2 := hx2.rn.lenle
 unfold maxLen at hln2
 refine q_fldL (p := eptr ve1 a 3) 0 fd34_0 rfl (hl2 _ (Chg.of_ext [] hE0)) zN (q_load (p := (padd (eptr ve1 a 3) 0)) (.inr rfl) (.string ((p.getD a Fn.zero).name)) one9 rfl ((hl2 _ (Chg.of_ext [] hE0)).ld (i := 0) z105_1) zN (lw_callq 134 [] [] [(.string ((p.getD a Fn.zero).name))] rfl rfl cf134 zN (.bool (nmB ((p.getD a Fn.zero).name))) (fun wq => c_spec_IsName wq ((p.getD a Fn.zero).name) oM) (q_not (!(nmB ((p.getD a Fn.zero).name))) rfl rfl zN (lw_tv 1 rfl ?_))))
 cases hb4 : (!(nmB ((p.getD a Fn.zero).name)))
 ·
  refine lw_tv 1 rfl (q_nilP (RN.isPtr (RN.ptr (good_rFn dp) (by decide) Fn.zero hx1 sD)) rfl (zS (e := 21) rfl rfl rfl) (q_fldL (p := eptr ve1 a 3) 1 fd34_1 rfl (hl2 _ (Chg.of_ext [] hE0)) (zS (e := 21) rfl rfl rfl) (q_load (p := (padd (eptr ve1 a 3) 1)) (.inr rfl) (.int .i64 ((p.getD a Fn.zero).params)) one2 rfl ((hl2 _ (Chg.of_ext [] hE0)).ld (i := 1) z105_1) (zS (e := 21) rfl rfl rfl) ?_)))
  refine lw_callq 62 [] [] [(.int .i64 ((p.getD a Fn.zero).params)),(.int .i64 ((0 :Nat):Int)),(.int .i64 ((12 :Nat):Int))] rfl rfl cf62 (zS (e := 21) rfl rfl rfl) (.bool (decide (((0 :Nat):Int) ≤ ((p.getD a Fn.zero).params)) && decide (((p.getD a Fn.zero).params) ≤ ((12 :Nat):Int)))) (fun wq => c_spec_l00In wq _ _ _ hx2.rng oM oM) (q_not (!(decide (((0 :Nat):Int) ≤ ((p.getD a Fn.zero).params)) && decide (((p.getD a Fn.zero).params) ≤ ((12 :Nat):Int)))) rfl rfl (zS (e := 21) rfl rfl rfl) (lw_tv 2 rfl ?_))
  cases hb6 : (!(decide (((0 :Nat):Int) ≤ ((p.getD a Fn.zero).params)) && decide (((p.getD a Fn.zero).params) ≤ ((12 :Nat):Int))))
  ·
   refine lw_tv 1 rfl (q_nilP (RN.isPtr (RN.ptr (good_rFn dp) (by decide) Fn.zero hx1 sD)) rfl (zS (e := 29) rfl rfl rfl) (q_fldL (p := eptr ve1 a 3) 2 fd34_2 rfl (hl2 _ (Chg.of_ext [] hE0)) (zS (e := 29) rfl rfl rfl) (q_load (p := (padd (eptr ve1 a 3) 2)) (.inr rfl) ve2 one29 rfl ((hl2 _ (Chg.of_ext [] hE0)).ld (i := 2) z105_1) (zS (e := 29) rfl rfl rfl) (q_len (v := ve2) u29 rfl hx2.rn.isSl (zS (e := 29) rfl rfl rfl) ?_))))
   refine lw_callq 62 [] [] [(.int .i64 ((((p.getD a Fn.zero).outs).length :Nat):Int)),(.int .i64 ((1 :Nat):Int)),(.int .i64 ((12 :Nat):Int))] rfl rfl cf62 (zS (e := 29) rfl rfl rfl) (.bool (decide (((1 :Nat):Int) ≤ ((((p.getD a Fn.zero).outs).length :Nat):Int)) && decide (((((p.getD a Fn.zero).outs).length :Nat):Int) ≤ ((12 :Nat):Int)))) (fun wq => c_spec_l00In wq _ _ _ oM oM oM) (q_not (!(decide (((1 :Nat):Int) ≤ ((((p.getD a Fn.zero).outs).length :Nat):Int)) && decide (((((p.getD a Fn.zero).outs).length :Nat):Int) ≤ ((12 :Nat):Int)))) rfl rfl (zS (e := 29) rfl rfl rfl) (lw_tvn 1 rfl ?_))
   cases hb8 : (!(decide (((1 :Nat):Int) ≤ ((((p.getD a Fn.zero).outs).length :Nat):Int)) && decide (((((p.getD a Fn.zero).outs).length :Nat):Int) ≤ ((12 :Nat):Int))))
   ·
    refine c_cond_f (by first | rfl | (show Value.bool _ = _; rw [hb8])) (wp_skip (wp_seq (wp_seq (wp_plain _ [0] rfl (lw_tvn 1 rfl (wp_block ?_))))))
    refine c_loop (S := Nat) (fun (k : Nat) => ([(6,(.int .i64 ((k :Nat):Int))),(0,vp),(1,(.int .i64 ((a :Nat):Int))),(5,(eptr ve1 a 3))] : List (Nat × Value))) (fun (k : Nat) (W : World) => Ext w W ∧ k ≤ a ∧ (p.take k).any (fun g => strE g.name (p.getD a Fn.zero).name) = false) (fun (k : Nat) => a - k) 0 ⟨rfl,rfl,rfl,rfl,trivial⟩ ⟨hE0,sD,(by rfl)⟩ ?_
    clear hE0 hln1 hln2
    rintro k ρ9 w9 ⟨hE9,hp9_0,hq⟩
    have hzs9 : w.heap.size ≤ w9.heap.size := hE9.size
    refine wp_seq (wp_seq (wp_plain _ [0,0,0] rfl (lw_tv 2 rfl ?_)))
    by_cases hc10 : ((k :Nat):Int) < ((a :Nat):Int)
    ·
     refine q_lss true rfl rfl (decide_eq_true hc10) zN (lw_nil (c_cond_t rfl (wp_skip (wp_seq (wp_block (wp_seq (wp_draw _ [0,0,0,1,0,0,0,1,0,0,0,1,0] mixed (by kernel_rfl) (lw_tv 1 rfl (q_nilP (hp.isPtr) rfl zN (q_fldL (p := vp) 0 fd37_0 rfl (hl1 _ (Chg.of_ext [] hE9.drew)) zN (q_load (p := (padd vp 0)) (.inl rfl) ve1 one35 rfl ((hl1 _ (Chg.of_ext [] hE9.drew)).ld (i := 0) z105_1) zN (lw_tv 1 rfl ?_))))))))))))
     refine q_idx (v := ve1) k u35 tiS34 rfl rfl hx1.isSl rfl sD zN ?_
     obtain ⟨cs11,hr11,hl11⟩ := hx1.get (good_rFn dp) Fn.zero (k := k) sD
     obtain ⟨ve11,rfl,hx11⟩ := RF.of hr11
     have hln11 := hx11.rn.lenle
     unfold maxLen at hln11
     refine q_fldL (p := eptr ve1 k 3) 0 fd34_0 rfl (hl11 _ (Chg.of_ext [] hE9.drew)) zN (q_load (p := (padd (eptr ve1 k 3) 0)) (.inl rfl) (.string ((p.getD k Fn.zero).name)) one9 rfl ((hl11 _ (Chg.of_ext [] hE9.drew)).ld (i := 0) z105_1) zN (lw_tv 1 rfl (q_nilP (RN.isPtr (RN.ptr (good_rFn dp) (by decide) Fn.zero hx1 sD)) rfl zN (q_fldL (p := eptr ve1 a 3) 0 fd34_0 rfl (hl2 _ (Chg.of_ext [] hE9.drew)) zN ?_))))
     refine q_load (p := (padd (eptr ve1 a 3) 0)) (.inl rfl) (.string ((p.getD a Fn.zero).name)) one9 rfl ((hl2 _ (Chg.of_ext [] hE9.drew)).ld (i := 0) z105_1) zN ?_
     cases hc12 : strE ((p.getD k Fn.zero).name) ((p.getD a Fn.zero).name)
     ·
      refine q_eqls false u9 rfl rfl hc12 zN (lw_nil (c_cond_f rfl (wp_skip (wp_plain _ [0,0,0] rfl (lw_tv 1 rfl (q_add ((k + 1 :Nat):Int) rfl rfl (w64n oM sD) zN (lw_tvn 1 rfl ?_)))))))
      exact ⟨(k + 1),_,rfl,⟨rfl,rfl,rfl,rfl,trivial⟩,⟨hE9.drew,sD,(by exact any_step Fn.zero oM hq (by assumption))⟩,by first | omega | (dsimp only; omega)⟩
     ·
      exact q_eqls true u9 rfl rfl hc12 zN (lw_nil (c_cond_t rfl (wp_seq (wp_plain _ [0] rfl (lw_tvn 1 rfl (wp_ret (b_ret (t_ret (t_ret (b_ret (t_ret (post_ret [4] rfl (.bool false) rfl ⟨z105_0,hE9.drew⟩))))))))))))
    ·
     refine q_lss false rfl rfl (decide_eq_false hc10) zN (lw_nil (c_cond_f rfl (wp_exit (t_exit (t_exit (c_exit_here (wp_seq (wp_plain _ [0] rfl ?_))))))))
     have hka : k = a := by omega
     rw [hka] at hq
     have hqa := hq
     refine lw_tvn 1 rfl (wp_seq (wp_seq (wp_plain _ [0] rfl (lw_tvn 1 rfl (wp_block ?_)))))
     refine c_loop (S := Nat × Int) (fun (⟨j,x⟩ : Nat × Int) => ([(7,(.int .i64 x)),(8,(.int .i64 ((j :Nat):Int))),(0,vp),(1,(.int .i64 ((a :Nat):Int))),(5,(eptr ve1 a 3))] : List (Nat × Value))) (fun (⟨j,x⟩ : Nat × Int) (W : World) => Ext w W ∧ j ≤ (p.getD a Fn.zero).outs.length ∧ x = lfts ((p.getD a Fn.zero).outs.take j) ((400 :Nat):Int) ∧ (0 ≤ x ∧ x ≤ 400) ∧ (List.range j).all (fun j => exB p ((p.getD a Fn.zero).outs.getD j Ex.zero) (p.getD a Fn.zero).params ((a :Nat):Int)) = true) (fun (⟨j,x⟩ : Nat × Int) => (p.getD a Fn.zero).outs.length - j) (0,((400 :Nat):Int)) ⟨rfl,rfl,rfl,rfl,rfl,trivial⟩ ⟨hE9,sD,(by rw [List.take_zero,lfts]),oM,(by rfl)⟩ ?_
     clear hE9 hzs9
     rintro ⟨j,x⟩ ρ13 w13 ⟨hE13,hp13_0,hx,hp13_2,hqe⟩
     have hzs13 : w.heap.size ≤ w13.heap.size := hE13.size
     refine wp_seq (wp_seq (wp_plain _ [0,0,0,0,2,0,0] rfl (lw_tv 2 rfl (q_nilP (RN.isPtr (RN.ptr (good_rFn dp) (by decide) Fn.zero hx1 sD)) rfl zN (q_fldL (p := eptr ve1 a 3) 2 fd34_2 rfl (hl2 _ (Chg.of_ext [] hE13)) zN (q_load (p := (padd (eptr ve1 a 3) 2)) (.inr rfl) ve2 one29 rfl ((hl2 _ (Chg.of_ext [] hE13)).ld (i := 2) z105_1) zN (q_len (v := ve2) u29 rfl hx2.rn.isSl zN ?_)))))))
     by_cases hc14 : ((j :Nat):Int) < ((((p.getD a Fn.zero).outs).length :Nat):Int)
     ·
      refine q_lss true rfl rfl (decide_eq_true hc14) zN (lw_nil (c_cond_t rfl (wp_skip (wp_seq (wp_block (wp_seq (wp_plain _ [0,0,0,2,0,0,0,3,0] rfl ?_)))))))
      have hst := sizes_step (l := (p.getD a Fn.zero).outs) (k := j) oM
      have hle := sizes_take (p.getD a Fn.zero).outs (j + 1)
      have hnx := lfts_step (l := (p.getD a Fn.zero).outs) (k := j) (x := ((400 :Nat):Int)) oM oM
      have hnr := lftE_rng (e := (p.getD a Fn.zero).outs.getD j Ex.zero) (x := x) oM
      refine lw_tv 1 rfl (q_nilP (RN.isPtr (RN.ptr (good_rFn dp) (by decide) Fn.zero hx1 sD)) rfl zN (q_fldL (p := eptr ve1 a 3) 2 fd34_2 rfl (hl2 _ (Chg.of_ext [] hE13)) zN (q_load (p := (padd (eptr ve1 a 3) 2)) (.inr rfl) ve2 one29 rfl ((hl2 _ (Chg.of_ext [] hE13)).ld (i := 2) z105_1) zN (lw_tv 1 rfl ?_))))
      refine q_idx (v := ve2) j u29 tiS31 rfl rfl hx2.rn.isSl rfl sD zN (lw_tv 1 rfl ?_)
      refine lw_call 135 [] [] [(eptr ve2 j 5),(.int .i64 x)] rfl rfl cf135 zN (c_spec_l02Left _ dp (eptr ve2 j 5) (((p.getD a Fn.zero).outs).getD j Ex.zero) _ (RN.ptr (good_rEx dp) (by decide) Ex.zero (hx2.rn.ext (good_rdS (good_rEx dp)) hE13) sD) oM oM oM) ?_
      rintro e15 w15 ⟨rfl,hX15⟩
      refine ⟨_,rfl,hX15,?_⟩
      have hzs15:=hX15.size
      have hE15:=hE13.trans hX15
      refine lw_tvn 1 rfl (wp_seq (wp_draw _ [0,0,0,0,0,0,0,1,0,0,0,0,0,1,0,3,0,0] mixed (by kernel_rfl) (lw_tv 1 rfl ?_)))
      by_cases hc16 : lftE (((p.getD a Fn.zero).outs).getD j Ex.zero) x < ((0 :Nat):Int)
      ·
       exact q_lss true rfl rfl (decide_eq_true hc16) zN (lw_tvn 16 rfl (c_cond_t rfl (wp_seq (wp_plain _ [0] rfl (lw_tvn 1 rfl (wp_ret (b_ret (t_ret (t_ret (b_ret (t_ret (post_ret [4] rfl (.bool false) rfl ⟨z105_0,hE15.drew⟩))))))))))))
      ·
       refine q_lss false rfl rfl (decide_eq_false hc16) zN (lw_tv 3 rfl (q_nilP (RN.isPtr (RN.ptr (good_rFn dp) (by decide) Fn.zero hx1 sD)) rfl (zS (e := 75) rfl rfl rfl) (q_fldL (p := eptr ve1 a 3) 2 fd34_2 rfl (hl2 _ (Chg.of_ext [] hE15.drew)) (zS (e := 75) rfl rfl rfl) (q_load (p := (padd (eptr ve1 a 3) 2)) (.inl rfl) ve2 one29 rfl ((hl2 _ (Chg.of_ext [] hE15.drew)).ld (i := 2) z105_1) (zS (e := 75) rfl rfl rfl) (lw_tv 1 rfl ?_)))))
       refine q_idx (v := ve2) j u29 tiS31 rfl rfl hx2.rn.isSl rfl sD (zS (e := 75) rfl rfl rfl) (lw_tv 1 rfl ?_)
       refine q_nilP (RN.isPtr (RN.ptr (good_rFn dp) (by decide) Fn.zero hx1 sD)) rfl (zS (e := 75) rfl rfl rfl) (q_fldL (p := eptr ve1 a 3) 1 fd34_1 rfl (hl2 _ (Chg.of_ext [] hE15.drew)) (zS (e := 75) rfl rfl rfl) (q_load (p := (padd (eptr ve1 a 3) 1)) (.inl rfl) (.int .i64 ((p.getD a Fn.zero).params)) one2 rfl ((hl2 _ (Chg.of_ext [] hE15.drew)).ld (i := 1) z105_1) (zS (e := 75) rfl rfl rfl) (lw_tv 1 rfl ?_)))
       refine lw_call 136 [] [] [vp,(eptr ve2 j 5),(.int .i64 ((p.getD a Fn.zero).params)),(.int .i64 ((a :Nat):Int))] rfl rfl cf136 (zS (e := 75) rfl rfl rfl) (c_spec_l02Expr _ dp vp (p) dp (eptr ve2 j 5) (((p.getD a Fn.zero).outs).getD j Ex.zero) _ _ (hp.ext (good_rP (good_rPr dp)) hE15.drew) (RN.ptr (good_rEx dp) (by decide) Ex.zero (hx2.rn.ext (good_rdS (good_rEx dp)) hE15.drew) sD) hx2.rng oM oM) ?_
       rintro e17 w17 ⟨rfl,hX17⟩
       refine ⟨_,rfl,hX17,?_⟩
       replace hX17 := hX17.of_drew
       have hzs17:=hX17.size
       have hE17:=hE15.trans hX17
       refine q_not (!(exB p (((p.getD a Fn.zero).outs).getD j Ex.zero) ((p.getD a Fn.zero).params) ((a :Nat):Int))) rfl rfl (zS (e := 75) rfl rfl rfl) (lw_tvn 1 rfl ?_)
       cases hb18 : (!(exB p (((p.getD a Fn.zero).outs).getD j Ex.zero) ((p.getD a Fn.zero).params) ((a :Nat):Int)))
       ·
        refine c_cond_f (by first | rfl | (show Value.bool _ = _; rw [hb18])) (wp_skip (wp_plain _ [0,0,0] rfl (lw_tv 1 rfl (q_add ((j + 1 :Nat):Int) rfl rfl (w64n oM sD) zN (lw_tvn 1 rfl ?_)))))
        exact ⟨((j + 1),(lftE (((p.getD a Fn.zero).outs).getD j Ex.zero) x)),_,rfl,⟨rfl,rfl,rfl,rfl,rfl,trivial⟩,⟨hE17,sD,(by rw [hnx,← hx]),oM,(by exact allR_succ hqe (bn_f (by assumption)))⟩,by first | omega | (dsimp only; omega)⟩
       ·
        exact c_cond_t (by first | rfl | (show Value.bool _ = _; rw [hb18])) (wp_seq (wp_plain _ [0] rfl (lw_tvn 1 rfl (wp_ret (b_ret (t_ret (t_ret (b_ret (t_ret (post_ret [4] rfl (.bool false) rfl ⟨z105_0,hE17⟩))))))))))
     ·
      exact q_lss false rfl rfl (decide_eq_false hc14) zN (lw_nil (c_cond_f rfl (wp_exit (t_exit (t_exit (c_exit_here (wp_seq (wp_plain _ [0] rfl (lw_tvn 1 rfl (wp_ret (post_ret [4] rfl (.bool true) rfl ⟨z105_0,hE13⟩)))))))))))
   ·
    exact c_cond_t (by first | rfl | (show Value.bool _ = _; rw [hb8])) (wp_seq (wp_plain _ [0] rfl (lw_tvn 1 rfl (wp_ret (t_ret (post_ret [4] rfl (.bool false) rfl ⟨z105_0,hE0⟩))))))
  ·
   exact lw_tvn 8 rfl (c_cond_t rfl (wp_seq (wp_plain _ [0] rfl (lw_tvn 1 rfl (wp_ret (t_ret (post_ret [4] rfl (.bool false) rfl ⟨z105_0,hE0⟩)))))))
 ·
  exact lw_tvn 16 rfl (c_cond_t rfl (wp_seq (wp_plain _ [0] rfl (lw_tvn 1 rfl (wp_ret (t_ret (post_ret [4] rfl (.bool false) rfl ⟨z105_0,hE0⟩)))))))
theorem z60_0 {p : Prop} (h : p := by first | exact ret_bool (ok_big oM) | exact ret_bool (ok_end oM oM oM hq) | exact ret_bool (ok_bad (k := k) oM (bn_t (by assumption)))) : p := h
theorem c_spec_l02Ok (w : World) (dp : Nat) (vp : Value) (p : List Fn) (hp : RN [] (rP (rPr dp)) w.heap vp p) (hz : SzP p) :
  Calls Try.prog 60 #[vp] w (fun e w' => e = .returned (.bool (okP p)) ∧ Ext w w') := by
 refine calls_mk [vp] 23 Try.func60 rfl rfl sM ?_
 have hE0 : Ext w w := Ext.refl w
 refine wp_seq (wp_plain _ [0] rfl (lw_tvn 1 rfl (wp_seq (wp_seq (wp_plain _ [0,0,0,2,0,0] rfl (lw_tv 1 rfl (q_nilP (hp.isPtr) rfl zN ?_)))))))
 obtain ⟨cs1,hr1,hl1⟩ := RN.at (good_rPr _) hp
 obtain ⟨ve1,rfl,hx1⟩ := RPr.of hr1
 have hln1 := hx1.lenle
 unfold maxLen at hln1
 refine q_fldL (p := vp) 0 fd37_0 rfl (hl1 _ (Chg.of_ext [] hE0)) zN (q_load (p := (padd vp 0)) (.inr rfl) ve1 one35 rfl ((hl1 _ (Chg.of_ext [] hE0)).ld (i := 0) (by simp [exC,fnC])) zN (q_len (v := ve1) u35 rfl hx1.isSl zN ?_))
 by_cases hc2 : ((16 :Nat):Int) < ((p.length :Nat):Int)
 ·
  exact q_gtr true rfl rfl (decide_eq_true hc2) zN (lw_nil (c_cond_t rfl (wp_seq (wp_plain _ [0] rfl (lw_tvn 1 rfl (wp_ret (t_ret (post_ret [2] rfl (.bool false) rfl ⟨z60_0,hE0⟩))))))))
 ·
  refine q_gtr false rfl rfl (decide_eq_false hc2) zN (lw_nil (c_cond_f rfl (wp_skip (wp_seq (wp_seq (wp_plain _ [0] rfl (lw_tvn 1 rfl (wp_block (c_loop (S := Nat) (fun (k : Nat) => ([(3,(.int .i64 ((k :Nat):Int))),(0,vp)] : List (Nat × Value))) (fun (k : Nat) (W : World) => Ext w W ∧ k ≤ p.length ∧ (List.range k).all (fnB p) = true) (fun (k : Nat) => p.length - k) 0 ⟨rfl,rfl,trivial⟩ ⟨hE0,sD,(by rfl)⟩ ?_)))))))))
  clear hE0 hln1
  rintro k ρ3 w3 ⟨hE3,hp3_0,hq⟩
  have hzs3 : w.heap.size ≤ w3.heap.size := hE3.size
  refine wp_seq (wp_seq (wp_plain _ [0,0,0,0,2,0,0] rfl (lw_tv 2 rfl (q_nilP (hp.isPtr) rfl zN (q_fldL (p := vp) 0 fd37_0 rfl (hl1 _ (Chg.of_ext [] hE3)) zN (q_load (p := (padd vp 0)) (.inr rfl) ve1 one35 rfl ((hl1 _ (Chg.of_ext [] hE3)).ld (i := 0) (by simp [exC,fnC])) zN (q_len (v := ve1) u35 rfl hx1.isSl zN ?_)))))))
  by_cases hc4 : ((k :Nat):Int) < ((p.length :Nat):Int)
  ·
   refine q_lss true rfl rfl (decide_eq_true hc4) zN (lw_nil (c_cond_t rfl (wp_skip (wp_seq (wp_block (wp_seq (wp_plain _ [0,0,3,0] rfl (lw_tv 2 rfl (lw_call 105 [] [] [vp,(.int .i64 ((k :Nat):Int))] rfl rfl cf105 zN (c_spec_l02Func _ dp vp (p) (k) (hp.ext (good_rP (good_rPr dp)) hE3) oM oM (by exact hz)) ?_)))))))))
   rintro e5 w5 ⟨rfl,hX5⟩
   refine ⟨_,rfl,hX5,?_⟩
   have hzs5:=hX5.size
   have hE5:=hE3.trans hX5
   refine q_not (!(fnB p k)) rfl rfl zN (lw_nil ?_)
   cases hb6 : (!(fnB p k))
   ·
    refine c_cond_f (by first | rfl | (show Value.bool _ = _; rw [hb6])) (wp_skip (wp_plain _ [0,0,0] rfl (lw_tv 1 rfl (q_add ((k + 1 :Nat):Int) rfl rfl (w64n oM sD) zN (lw_tvn 1 rfl ?_)))))
    exact ⟨(k + 1),_,rfl,⟨rfl,rfl,trivial⟩,⟨hE5,sD,(by exact allR_succ hq (bn_f (by assumption)))⟩,by first | omega | (dsimp only; omega)⟩
   ·
    exact c_cond_t (by first | rfl | (show Value.bool _ = _; rw [hb6])) (wp_seq (wp_plain _ [0] rfl (lw_tvn 1 rfl (wp_ret (b_ret (t_ret (t_ret (b_ret (t_ret (post_ret [2] rfl (.bool false) rfl ⟨z60_0,hE5⟩))))))))))
  ·
   exact q_lss false rfl rfl (decide_eq_false hc4) zN (lw_nil (c_cond_f rfl (wp_exit (t_exit (t_exit (c_exit_here (wp_seq (wp_plain _ [0] rfl (lw_tvn 1 rfl (wp_ret (post_ret [2] rfl (.bool true) rfl ⟨z60_0,hE3⟩)))))))))))
theorem z123_0 {p : Prop} (h : p := by first | exact ret_int (isF_1 (bn_t (by assumption))) | exact ret_int (isF_2 (bn_f (by assumption)) (inB_d (bn_t (by assumption)))) | exact ret_int (isF_3 (bn_f (by assumption)) (inB_e (bn_f (by assumption))))) : p := h
theorem c_spec_l02Asked (w : World) (dp : Nat) (vp : Value) (p : List Fn) (f : Int) (hp : RN [] (rP (rPr dp)) w.heap vp p) (_hf : -9223372036854775808 ≤ f ∧ f ≤ 9223372036854775807) (hz : SzP p) :
  Calls Try.prog 123 #[vp,.int .i64 f] w (fun e w' => e = .returned (.int .i64 (isF p f)) ∧ Ext w w') := by
 refine calls_mk [vp,.int .i64 f] 17 Try.func123 rfl rfl sM ?_
 have hE0 : Ext w w := Ext.refl w
 refine wp_seq (wp_plain _ [0] rfl (lw_tvn 1 rfl (wp_seq (wp_seq (wp_plain _ [0,3,0] rfl (lw_tv 1 rfl (lw_call 60 [] [] [vp] rfl rfl cf60 zN (c_spec_l02Ok _ dp vp (p) (hp.ext (good_rP (good_rPr dp)) hE0) (by exact hz)) ?_)))))))
 rintro e1 w1 ⟨rfl,hX1⟩
 refine ⟨_,rfl,hX1,?_⟩
 have hzs1:=hX1.size
 have hE1:=hE0.trans hX1
 refine q_not (!(okP p)) rfl rfl zN (lw_nil ?_)
 cases hb2 : (!(okP p))
 ·
  refine c_cond_f (by first | rfl | (show Value.bool _ = _; rw [hb2])) (wp_skip (wp_seq (wp_seq (wp_plain _ [0,0,0,0,2,0,0,0,0] rfl (lw_tv 2 rfl (q_nilP (hp.isPtr) rfl zN ?_))))))
  obtain ⟨cs3,hr3,hl3⟩ := RN.at (good_rPr _) hp
  obtain ⟨ve3,rfl,hx3⟩ := RPr.of hr3
  have hln3 := hx3.lenle
  unfold maxLen at hln3
  refine q_fldL (p := vp) 0 fd37_0 rfl (hl3 _ (Chg.of_ext [] hE1)) zN (q_load (p := (padd vp 0)) (.inr rfl) ve3 one35 rfl ((hl3 _ (Chg.of_ext [] hE1)).ld (i := 0) (by simp [exC,fnC])) zN (q_len (v := ve3) u35 rfl hx3.isSl zN (q_sub (((p.length :Nat):Int) - 1) rfl rfl (w64 oM oM) zN (lw_callq 62 [] [] [(.int .i64 f),(.int .i64 ((0 :Nat):Int)),(.int .i64 (((p.length :Nat):Int) - 1))] rfl rfl cf62 zN (.bool (decide (((0 :Nat):Int) ≤ f) && decide (f ≤ (((p.length :Nat):Int) - 1)))) (fun wq => c_spec_l00In wq _ _ _ _hf oM oM) (q_not (!(decide (((0 :Nat):Int) ≤ f) && decide (f ≤ (((p.length :Nat):Int) - 1)))) rfl rfl zN (lw_nil ?_))))))
  cases hb5 : (!(decide (((0 :Nat):Int) ≤ f) && decide (f ≤ (((p.length :Nat):Int) - 1))))
  ·
   exact c_cond_f (by first | rfl | (show Value.bool _ = _; rw [hb5])) (wp_skip (wp_seq (wp_plain _ [0] rfl (lw_tvn 1 rfl (wp_ret (post_ret [4] rfl (.int .i64 ((0 :Nat):Int)) rfl ⟨z123_0,hE1⟩))))))
  ·
   exact c_cond_t (by first | rfl | (show Value.bool _ = _; rw [hb5])) (wp_seq (wp_plain _ [0] rfl (lw_tvn 1 rfl (wp_ret (t_ret (post_ret [4] rfl (.int .i64 ((2 :Nat):Int)) rfl ⟨z123_0,hE1⟩))))))
 ·
  exact c_cond_t (by first | rfl | (show Value.bool _ = _; rw [hb2])) (wp_seq (wp_plain _ [0] rfl (lw_tvn 1 rfl (wp_ret (t_ret (post_ret [4] rfl (.int .i64 ((1 :Nat):Int)) rfl ⟨z123_0,hE1⟩))))))
end Go.Proofs.Ytnofbmdpabcjaaa
namespace Go.Proofs.Ytnofbmdpabcjaaa
open Go Go.RowKit
set_option linter.unusedVariables false
set_option linter.unusedSimpArgs false
set_option maxHeartbeats 4000000
set_option maxRecDepth 100000
attribute [local irreducible] LW
theorem c_spec_l01Const (w : World) (x : Int) (K : Nat) (_hx : -9223372036854775808 ≤ x ∧ x ≤ 9223372036854775807) (_hK : K ≤ 1000000000000) (hK : K ≤ 1000000000) :
  Calls Try.prog 159 #[.int .i64 x,.int .i64 ((K :Nat):Int)] w (fun e w' => ∃ v0 : Value,e = .returned (v0) ∧ Ext w w' ∧ Fr (owL rI 2) w.heap.size w'.heap.size w'.heap v0 (cst K x)) := by
 refine calls_mk [.int .i64 x,.int .i64 ((K :Nat):Int)] 14 Try.func159 rfl rfl sM ?_
 have hE0 : Ext w w := Ext.refl w
 refine wp_seq (wp_plain _ [0] rfl (lw_tvn 1 rfl (wp_seq (wp_plain _ [0,3,0] rfl (lw_tv 1 rfl (r_make (n := K) u25 ti2 rfl rfl rfl sD zN fun v1 w1 hX1 hz1 hO1 => ?_))))))
 have hzs1:=hX1.size
 have hE1:=hE0.trans hX1
 refine lw_tvn 1 rfl (wp_seq (wp_seq (wp_plain _ [0,0] rfl (lw_tv 1 rfl ?_))))
 by_cases hc2 : ((0 :Nat):Int) < ((K :Nat):Int)
 ·
  refine q_gtr true rfl rfl (decide_eq_true hc2) zN (lw_nil (c_cond_t rfl (wp_plain _ [0,0,0,4] rfl (lw_tv 2 rfl (q_idx (v := v1) 0 u25 ti2 rfl rfl hO1.isSl rfl sD zN ?_)))))
  refine e_setI (v := v1) (w := w1) sz2 rfl rfl _hx hO1 sD zN fun w3 F3 hC3 hz3 hF3 hO3 => ?_
  have hE3 : Ext w w3 := hC3.below hE1 (fun c hc => Nat.le_trans (Nat.le_refl _) (hF3 c hc).1) hE1.size
  have hzs3:=hC3.size
  exact lw_nil (wp_seq (wp_plain _ [0,0] rfl (lw_tvn 2 rfl (wp_ret (post_ret [4] rfl v1 rfl ⟨v1,rfl,hE3,(by exact hO3.up o1)⟩)))))
 ·
  exact q_gtr false rfl rfl (decide_eq_false hc2) zN (lw_nil (c_cond_f rfl (wp_skip (wp_seq (wp_plain _ [0,0] rfl (lw_tvn 2 rfl (wp_ret (post_ret [4] rfl v1 rfl ⟨v1,rfl,hE1,(by have h := hO1.up o1; obtain rfl : K = 0 := oM; exact h)⟩))))))))
theorem scl_eq (a : List Int) (y : Int) : scl a y = sclS a y := by
  unfold scl sclS
  exact leq_done (d := 0) (k := a.length) (fun r hr => by rw [map_getD (d := 0) hr, tab_get _ hr]) (by simp) (by simp)
theorem z162_0 {p : Prop} (h : p := by first | omega | assumption | (simp only [List.length_nil, List.length_cons, List.length_append, List.length_set, List.length_replicate, tab_len]; omega) | (simp [List.length_nil, List.length_cons, List.length_append, List.length_set, List.length_replicate, tab_len]; done) | (simp [List.length_nil, List.length_cons, List.length_append, List.length_set, List.length_replicate, tab_len]; omega)) : p := h
theorem c_spec_l01Add (w : World) (va : Value) (a : List Int) (vb : Value) (b : List Int) (ha : Rd (rdL rI) w.heap va a) (hb : Rd (rdL rI) w.heap vb b) (hla : a.length ≤ 1000000000000) (hl : a.length ≤ b.length) :
  Calls Try.prog 162 #[va,vb] w (fun e w' => ∃ v0 : Value,e = .returned (v0) ∧ Ext w w' ∧ Fr (owL rI 2) w.heap.size w'.heap.size w'.heap v0 (addS a b)) := by
 refine calls_mk [va,vb] 27 Try.func162 rfl rfl sM ?_
 have hE0 : Ext w w := Ext.refl w
 have hl_va := ha.lenle
 have hl_vb := hb.lenle
 refine wp_seq (wp_plain _ [0] rfl (lw_tvn 1 rfl (wp_seq (wp_plain _ [3,0] rfl (r_nil (rI) good_rI u25 ti2 zN fun v1 w1 hX1 hz1 hO1 => ?_)))))
 have hzs1:=hX1.size
 have hE1:=hE0.trans hX1
 refine lw_tvn 1 rfl (wp_seq (wp_seq (wp_plain _ [0] rfl (lw_tvn 1 rfl (wp_block ?_)))))
 refine c_loop (S := Nat × Value) (fun (⟨k,vo⟩ : Nat × Value) => ([(5,vo),(6,(.int .i64 ((k :Nat):Int))),(0,va),(1,vb)] : List (Nat × Value))) (fun (⟨k,vo⟩ : Nat × Value) (W : World) => Ext w W ∧ Fr (owL rI 2) w.heap.size W.heap.size W.heap vo (tab k (fun t => md (a.getD t 0 + b.getD t 0))) ∧ k ≤ a.length) (fun (⟨k,vo⟩ : Nat × Value) => a.length - k) (0,v1) ⟨rfl,rfl,rfl,rfl,trivial⟩ ⟨hE1,(by exact hO1.up o1),z162_0⟩ ?_
 clear hE0 hO1 hz1 hX1 hzs1 hE1
 rintro ⟨k,vo⟩ ρ2 w2 ⟨hE2,hL2_0,hp2_0⟩
 have hzs2 : w.heap.size ≤ w2.heap.size := hE2.size
 refine wp_seq (wp_seq (wp_plain _ [0,0,0,0] rfl (lw_tv 2 rfl (q_len (v := va) u25 rfl ha.isSl zN ?_))))
 by_cases hc3 : ((k :Nat):Int) < ((a.length :Nat):Int)
 ·
  refine q_lss true rfl rfl (decide_eq_true hc3) zN (lw_nil (c_cond_t rfl (wp_skip (wp_seq (wp_block (wp_draw _ [0,0,0,0,1,0,0,0,1,0,3,4,0] mixed (by kernel_rfl) (lw_tv 3 rfl (q_idx (v := va) k u25 ti2 rfl rfl ha.isSl rfl z162_0 zN ?_))))))))
  refine q_load (p := eptr va k 1) (.inl rfl) (.int .i64 (a.getD k 0)) one2 rfl (ldH_ext hE2.drew (ha.getI z162_0).1) zN (lw_tv 2 rfl ?_)
  refine q_idx (v := vb) k u25 ti2 rfl rfl hb.isSl rfl z162_0 zN ?_
  refine q_load (p := eptr vb k 1) (.inl rfl) (.int .i64 (b.getD k 0)) one2 rfl (ldH_ext hE2.drew (hb.getI z162_0).1) zN ?_
  refine lw_callq 90 [] [] [(.int .i64 (a.getD k 0)),(.int .i64 (b.getD k 0))] rfl rfl cf90 zN (.int .i64 (md ((a.getD k 0) + (b.getD k 0)))) (fun wq => c_spec_Plus wq _ _ (ha.getI z162_0).2 (hb.getI z162_0).2) ?_
  refine r_one (u := (.int .i64 (md ((a.getD k 0) + (b.getD k 0))))) (B := w2.heap.size) good_rI u25 ti2 rfl rfl (frI w2.heap.size w2.heap.size _ _ (md_rng _)) (Nat.le_refl _) zN fun v5 w5 hX5 hz5 hO5 => ?_
  replace hX5 := hX5.of_drew
  have hzs5:=hX5.size
  have hE5:=hE2.trans hX5
  have hL2_0x5 := hL2_0.ext (o1) hX5
  refine e_appI (v := vo) (a := v5) u25 ti2 rfl rfl rfl hL2_0x5 hE5.size hO5.rd1 z162_0 (by unfold maxLen; first | omega | assumption | (simp [tab_len]; done) | (simp [tab_len]; omega)) zN fun v6 w6 F6 hC6 hF6 hO6 => ?_
  have hE6 : Ext w w6 := hC6.below hE5 (fun c hc => Nat.le_trans (Nat.le_refl _) (hF6 c hc).1) hE5.size
  have hzs6:=hC6.size
  have hF7 := hO5.chg (o1) hC6 (fun c hc => by have := hF6 c hc; omega)
  refine lw_tvn 1 rfl (wp_plain _ [0,0,0] rfl (lw_tv 1 rfl (q_add ((k + 1 :Nat):Int) rfl rfl (w64n oM z162_0) zN (lw_tvn 1 rfl ?_))))
  exact ⟨((k + 1),v6),_,rfl,⟨rfl,rfl,rfl,rfl,trivial⟩,⟨hE6,(by rw [tab_succ]; exact hO6.up o1),z162_0⟩,by first | omega | (dsimp only; omega)⟩
 ·
  exact q_lss false rfl rfl (decide_eq_false hc3) zN (lw_nil (c_cond_f rfl (wp_exit (t_exit (t_exit (c_exit_here (wp_seq (wp_plain _ [0,0] rfl (lw_tvn 2 rfl (wp_ret (post_ret [4] rfl vo rfl ⟨vo,rfl,hE2,(by have h := hL2_0.up o1; rw [show k = a.length from by omega] at h; exact h)⟩)))))))))))
theorem c_spec_l01Sub (w : World) (va : Value) (a : List Int) (vb : Value) (b : List Int) (ha : Rd (rdL rI) w.heap va a) (hb : Rd (rdL rI) w.heap vb b) (hla : a.length ≤ 1000000000000) (hlb : b.length ≤ 1000000000000) (hl : a.length ≤ b.length) :
  Calls Try.prog 163 #[va,vb] w (fun e w' => ∃ v0 : Value,e = .returned (v0) ∧ Ext w w' ∧ Fr (owL rI 2) w.heap.size w'.heap.size w'.heap v0 (redS a b)) := by
 refine calls_mk [va,vb] 9 Try.func163 rfl rfl sM ?_
 have hE0 : Ext w w := Ext.refl w
 have hl_va := ha.lenle
 have hl_vb := hb.lenle
 refine wp_seq (wp_plain _ [0] rfl (lw_tvn 1 rfl (wp_seq (wp_plain _ [0,0,3,3,0] rfl (lw_tv 2 rfl (lw_call 46 [] [] [vb,(.int .i64 ((1000002 :Nat):Int))] rfl rfl cf46 zN (c_spec_l01Scale _ _ _ _ (hb.ext g1 hE0) oM (by exact hlb)) ?_))))))
 rintro e1 w1 ⟨v1_0,rfl,hX1,hO1_0⟩
 refine ⟨_,rfl,hX1,?_⟩
 have hzs1:=hX1.size
 have hE1:=hE0.trans hX1
 refine lw_call 162 [] [] [va,v1_0] rfl rfl cf162 zN (c_spec_l01Add _ _ _ _ _ (ha.ext g1 hE1) hO1_0.rd1 (by exact hla) (by unfold scl; simp; omega)) ?_
 rintro e2 w2 ⟨v2_0,rfl,hX2,hO2_0⟩
 refine ⟨_,rfl,hX2,?_⟩
 have hzs2:=hX2.size
 have hE2:=hE1.trans hX2
 have hO1_0x2 := hO1_0.ext (o1) hX2
 exact lw_tvn 1 rfl (wp_ret (post_ret [4] rfl v2_0 rfl ⟨v2_0,rfl,hE2,(by rw [← red_eq hl,← scl_eq]; exact (hO2_0.up o1).low hE1.size)⟩))
theorem z164_0 {p : Prop} (h : p := by first | omega | assumption | (simp only [List.length_nil, List.length_cons, List.length_append, List.length_set, List.length_replicate, tab_len]; omega) | (simp [List.length_nil, List.length_cons, List.length_append, List.length_set, List.length_replicate, tab_len]; done) | (simp [List.length_nil, List.length_cons, List.length_append, List.length_set, List.length_replicate, tab_len]; omega)) : p := h
theorem c_spec_l01Mul (w : World) (va : Value) (a : List Int) (vb : Value) (b : List Int) (ha : Rd (rdL rI) w.heap va a) (hb : Rd (rdL rI) w.heap vb b) (hla : a.length ≤ 1000000000000) (hl : a.length ≤ b.length) :
  Calls Try.prog 164 #[va,vb] w (fun e w' => ∃ v0 : Value,e = .returned (v0) ∧ Ext w w' ∧ Fr (owL rI 2) w.heap.size w'.heap.size w'.heap v0 (proS a b)) := by
 refine calls_mk [va,vb] 39 Try.func164 rfl rfl sM ?_
 have hE0 : Ext w w := Ext.refl w
 have hl_va := ha.lenle
 have hl_vb := hb.lenle
 refine wp_seq (wp_plain _ [0] rfl (lw_tvn 1 rfl (wp_seq (wp_plain _ [3,0] rfl (r_nil (rI) good_rI u25 ti2 zN fun v1 w1 hX1 hz1 hO1 => ?_)))))
 have hzs1:=hX1.size
 have hE1:=hE0.trans hX1
 refine lw_tvn 1 rfl (wp_seq (wp_seq (wp_plain _ [0] rfl (lw_tvn 1 rfl (wp_block ?_)))))
 refine c_loop (S := Nat × Value) (fun (⟨k,vo⟩ : Nat × Value) => ([(5,vo),(6,(.int .i64 ((k :Nat):Int))),(0,va),(1,vb)] : List (Nat × Value))) (fun (⟨k,vo⟩ : Nat × Value) (W : World) => Ext w W ∧ Fr (owL rI 2) w.heap.size W.heap.size W.heap vo (tab k (fun t => prk a b t (t + 1))) ∧ k ≤ a.length) (fun (⟨k,vo⟩ : Nat × Value) => a.length - k) (0,v1) ⟨rfl,rfl,rfl,rfl,trivial⟩ ⟨hE1,(by exact hO1.up o1),z164_0⟩ ?_
 clear hE0 hO1 hz1 hX1 hzs1 hE1
 rintro ⟨k,vo⟩ ρ2 w2 ⟨hE2,hL2_0,hp2_0⟩
 have hzs2 : w.heap.size ≤ w2.heap.size := hE2.size
 refine wp_seq (wp_seq (wp_plain _ [0,0,0,0] rfl (lw_tv 2 rfl (q_len (v := va) u25 rfl ha.isSl zN ?_))))
 by_cases hc3 : ((k :Nat):Int) < ((a.length :Nat):Int)
 ·
  refine q_lss true rfl rfl (decide_eq_true hc3) zN (lw_nil (c_cond_t rfl (wp_skip (wp_seq (wp_block (wp_seq (wp_plain _ [0] rfl (lw_tvn 1 rfl (wp_seq (wp_seq (wp_plain _ [0] rfl (lw_tvn 1 rfl (wp_block ?_)))))))))))))
  refine c_loop (S := Nat × Int) (fun (⟨i,s⟩ : Nat × Int) => ([(7,(.int .i64 s)),(8,(.int .i64 ((i :Nat):Int))),(0,va),(1,vb),(5,vo),(6,(.int .i64 ((k :Nat):Int)))] : List (Nat × Value))) (fun (⟨i,s⟩ : Nat × Int) (W : World) => Ext w W ∧ Fr (owL rI 2) w.heap.size W.heap.size W.heap vo (tab k (fun t => prk a b t (t + 1))) ∧ i ≤ k + 1 ∧ s = prk a b k i ∧ (0 ≤ s ∧ s < 1000003)) (fun (⟨i,s⟩ : Nat × Int) => k + 1 - i) (0,((0 :Nat):Int)) ⟨rfl,rfl,rfl,rfl,rfl,rfl,trivial⟩ ⟨hE2,hL2_0.up o1,z164_0,(by rfl),oM⟩ ?_
  clear hL2_0 hE2 hzs2
  rintro ⟨i,s⟩ ρ4 w4 ⟨hE4,hL4_0,hp4_0,hs,hsr⟩
  have hzs4 : w.heap.size ≤ w4.heap.size := hE4.size
  refine wp_seq (wp_seq (wp_plain _ [0,0,0] rfl (lw_tv 2 rfl ?_)))
  by_cases hc5 : ((i :Nat):Int) ≤ ((k :Nat):Int)
  ·
   refine q_leq true rfl rfl (decide_eq_true hc5) zN (lw_nil (c_cond_t rfl (wp_skip (wp_seq (wp_block (wp_draw _ [0,0,0,0,1,0,0,0,0,0,1,0,0,0] mixed (by kernel_rfl) (lw_tv 3 rfl (q_idx (v := va) i u25 ti2 rfl rfl ha.isSl rfl z164_0 zN ?_))))))))
   refine q_load (p := eptr va i 1) (.inl rfl) (.int .i64 (a.getD i 0)) one2 rfl (ldH_ext hE4.drew (ha.getI z164_0).1) zN (lw_tv 3 rfl (q_sub ((k - i :Nat):Int) rfl rfl (by rw [w64 oM oM]; omega) zN ?_))
   refine q_idx (v := vb) (k - i) u25 ti2 rfl rfl hb.isSl rfl z164_0 zN ?_
   refine q_load (p := eptr vb (k - i) 1) (.inl rfl) (.int .i64 (b.getD (k - i) 0)) one2 rfl (ldH_ext hE4.drew (hb.getI z164_0).1) zN ?_
   refine lw_callq 17 [] [] [(.int .i64 (a.getD i 0)),(.int .i64 (b.getD (k - i) 0))] rfl rfl cf17 zN (.int .i64 (md ((a.getD i 0) * (b.getD (k - i) 0)))) (fun wq => c_spec_Times wq _ _ (ha.getI z164_0).2 (hb.getI z164_0).2) ?_
   refine lw_callq 90 [] [] [(.int .i64 s),(.int .i64 (md ((a.getD i 0) * (b.getD (k - i) 0))))] rfl rfl cf90 zN (.int .i64 (md (s + (md ((a.getD i 0) * (b.getD (k - i) 0)))))) (fun wq => c_spec_Plus wq _ _ oM (md_rng _)) (lw_tvn 1 rfl (wp_plain _ [0,0,0] rfl (lw_tv 1 rfl (q_add ((i + 1 :Nat):Int) rfl rfl (w64n oM z164_0) zN (lw_tvn 1 rfl ?_)))))
   exact ⟨((i + 1),(md (s + (md ((a.getD i 0) * (b.getD (k - i) 0)))))),_,rfl,⟨rfl,rfl,rfl,rfl,rfl,rfl,trivial⟩,⟨hE4.drew,hL4_0.up o1,z164_0,(by rw [md_addr,hs]; rfl),(by exact md_num _)⟩,by first | omega | (dsimp only; omega)⟩
  ·
   refine q_leq false rfl rfl (decide_eq_false hc5) zN (lw_nil (c_cond_f rfl (wp_exit (t_exit (t_exit (c_exit_here (wp_plain _ [0,0,3,4,0] rfl (lw_tv 2 rfl (r_one (u := (.int .i64 s)) (B := w4.heap.size) good_rI u25 ti2 rfl rfl (frI w4.heap.size w4.heap.size _ _ oM) (Nat.le_refl _) zN fun v8 w8 hX8 hz8 hO8 => ?_)))))))))
   have hzs8:=hX8.size
   have hE8:=hE4.trans hX8
   have hL4_0x8 := hL4_0.ext (o1) hX8
   refine e_appI (v := vo) (a := v8) u25 ti2 rfl rfl rfl hL4_0x8 hE8.size hO8.rd1 z164_0 (by unfold maxLen; first | omega | assumption | (simp [tab_len]; done) | (simp [tab_len]; omega)) zN fun v9 w9 F9 hC9 hF9 hO9 => ?_
   have hE9 : Ext w w9 := hC9.below hE8 (fun c hc => Nat.le_trans (Nat.le_refl _) (hF9 c hc).1) hE8.size
   have hzs9:=hC9.size
   have hF10 := hO8.chg (o1) hC9 (fun c hc => by have := hF9 c hc; omega)
   refine lw_tvn 1 rfl (wp_plain _ [0,0,0] rfl (lw_tv 1 rfl (q_add ((k + 1 :Nat):Int) rfl rfl (w64n oM z164_0) zN (lw_tvn 1 rfl ?_))))
   exact ⟨((k + 1),v9),_,rfl,⟨rfl,rfl,rfl,rfl,trivial⟩,⟨hE9,(by rw [tab_succ]; have h := hO9.up o1; rw [hs,show i = k + 1 from by omega] at h; exact h),z164_0⟩,by first | omega | (dsimp only; omega)⟩
 ·
  exact q_lss false rfl rfl (decide_eq_false hc3) zN (lw_nil (c_cond_f rfl (wp_exit (t_exit (t_exit (c_exit_here (wp_seq (wp_plain _ [0,0] rfl (lw_tvn 2 rfl (wp_ret (post_ret [4] rfl vo rfl ⟨vo,rfl,hE2,(by have h := hL2_0.up o1; rw [show k = a.length from by omega] at h; exact h)⟩)))))))))))
theorem z165_0 {p : Prop} (h : p := by first | omega | assumption | (simp only [List.length_nil, List.length_cons, List.length_append, List.length_set, List.length_replicate, quL_len]; omega) | (simp [List.length_nil, List.length_cons, List.length_append, List.length_set, List.length_replicate, quL_len]; done) | (simp [List.length_nil, List.length_cons, List.length_append, List.length_set, List.length_replicate, quL_len]; omega)) : p := h
theorem c_spec_l01Div (w : World) (va : Value) (a : List Int) (vb : Value) (b : List Int) (ha : Rd (rdL rI) w.heap va a) (hb : Rd (rdL rI) w.heap vb b) (hla : a.length ≤ 1000000000000) (hl : a.length ≤ b.length) (h1 : 0 < b.length) (hqa : allN a = true) :
  Calls Try.prog 165 #[va,vb] w (fun e w' => ∃ v0 : Value,e = .returned (v0) ∧ Ext w w' ∧ Fr (owL rI 2) w.heap.size w'.heap.size w'.heap v0 (quoS a b)) := by
 refine calls_mk [va,vb] 50 Try.func165 rfl rfl sM ?_
 have hE0 : Ext w w := Ext.refl w
 have hl_va := ha.lenle
 have hl_vb := hb.lenle
 refine wp_seq (wp_plain _ [0] rfl (lw_tvn 1 rfl (wp_seq (wp_plain _ [3,0] rfl (r_nil (rI) good_rI u25 ti2 zN fun v1 w1 hX1 hz1 hO1 => ?_)))))
 have hzs1:=hX1.size
 have hE1:=hE0.trans hX1
 refine lw_tvn 1 rfl (wp_seq (wp_plain _ [0,0,2,0,0] rfl (lw_tv 1 rfl (q_idx (v := vb) 0 u25 ti2 rfl rfl hb.isSl rfl z165_0 zN ?_))))
 refine q_load (p := eptr vb 0 1) (.inr rfl) (.int .i64 (b.getD 0 0)) one2 rfl (ldH_ext hE1 (hb.getI z165_0).1) zN ?_
 refine lw_callq 169 [] [] [(.int .i64 (b.getD 0 0))] rfl rfl cf169 zN (.int .i64 (inv (b.getD 0 0))) (fun wq => c_spec_l01Inv wq _ (hb.getI z165_0).2) (lw_tvn 1 rfl (wp_seq (wp_seq (wp_plain _ [0] rfl (lw_tvn 1 rfl (wp_block ?_))))))
 refine c_loop (S := Nat × Value) (fun (⟨k,vo⟩ : Nat × Value) => ([(5,vo),(7,(.int .i64 ((k :Nat):Int))),(0,va),(1,vb),(6,(.int .i64 (inv (b.getD 0 0))))] : List (Nat × Value))) (fun (⟨k,vo⟩ : Nat × Value) (W : World) => Ext w W ∧ Fr (owL rI 2) w.heap.size W.heap.size W.heap vo (quL a b k) ∧ k ≤ a.length) (fun (⟨k,vo⟩ : Nat × Value) => a.length - k) (0,v1) ⟨rfl,rfl,rfl,rfl,rfl,trivial⟩ ⟨hE1,(by exact hO1.up o1),z165_0⟩ ?_
 clear hE0 hO1 hz1 hX1 hzs1 hE1
 rintro ⟨k,vo⟩ ρ3 w3 ⟨hE3,hL3_0,hp3_0⟩
 have hzs3 : w.heap.size ≤ w3.heap.size := hE3.size
 refine wp_seq (wp_seq (wp_plain _ [0,0,0,0] rfl (lw_tv 2 rfl (q_len (v := va) u25 rfl ha.isSl zN ?_))))
 by_cases hc4 : ((k :Nat):Int) < ((a.length :Nat):Int)
 ·
  refine q_lss true rfl rfl (decide_eq_true hc4) zN (lw_nil (c_cond_t rfl (wp_skip (wp_seq (wp_block (wp_seq (wp_plain _ [0,0,0,2,0] rfl (lw_tv 2 rfl (q_idx (v := va) k u25 ti2 rfl rfl ha.isSl rfl z165_0 zN ?_)))))))))
  refine q_load (p := eptr va k 1) (.inr rfl) (.int .i64 (a.getD k 0)) one2 rfl (ldH_ext hE3 (ha.getI z165_0).1) zN (lw_tvn 1 rfl (wp_seq (wp_seq (wp_plain _ [0] rfl (lw_tvn 1 rfl (wp_block ?_))))))
  refine c_loop (S := Nat × Int) (fun (⟨i,t⟩ : Nat × Int) => ([(8,(.int .i64 t)),(9,(.int .i64 ((i :Nat):Int))),(0,va),(1,vb),(5,vo),(6,(.int .i64 (inv (b.getD 0 0)))),(7,(.int .i64 ((k :Nat):Int)))] : List (Nat × Value))) (fun (⟨i,t⟩ : Nat × Int) (W : World) => Ext w W ∧ Fr (owL rI 2) w.heap.size W.heap.size W.heap vo (quL a b k) ∧ i ≤ k ∧ t = qrk a b (quL a b k) k i ∧ (0 ≤ t ∧ t < 1000003)) (fun (⟨i,t⟩ : Nat × Int) => k - i) (0,(a.getD k 0)) ⟨rfl,rfl,rfl,rfl,rfl,rfl,rfl,trivial⟩ ⟨hE3,hL3_0.up o1,z165_0,(by rfl),(by exact allN_get hqa k)⟩ ?_
  clear hL3_0 hE3 hzs3
  rintro ⟨i,t⟩ ρ5 w5 ⟨hE5,hL5_0,hp5_0,ht,htr⟩
  have hzs5 : w.heap.size ≤ w5.heap.size := hE5.size
  refine wp_seq (wp_seq (wp_plain _ [0,0,0] rfl (lw_tv 2 rfl ?_)))
  by_cases hc6 : ((i :Nat):Int) < ((k :Nat):Int)
  ·
   refine q_lss true rfl rfl (decide_eq_true hc6) zN (lw_nil (c_cond_t rfl (wp_skip (wp_seq (wp_block (wp_draw _ [0,0,0,0,1,0,0,0,0,0,1,0,0,0] mixed (by kernel_rfl) ?_))))))
   have hmn := md_num ((quL a b k).getD i 0 * b.getD (k - i) 0)
   refine lw_tv 3 rfl (q_idx (v := vo) i u25 ti2 rfl rfl hL5_0.isSl rfl z165_0 zN ?_)
   refine q_load (p := eptr vo i 1) (.inl rfl) (.int .i64 ((quL a b k).getD i 0)) one2 rfl (hL5_0.rd1.getI z165_0).1 zN (lw_tv 3 rfl (q_sub ((k - i :Nat):Int) rfl rfl (by rw [w64 oM oM]; omega) zN ?_))
   refine q_idx (v := vb) (k - i) u25 ti2 rfl rfl hb.isSl rfl z165_0 zN ?_
   refine q_load (p := eptr vb (k - i) 1) (.inl rfl) (.int .i64 (b.getD (k - i) 0)) one2 rfl (ldH_ext hE5.drew (hb.getI z165_0).1) zN ?_
   refine lw_callq 17 [] [] [(.int .i64 ((quL a b k).getD i 0)),(.int .i64 (b.getD (k - i) 0))] rfl rfl cf17 zN (.int .i64 (md (((quL a b k).getD i 0) * (b.getD (k - i) 0)))) (fun wq => c_spec_Times wq _ _ (hL5_0.rd1.getI z165_0).2 (hb.getI z165_0).2) ?_
   refine lw_callq 170 [] [] [(.int .i64 t),(.int .i64 (md (((quL a b k).getD i 0) * (b.getD (k - i) 0))))] rfl rfl cf170 zN (.int .i64 (md (t - (md (((quL a b k).getD i 0) * (b.getD (k - i) 0)))))) (fun wq => c_spec_l01Minus wq _ _ oM (md_rng _) oM) (lw_tvn 1 rfl (wp_plain _ [0,0,0] rfl (lw_tv 1 rfl (q_add ((i + 1 :Nat):Int) rfl rfl (w64n oM z165_0) zN (lw_tvn 1 rfl ?_)))))
   exact ⟨((i + 1),(md (t - (md (((quL a b k).getD i 0) * (b.getD (k - i) 0)))))),_,rfl,⟨rfl,rfl,rfl,rfl,rfl,rfl,rfl,trivial⟩,⟨hE5.drew,hL5_0.up o1,z165_0,(by rw [md_subr,ht]; rfl),(by exact md_num _)⟩,by first | omega | (dsimp only; omega)⟩
  ·
   refine q_lss false rfl rfl (decide_eq_false hc6) zN (lw_nil (c_cond_f rfl (wp_exit (t_exit (t_exit (c_exit_here (wp_plain _ [0,0,0,0,3,4,0] rfl (lw_tv 3 rfl (lw_callq 17 [] [] [(.int .i64 t),(.int .i64 (inv (b.getD 0 0)))] rfl rfl cf17 zN (.int .i64 (md (t * (inv (b.getD 0 0))))) (fun wq => c_spec_Times wq _ _ oM (inv_rng _)) (r_one (u := (.int .i64 (md (t * (inv (b.getD 0 0)))))) (B := w5.heap.size) good_rI u25 ti2 rfl rfl (frI w5.heap.size w5.heap.size _ _ (md_rng _)) (Nat.le_refl _) zN fun v10 w10 hX10 hz10 hO10 => ?_))))))))))
   have hzs10:=hX10.size
   have hE10:=hE5.trans hX10
   have hL5_0x10 := hL5_0.ext (o1) hX10
   refine e_appI (v := vo) (a := v10) u25 ti2 rfl rfl rfl hL5_0x10 hE10.size hO10.rd1 z165_0 (by unfold maxLen; first | omega | assumption | (simp [quL_len]; done) | (simp [quL_len]; omega)) zN fun v11 w11 F11 hC11 hF11 hO11 => ?_
   have hE11 : Ext w w11 := hC11.below hE10 (fun c hc => Nat.le_trans (Nat.le_refl _) (hF11 c hc).1) hE10.size
   have hzs11:=hC11.size
   have hF12 := hO10.chg (o1) hC11 (fun c hc => by have := hF11 c hc; omega)
   refine lw_tvn 1 rfl (wp_plain _ [0,0,0] rfl (lw_tv 1 rfl (q_add ((k + 1 :Nat):Int) rfl rfl (w64n oM z165_0) zN (lw_tvn 1 rfl ?_))))
   exact ⟨((k + 1),v11),_,rfl,⟨rfl,rfl,rfl,rfl,rfl,trivial⟩,⟨hE11,(by have h := hO11.up o1; rw [ht,show i = k from by omega] at h; exact h),z165_0⟩,by first | omega | (dsimp only; omega)⟩
 ·
  exact q_lss false rfl rfl (decide_eq_false hc4) zN (lw_nil (c_cond_f rfl (wp_exit (t_exit (t_exit (c_exit_here (wp_seq (wp_plain _ [0,0] rfl (lw_tvn 2 rfl (wp_ret (post_ret [4] rfl vo rfl ⟨vo,rfl,hE3,(by have h := hL3_0.up o1; rw [show k = a.length from by omega] at h; exact h)⟩)))))))))))
end Go.Proofs.Ytnofbmdpabcjaaa
namespace Go.Proofs.Ytnofbmdpabcjaaa
open Go Go.RowKit
set_option linter.unusedVariables false
set_option linter.unusedSimpArgs false
set_option maxHeartbeats 4000000
set_option maxRecDepth 100000
attribute [local irreducible] LW
/-- What the reference does when it evaluates an expression. -/
def SV (F d : Nat) : Prop := ∀ (w : World) (S : List Nat) (g : Nat) (pp : Value) (dp n s0 : Nat) (c0 : Int) (p : List Fn) (ve : Value) (ex : Ex) (vv : Value) (env : List (List Int)) (hS : ∀ b ∈ S, b < w.heap.size) (hgS : g ∈ S) (hB0 : BX w.heap g [pp, .int .i64 ((n : Nat) : Int), .int .i64 ((s0 : Nat) : Int), .int .i64 c0]) (hp : RN S (rP (rPr dp)) w.heap pp p) (hn : 1 ≤ n ∧ n ≤ 13) (hs0 : s0 ≤ 3000) (hc0 : 0 ≤ c0 ∧ c0 ≤ 9) (hex : RN S (rP (rEx d)) w.heap ve ex) (henv : RN S (rdL (rdL rI)) w.heap vv env) (hqenv : CapS vv)
  (hvp : VPr p) (hF : F ≤ p.length) (hwf : wf p ((F : Nat) : Int) ex ((env.length : Nat) : Int) = true) (hse : SrE n env) (hdp : env.length + ex.deep ≤ 1000000),
  Calls Try.prog 144 #[.pointer (some ⟨g, 0, none⟩), ve, vv] w (fun e w' => ∃ (v : Value) (x : List Int) (s1 : Nat) (c1 : Int), e = .returned v ∧ Chg [g] w w' ∧ BX w'.heap g [pp, .int .i64 ((n : Nat) : Int), .int .i64 ((s1 : Nat) : Int), .int .i64 c1] ∧ RN S (rdL rI) w'.heap v x ∧ Ser1 n x ∧ s1 ≤ 3000 ∧ (0 ≤ c1 ∧ c1 ≤ 9) ∧ RelV (go c0 (evE n (evC p n F) ex env s0)) x s1 c1)
def SC (F d : Nat) : Prop := ∀ (w : World) (S : List Nat) (g : Nat) (pp : Value) (dp n s0 : Nat) (c0 : Int) (p : List Fn) (ve : Value) (ex : Ex) (vv : Value) (env : List (List Int)) (hS : ∀ b ∈ S, b < w.heap.size) (hgS : g ∈ S) (hB0 : BX w.heap g [pp, .int .i64 ((n : Nat) : Int), .int .i64 ((s0 : Nat) : Int), .int .i64 c0]) (hp : RN S (rP (rPr dp)) w.heap pp p) (hn : 1 ≤ n ∧ n ≤ 13) (hs0 : s0 ≤ 3000) (hc0 : 0 ≤ c0 ∧ c0 ≤ 9) (hex : RN S (rP (rEx d)) w.heap ve ex) (henv : RN S (rdL (rdL rI)) w.heap vv env) (hqenv : CapS vv)
  (hvp : VPr p) (hF : F ≤ p.length) (hwf : wf p ((F : Nat) : Int) ex ((env.length : Nat) : Int) = true) (hse : SrE n env) (hdp : env.length + ex.deep ≤ 1000000) (hk : ex.kind = 10 ∨ ex.kind = 11),
  Calls Try.prog 161 #[.pointer (some ⟨g, 0, none⟩), ve, vv] w (fun e w' => ∃ (v : Value) (x : List Int) (s1 : Nat) (c1 : Int), e = .returned v ∧ Chg [g] w w' ∧ BX w'.heap g [pp, .int .i64 ((n : Nat) : Int), .int .i64 ((s1 : Nat) : Int), .int .i64 c1] ∧ RN S (rdL rI) w'.heap v x ∧ Ser1 n x ∧ s1 ≤ 3000 ∧ (0 ≤ c1 ∧ c1 ≤ 9) ∧ RelV (go c0 (callV n (evC p n F) ex env s0)) x s1 c1)
def SO (F : Nat) : Prop := ∀ (w : World) (S : List Nat) (g : Nat) (pp : Value) (dp n s0 : Nat) (c0 : Int) (p : List Fn) (dfx : Nat) (vf : Value) (fx : Fn) (va : Value) (env : List (List Int)) (hS : ∀ b ∈ S, b < w.heap.size) (hgS : g ∈ S) (hB0 : BX w.heap g [pp, .int .i64 ((n : Nat) : Int), .int .i64 ((s0 : Nat) : Int), .int .i64 c0]) (hp : RN S (rP (rPr dp)) w.heap pp p) (hn : 1 ≤ n ∧ n ≤ 13) (hs0 : s0 ≤ 3000) (hc0 : 0 ≤ c0 ∧ c0 ≤ 9) (hfx : RN S (rP (rFn dfx)) w.heap vf fx) (henv : RN S (rdL (rdL rI)) w.heap va env) (hqenv : CapS va)
  (hvp : VPr p) (hF : F ≤ p.length) (hwf : ∀ k, k < fx.outs.length → wf p ((F : Nat) : Int) (fx.outs.getD k Ex.zero) ((env.length : Nat) : Int) = true) (hse : SrE n env) (hdp : ∀ k, k < fx.outs.length → env.length + (fx.outs.getD k Ex.zero).deep ≤ 1000000) (hll : fx.outs.length ≤ 1000000),
  Calls Try.prog 125 #[.pointer (some ⟨g, 0, none⟩), vf, va] w (fun e w' => ∃ (v : Value) (x : List (List Int)) (s1 : Nat) (c1 : Int), e = .returned v ∧ Chg [g] w w' ∧ BX w'.heap g [pp, .int .i64 ((n : Nat) : Int), .int .i64 ((s1 : Nat) : Int), .int .i64 c1] ∧ RN S (rdL (rdL rI)) w'.heap v x ∧ (CapS v ∧ x.length = fx.outs.length ∧ SrE n x) ∧ s1 ≤ 3000 ∧ (0 ≤ c1 ∧ c1 ≤ 9) ∧ RelV (go c0 (evs n (evC p n F) fx.outs env s0)) x s1 c1)
theorem c_spec_l02Run_fail (w : World) (S : List Nat) (g : Nat) (pp : Value) (dp n s0 : Nat) (c0 : Int) (p : List Fn) (code : Int) (hS : ∀ b ∈ S,b < w.heap.size) (hgS : g ∈ S) (hB0 : BX w.heap g [pp,.int .i64 ((n :Nat):Int),.int .i64 ((s0 :Nat):Int),.int .i64 c0]) (hp : RN S (rP (rPr dp)) w.heap pp p) (hn : 1 ≤ n ∧ n ≤ 13) (hs0 : s0 ≤ 3000) (hc0 : 0 ≤ c0 ∧ c0 ≤ 9) (_hcode : -9223372036854775808 ≤ code ∧ code ≤ 9223372036854775807) (hcd : 1 ≤ code ∧ code ≤ 9) :
  Calls Try.prog 158 #[.pointer (some ⟨g,0,none⟩),.int .i64 code] w (fun e w' => ∃ (v : Value) (x : List Int) (s1 : Nat) (c1 : Int),e = .returned v ∧ Chg [g] w w' ∧ BX w'.heap g [pp,.int .i64 ((n :Nat):Int),.int .i64 ((s1 :Nat):Int),.int .i64 c1] ∧ RN S (rdL rI) w'.heap v x ∧ Ser1 n x ∧ s1 ≤ 3000 ∧ (0 ≤ c1 ∧ c1 ≤ 9) ∧ (s1 = s0 ∧ c1 = if c0 = 0 then code else c0)) := by
 refine calls_mk [.pointer (some ⟨g,0,none⟩),.int .i64 code] 19 Try.func158 rfl rfl sM ?_
 have hE0 : Chg [g] w w := Chg.refl [g] w
 have hgl := hB0.lt
 refine wp_seq (wp_plain _ [0] rfl (lw_tvn 1 rfl (wp_seq (wp_seq (wp_plain _ [0,0,0,2,0] rfl (lw_tv 1 rfl (q_nil rfl zN (q_fldP (p := (.pointer (some ⟨g,0,none⟩))) (b := g) (o := 0) 3 fd158_3 rfl rfl zN (q_load (p := (padd (.pointer (some ⟨g,0,none⟩)) 3)) (.inr rfl) (.int .i64 c0) one2 rfl (hB0.ldp (i := 3) sM) zN ?_)))))))))
 by_cases hc1 : c0 = ((0 :Nat):Int)
 ·
  refine q_eql true rfl rfl (decide_eq_true hc1) zN (lw_nil (c_cond_t rfl (wp_plain _ [0,0,0,0,4] rfl (lw_tv 2 rfl (q_nil rfl zN (q_fldP (p := (.pointer (some ⟨g,0,none⟩))) (b := g) (o := 0) 3 fd158_3 rfl rfl zN (e_setB (k := 3) (w := w) sz2 rfl rfl ⟨rfl,rfl⟩ hB0 sM zN fun w2 hC2 hz2 hB2 => ?_)))))))
  replace hB2 : BX w2.heap g [pp,(.int .i64 ((n :Nat):Int)),(.int .i64 ((s0 :Nat):Int)),(.int .i64 code)] := hB2
  have hE2 : Chg [g] w w2 := hE0.trans hC2
  have hzs2:=hC2.size
  refine lw_nil (wp_seq (wp_plain _ [0,0,0,2,3,0] rfl (lw_tv 1 rfl (q_nil rfl zN (q_fldP (p := (.pointer (some ⟨g,0,none⟩))) (b := g) (o := 0) 1 fd158_1 rfl rfl zN (q_load (p := (padd (.pointer (some ⟨g,0,none⟩)) 1)) (.inr rfl) (.int .i64 ((n :Nat):Int)) one3 rfl (hB2.ldp (i := 1) sM) zN ?_))))))
  refine lw_call 159 [] [] [(.int .i64 ((0 :Nat):Int)),(.int .i64 ((n :Nat):Int))] rfl rfl cf159 zN (c_spec_l01Const _ _ (n) oM sD oM) ?_
  rintro e3 w3 ⟨v3_0,rfl,hX3,hO3_0⟩
  refine ⟨_,rfl,hX3,?_⟩
  have hzs3:=hX3.size
  have hE3 : Chg [g] w w3 := hE2.ext hX3
  have hB2x3 := hB2.ext hX3
  exact lw_tvn 1 rfl (wp_ret (post_ret [4] rfl v3_0 rfl ⟨v3_0,cst n ((0 :Nat):Int),s0,code,rfl,hE3,hB2x3,(RN.of_fr1 hO3_0 (fun b hb => by have := hS b hb; omega)),(by exact cst_ser (by decide)),oM,oM,(by exact ⟨rfl,by first | (rw [if_pos oM]) | (rw [if_neg oM])⟩)⟩))
 ·
  refine q_eql false rfl rfl (decide_eq_false hc1) zN (lw_nil (c_cond_f rfl (wp_skip (wp_seq (wp_plain _ [0,0,0,2,3,0] rfl (lw_tv 1 rfl (q_nil rfl zN (q_fldP (p := (.pointer (some ⟨g,0,none⟩))) (b := g) (o := 0) 1 fd158_1 rfl rfl zN (q_load (p := (padd (.pointer (some ⟨g,0,none⟩)) 1)) (.inr rfl) (.int .i64 ((n :Nat):Int)) one3 rfl (hB0.ldp (i := 1) sM) zN ?_)))))))))
  refine lw_call 159 [] [] [(.int .i64 ((0 :Nat):Int)),(.int .i64 ((n :Nat):Int))] rfl rfl cf159 zN (c_spec_l01Const _ _ (n) oM sD oM) ?_
  rintro e4 w4 ⟨v4_0,rfl,hX4,hO4_0⟩
  refine ⟨_,rfl,hX4,?_⟩
  have hzs4:=hX4.size
  have hE4 : Chg [g] w w4 := hE0.ext hX4
  have hB0x4 := hB0.ext hX4
  exact lw_tvn 1 rfl (wp_ret (post_ret [4] rfl v4_0 rfl ⟨v4_0,cst n ((0 :Nat):Int),s0,c0,rfl,hE4,hB0x4,(RN.of_fr1 hO4_0 (fun b hb => by have := hS b hb; omega)),(by exact cst_ser (by decide)),oM,oM,(by exact ⟨rfl,by first | (rw [if_pos oM]) | (rw [if_neg oM])⟩)⟩))
theorem z160_0 {p : Prop} (h : p := by unfold maxLen; first | omega | assumption | (simp only [List.length_nil, List.length_cons, List.length_append, List.length_set, List.length_replicate]; omega) | (simp [List.length_nil, List.length_cons, List.length_append, List.length_set, List.length_replicate]; done) | (simp [List.length_nil, List.length_cons, List.length_append, List.length_set, List.length_replicate]; omega)) : p := h
theorem c_spec_l02Env (w : World) (S : List Nat) (vv : Value) (env : List (List Int)) (vx : Value) (x : List Int) (hS : ∀ b ∈ S,b < w.heap.size) (henv : RN S (rdL (rdL rI)) w.heap vv env) (hqenv : CapS vv) (hx : RN S (rdL rI) w.heap vx x) (hel : env.length ≤ 1000000) :
  Calls Try.prog 160 #[vv,vx] w (fun e w' => ∃ v,e = .returned v ∧ Ext w w' ∧ RN S (rdL (rdL rI)) w'.heap v (env ++ [x]) ∧ CapS v) := by
 refine calls_mk [vv,vx] 25 Try.func160 rfl rfl sM ?_
 have hE0 : Ext w w := Ext.refl w
 have hl_vv := henv.lenL
 unfold maxLen at hl_vv
 have hl_vx := hx.lenL
 unfold maxLen at hl_vx
 refine wp_seq (wp_plain _ [0] rfl (lw_tvn 1 rfl (wp_seq (wp_plain _ [3,0] rfl (r_nil rV good_rV u24 ti25 zN fun v1 w1 hX1 hz1 hO1 => ?_)))))
 have hzs1:=hX1.size
 have hE1:=hE0.trans hX1
 obtain ⟨us1,F1,hb1⟩ := Bld.nil (S := S) (hO1.low (B' := w.heap.size) (Nat.le_refl _))
 refine lw_tvn 1 rfl (wp_seq (wp_seq (wp_plain _ [0] rfl (lw_tvn 1 rfl (wp_block (c_loop (S := Nat × Value) (fun (⟨k,vo⟩ : Nat × Value) => ([(5,vo),(6,(.int .i64 ((k :Nat):Int))),(0,vv),(1,vx)] : List (Nat × Value))) (fun (⟨k,vo⟩ : Nat × Value) (W : World) => Ext w W ∧ k ≤ env.length ∧ BldE 25 S w.heap.size W.heap vo (env.take k)) (fun (⟨k,vo⟩ : Nat × Value) => env.length - k) (0,v1) ⟨rfl,rfl,rfl,rfl,trivial⟩ ⟨hE1,sD,(by exact ⟨_,_,by assumption⟩)⟩ ?_))))))
 clear hE0 hO1 hz1 hX1 hzs1 hE1
 rintro ⟨k,vo⟩ ρ2 w2 ⟨hE2,hp2_0,hbld⟩
 have hzs2 : w.heap.size ≤ w2.heap.size := hE2.size
 obtain ⟨us4,F4,hbl3⟩ := hbld
 refine wp_seq (wp_seq (wp_plain _ [0,0,0,0] rfl (lw_tv 2 rfl (q_len (v := vv) u24 rfl henv.slL zN ?_))))
 by_cases hc5 : ((k :Nat):Int) < ((env.length :Nat):Int)
 ·
  refine q_lss true rfl rfl (decide_eq_true hc5) zN (lw_nil (c_cond_t rfl (wp_skip (wp_seq (wp_block (wp_plain _ [0,0,0,0,2,3,4,0] rfl (lw_tv 3 rfl (q_idx (v := vv) k u24 ti25 rfl rfl henv.slL rfl sD zN ?_))))))))
  obtain ⟨ue6,hl6,hr6⟩ := RN.getL (w := w) g1 [] (k := k) henv sD
  have hln6 := hr6.lenL
  unfold maxLen at hln6
  refine q_load (p := eptr vv k 1) (.inr rfl) ue6 one25 rfl (hl6 _ (Chg.of_ext S hE2)) zN (r_one (u := ue6) (B := w2.heap.size) good_rV u24 ti25 rfl rfl (frV w2.heap.size w2.heap.size _ (hr6.one1 g1)) (Nat.le_refl _) zN fun v7 w7 hX7 hz7 hO7 => ?_)
  have hzs7:=hX7.size
  have hE7:=hE2.trans hX7
  have hN8 := hbl3.ext hX7
  refine e_appB (v := vo) (a := v7) (u := ue6) u24 ti25 rfl rfl rfl hN8 oM hO7 ((hr6.add (F := F4) g1 hN8.low).ext g1 hE7) sD z160_0 zN ?_
  rintro v9 w9 G9 hC9 hF9 ⟨us9,F9,hb9⟩
  have hzs9:=hC9.size
  have hE9 : Ext w w9 := hC9.below hE7 (fun c hc => hN8.low c (hF9 c hc)) hE7.size
  refine lw_tvn 1 rfl (wp_plain _ [0,0,0] rfl (lw_tv 1 rfl (q_add ((k + 1 :Nat):Int) rfl rfl (w64n oM sD) zN (lw_tvn 1 rfl ?_))))
  exact ⟨((k + 1),v9),_,rfl,⟨rfl,rfl,rfl,rfl,trivial⟩,⟨hE9,sD,(by rw [take_snoc [] oM]; exact ⟨_,_,by assumption⟩)⟩,by first | omega | (dsimp only; omega)⟩
 ·
  refine q_lss false rfl rfl (decide_eq_false hc5) zN (lw_nil (c_cond_f rfl (wp_exit (t_exit (t_exit (c_exit_here (wp_seq (wp_plain _ [0,0,3,4,0] rfl (lw_tv 2 rfl (r_one (u := vx) (B := w2.heap.size) good_rV u24 ti25 rfl rfl (frV w2.heap.size w2.heap.size _ (hx.one1 g1)) (Nat.le_refl _) zN fun v10 w10 hX10 hz10 hO10 => ?_))))))))))
  have hzs10:=hX10.size
  have hE10:=hE2.trans hX10
  have hN11 := hbl3.ext hX10
  refine e_appB (v := vo) (a := v10) (u := vx) u24 ti25 rfl rfl rfl hN11 oM hO10 ((hx.add (F := F4) g1 hN11.low).ext g1 hE10) sD z160_0 zN ?_
  rintro v12 w12 G12 hC12 hF12 ⟨us12,F12,hb12⟩
  have hzs12:=hC12.size
  have hE12 : Ext w w12 := hC12.below hE10 (fun c hc => hN11.low c (hF12 c hc)) hE10.size
  exact lw_tvn 1 rfl (wp_ret (post_ret [4] rfl v12 rfl ⟨v12,rfl,hE12,(by have h9 := (hb12.done hS); rw [List.take_of_length_le oM] at h9; exact h9),hb12.cap⟩))
theorem c_spec_l02Run_outs (w : World) (S : List Nat) (F : Nat) (g : Nat) (pp : Value) (dp n s0 : Nat) (c0 : Int) (p : List Fn) (dfx : Nat) (vf : Value) (fx : Fn) (va : Value) (env : List (List Int)) (hS : ∀ b ∈ S,b < w.heap.size) (hgS : g ∈ S) (hB0 : BX w.heap g [pp,.int .i64 ((n :Nat):Int),.int .i64 ((s0 :Nat):Int),.int .i64 c0]) (hp : RN S (rP (rPr dp)) w.heap pp p) (hn : 1 ≤ n ∧ n ≤ 13) (hs0 : s0 ≤ 3000) (hc0 : 0 ≤ c0 ∧ c0 ≤ 9) (hfx : RN S (rP (rFn dfx)) w.heap vf fx) (henv : RN S (rdL (rdL rI)) w.heap va env) (hqenv : CapS va) (hvp : VPr p) (hF : F ≤ p.length) (hwf : ∀ k,k < fx.outs.length → wf p ((F :Nat):Int) (fx.outs.getD k Ex.zero) ((env.length :Nat):Int) = true) (hse : SrE n env) (hdp : ∀ k,k < fx.outs.length → env.length + (fx.outs.getD k Ex.zero).deep ≤ 1000000) (hll : fx.outs.length ≤ 1000000) (IHv : ∀ d,SV F d) :
  Calls Try.prog 125 #[.pointer (some ⟨g,0,none⟩),vf,va] w (fun e w' => ∃ (v : Value) (x : List (List Int)) (s1 : Nat) (c1 : Int),e = .returned v ∧ Chg [g] w w' ∧ BX w'.heap g [pp,.int .i64 ((n :Nat):Int),.int .i64 ((s1 :Nat):Int),.int .i64 c1] ∧ RN S (rdL (rdL rI)) w'.heap v x ∧ (CapS v ∧ x.length = fx.outs.length ∧ SrE n x) ∧ s1 ≤ 3000 ∧ (0 ≤ c1 ∧ c1 ≤ 9) ∧ RelV (go c0 (evs n (evC p n F) fx.outs env s0)) x s1 c1) := by
 refine calls_mk [.pointer (some ⟨g,0,none⟩),vf,va] 32 Try.func125 rfl rfl sM ?_
 have hE0 : Chg [g] w w := Chg.refl [g] w
 have hl_va := henv.lenL
 unfold maxLen at hl_va
 have hgl := hB0.lt
 refine wp_seq (wp_plain _ [0] rfl (lw_tvn 1 rfl (wp_seq (wp_plain _ [3,0] rfl (r_nil rV good_rV u24 ti25 zN fun v1 w1 hX1 hz1 hO1 => ?_)))))
 have hzs1:=hX1.size
 have hE1 : Chg [g] w w1 := hE0.ext hX1
 have hB0x1 := hB0.ext hX1
 obtain ⟨us1,F1,hb1⟩ := Bld.nil (S := S) (hO1.low (B' := w.heap.size) (Nat.le_refl _))
 refine lw_tvn 1 rfl (wp_seq (wp_seq (wp_plain _ [0] rfl (lw_tvn 1 rfl (wp_block ?_)))))
 refine c_loop (S := Nat × Value × List (List Int) × Nat × Int) (fun (⟨k,vo,xs,s9,c9⟩ : Nat × Value × List (List Int) × Nat × Int) => ([(7,vo),(8,(.int .i64 ((k :Nat):Int))),(0,(.pointer (some ⟨g,0,none⟩))),(1,vf),(2,va)] : List (Nat × Value))) (fun (⟨k,vo,xs,s9,c9⟩ : Nat × Value × List (List Int) × Nat × Int) (W : World) => Chg [g] w W ∧ BX W.heap g [pp,.int .i64 ((n :Nat):Int),.int .i64 ((s9 :Nat):Int),.int .i64 c9] ∧ k ≤ fx.outs.length ∧ BldE 25 S w.heap.size W.heap vo xs ∧ xs.length = k ∧ SrE n xs ∧ s9 ≤ 3000 ∧ (0 ≤ c9 ∧ c9 ≤ 9) ∧ RelV (go c0 (evs n (evC p n F) (fx.outs.take k) env s0)) xs s9 c9) (fun (⟨k,vo,xs,s9,c9⟩ : Nat × Value × List (List Int) × Nat × Int) => fx.outs.length - k) (0,v1,([] : List (List Int)),s0,c0) ⟨rfl,rfl,rfl,rfl,rfl,trivial⟩ ⟨hE1,hB0x1,sD,(by exact ⟨_,_,by assumption⟩),(by rfl),(by intro j hj; simp at hj),oM,oM,(by exact all_start _ _ _ _ _ _)⟩ ?_
 clear hE0 hO1 hz1 hX1 hzs1 hE1
 rintro ⟨k,vo,xs,s9,c9⟩ ρ2 w2 ⟨hE2,hL2_0,hp2_0,hbld,hxl,hxs,hp2_4,hp2_5,hrl⟩
 have hzs2 : w.heap.size ≤ w2.heap.size := hE2.size
 have hq3 := hL2_0.lt
 obtain ⟨us5,F5,hbl4⟩ := hbld
 refine wp_seq (wp_seq (wp_plain _ [0,0,0,0,2,0,0] rfl (lw_tv 2 rfl (q_nilP (hfx.isPtr) rfl zN ?_))))
 obtain ⟨cs6,hr6,hl6⟩ := RN.at (good_rFn _) hfx
 obtain ⟨ve6,rfl,hx6⟩ := RF.of hr6
 have hln6 := hx6.rn.lenle
 unfold maxLen at hln6
 refine q_fldL (p := vf) 2 fd34_2 rfl (hl6 _ (hE2.sub (subS hgS))) zN (q_load (p := (padd vf 2)) (.inr rfl) ve6 one29 rfl ((hl6 _ (hE2.sub (subS hgS))).ld (i := 2) (by simp [exC,fnC])) zN (q_len (v := ve6) u29 rfl hx6.rn.isSl zN ?_))
 by_cases hc7 : ((k :Nat):Int) < ((fx.outs.length :Nat):Int)
 ·
  refine q_lss true rfl rfl (decide_eq_true hc7) zN (lw_nil (c_cond_t rfl (wp_skip (wp_seq (wp_block (wp_plain _ [0,0,0,0,0,2,0,0,0,4,3,4,0] rfl (lw_tv 3 rfl (q_nilP (hfx.isPtr) rfl zN (q_fldL (p := vf) 2 fd34_2 rfl (hl6 _ (hE2.sub (subS hgS))) zN (q_load (p := (padd vf 2)) (.inr rfl) ve6 one29 rfl ((hl6 _ (hE2.sub (subS hgS))).ld (i := 2) (by simp [exC,fnC])) zN (lw_tv 1 rfl ?_)))))))))))
  refine q_idx (v := ve6) k u29 tiS31 rfl rfl hx6.rn.isSl rfl sD zN (lw_tv 1 rfl ?_)
  refine lw_callE 144 [] [] [(.pointer (some ⟨g,0,none⟩)),(eptr ve6 k 5),va] rfl rfl cf144 zN (IHv dfx _ (S ++ F5) g pp dp (n) (s9) (c9) (p) (eptr ve6 k 5) (fx.outs.getD k Ex.zero) va (env) (fun b hb => (by rcases List.mem_append.1 hb with hb | hb; (have := hS b hb; omega); exact hbl4.lt b hb : b < w2.heap.size)) (List.mem_append_left _ hgS) hL2_0 ((hp.add (F := F5) (good_rP (good_rPr dp)) hbl4.low).chg (good_rP (good_rPr dp)) (hE2.sub (subA hgS))) oM oM oM (RN.ptr (good_rEx dfx) (by decide) Ex.zero ((hx6.rn.add (F := F5) (good_rdS (good_rEx dfx)) hbl4.low).chg (good_rdS (good_rEx dfx)) (hE2.sub (subA hgS))) sD) ((henv.add (F := F5) g2 hbl4.low).chg g2 (hE2.sub (subA hgS))) hqenv (by exact hvp) oM (by exact hwf k oM) (by exact hse) (by exact hdp k oM)) ?_
  rintro e8 w8 ⟨v8,x8,s8,c8,rfl,hC8,hB8,hr8,hse8,hsb8,hcb8,hrl8⟩
  refine ⟨_,rfl,?_⟩
  have hzs8:=hC8.size
  have hE8 : Chg [g] w w8 := hE2.trans hC8
  have hF12 := hbl4.run hgS oM hC8
  have hsn8 := hse8.1
  replace hr8 : RN (S ++ F5) (rdL rI) w8.heap v8 x8 := hr8
  refine r_one (u := v8) (B := w8.heap.size) good_rV u24 ti25 rfl rfl (frV w8.heap.size w8.heap.size _ (hr8.one1 g1)) (Nat.le_refl _) zN fun v14 w14 hX14 hz14 hO14 => ?_
  have hzs14:=hX14.size
  have hE14 : Chg [g] w w14 := hE8.ext hX14
  have hB8x14 := hB8.ext hX14
  have hN15 := hF12.ext hX14
  have hN16 := hr8.ext g1 hX14
  refine e_appB (v := vo) (a := v14) (u := v8) u24 ti25 rfl rfl rfl hN15 oM hO14 hN16 sD (by unfold maxLen; first | omega | assumption | (simp; done) | (simp; omega)) zN ?_
  rintro v17 w17 G17 hC17 hF17 ⟨us17,F17,hb17⟩
  have hzs17:=hC17.size
  have hE17 : Chg [g] w w17 := hE14.fresh hC17 (fun c hc => hN15.low c (hF17 c hc))
  have hF18 := hB8x14.chg hC17 (fun hm => by have := hN15.low _ (hF17 _ hm); have := hN15.lt _ (hF17 _ hm); omega)
  refine lw_tvn 1 rfl (wp_plain _ [0,0,0] rfl (lw_tv 1 rfl (q_add ((k + 1 :Nat):Int) rfl rfl (w64n oM sD) zN (lw_tvn 1 rfl ?_))))
  exact ⟨((k + 1),v17,(xs ++ [x8]),s8,c8),_,rfl,⟨rfl,rfl,rfl,rfl,rfl,trivial⟩,⟨hE17,hF18,sD,(by exact ⟨_,_,by assumption⟩),(by rw [List.length_append,List.length_singleton,hxl]),(by exact SrE.snoc hxs (by assumption)),oM,oM,(by exact rel_snoc oM hrl (by assumption))⟩,by first | omega | (dsimp only; omega)⟩
 ·
  exact q_lss false rfl rfl (decide_eq_false hc7) zN (lw_nil (c_cond_f rfl (wp_exit (t_exit (t_exit (c_exit_here (wp_seq (wp_plain _ [0,0] rfl (lw_tvn 2 rfl (wp_ret (post_ret [6] rfl vo rfl ⟨vo,xs,s9,c9,rfl,hE2,hL2_0,(hbl4.done hS),(by exact ⟨hbl4.cap,by omega,hxs⟩),oM,oM,(by rw [List.take_of_length_le oM] at hrl; exact hrl)⟩)))))))))))
theorem c_outs (F : Nat) (IH : ∀ d,SV F d) : SO F := by
 intro w S g pp dp n s0 c0 p dfx vf fx va env hS hgS hB0 hp hn hs0 hc0 hfx henv hqenv hvp hF hwf hse hdp hll
 exact c_spec_l02Run_outs w S F g pp dp n s0 c0 p dfx vf fx va env hS hgS hB0 hp hn hs0 hc0 hfx henv hqenv hvp hF hwf hse hdp hll IH
theorem z161_0 {p : Prop} (h : p := by first | exact rel_cone oM oM hKr (by assumption) | exact rel_clop oM oM hKr (by rw [show (ex.count).toNat = i from by omega]; exact hrl9)) : p := h
theorem z161_1 {p : Prop} (h : p := by simp [exC, fnC]) : p := h
theorem c_spec_l02Run_call (w : World) (S : List Nat) (F : Nat) (g : Nat) (pp : Value) (dp n s0 : Nat) (c0 : Int) (p : List Fn) (dex : Nat) (ve : Value) (ex : Ex) (vv : Value) (env : List (List Int)) (hS : ∀ b ∈ S,b < w.heap.size) (hgS : g ∈ S) (hB0 : BX w.heap g [pp,.int .i64 ((n :Nat):Int),.int .i64 ((s0 :Nat):Int),.int .i64 c0]) (hp : RN S (rP (rPr dp)) w.heap pp p) (hn : 1 ≤ n ∧ n ≤ 13) (hs0 : s0 ≤ 3000) (hc0 : 0 ≤ c0 ∧ c0 ≤ 9) (hex : RN S (rP (rEx dex)) w.heap ve ex) (henv : RN S (rdL (rdL rI)) w.heap vv env) (hqenv : CapS vv) (hvp : VPr p) (hF : F ≤ p.length) (hwf : wf p ((F :Nat):Int) ex ((env.length :Nat):Int) = true) (hse : SrE n env) (hdp : env.length + ex.deep ≤ 1000000) (hk : ex.kind = 10 ∨ ex.kind = 11) (IH1 : ∀ F',F' < F → ∀ d,SV F' d) (IH2 : ∀ d',d' < dex → SV F d') :
  Calls Try.prog 161 #[.pointer (some ⟨g,0,none⟩),ve,vv] w (fun e w' => ∃ (v : Value) (x : List Int) (s1 : Nat) (c1 : Int),e = .returned v ∧ Chg [g] w w' ∧ BX w'.heap g [pp,.int .i64 ((n :Nat):Int),.int .i64 ((s1 :Nat):Int),.int .i64 c1] ∧ RN S (rdL rI) w'.heap v x ∧ Ser1 n x ∧ s1 ≤ 3000 ∧ (0 ≤ c1 ∧ c1 ≤ 9) ∧ RelV (go c0 (callV n (evC p n F) ex env s0)) x s1 c1) := by
 refine calls_mk [.pointer (some ⟨g,0,none⟩),ve,vv] 81 Try.func161 rfl rfl sM ?_
 have hE0 : Chg [g] w w := Chg.refl [g] w
 have hl_vv := henv.lenL
 unfold maxLen at hl_vv
 have hgl := hB0.lt
 have hwk := wk_call hwf hk
 have hk9 : ex.kind ≠ 9 := by omega
 have hkH := hidI hk
 clear hk
 have hdk := deep_kids ex
 refine wp_seq (wp_plain _ [0] rfl (lw_tvn 1 rfl (wp_seq (wp_plain _ [3,0] rfl (r_nil rV good_rV u24 ti25 zN fun v1 w1 hX1 hz1 hO1 => ?_)))))
 have hzs1:=hX1.size
 have hE1 : Chg [g] w w1 := hE0.ext hX1
 have hB0x1 := hB0.ext hX1
 obtain ⟨us1,F1,hb1⟩ := Bld.nil (S := S) (hO1.low (B' := w.heap.size) (Nat.le_refl _))
 refine lw_tvn 1 rfl (wp_seq (wp_seq (wp_plain _ [0] rfl (lw_tvn 1 rfl (wp_block ?_)))))
 refine c_loop (S := Nat × Value × List (List Int) × Nat × Int) (fun (⟨k,vo,xs,s9,c9⟩ : Nat × Value × List (List Int) × Nat × Int) => ([(7,vo),(8,(.int .i64 ((k :Nat):Int))),(0,(.pointer (some ⟨g,0,none⟩))),(1,ve),(2,vv)] : List (Nat × Value))) (fun (⟨k,vo,xs,s9,c9⟩ : Nat × Value × List (List Int) × Nat × Int) (W : World) => Chg [g] w W ∧ BX W.heap g [pp,.int .i64 ((n :Nat):Int),.int .i64 ((s9 :Nat):Int),.int .i64 c9] ∧ k ≤ ex.kids.length ∧ BldE 25 S w.heap.size W.heap vo xs ∧ xs.length = k ∧ SrE n xs ∧ s9 ≤ 3000 ∧ (0 ≤ c9 ∧ c9 ≤ 9) ∧ RelV (go c0 (evs n (evC p n F) (ex.kids.take k) env s0)) xs s9 c9) (fun (⟨k,vo,xs,s9,c9⟩ : Nat × Value × List (List Int) × Nat × Int) => ex.kids.length - k) (0,v1,([] : List (List Int)),s0,c0) ⟨rfl,rfl,rfl,rfl,rfl,trivial⟩ ⟨hE1,hB0x1,sD,(by exact ⟨_,_,by assumption⟩),(by rfl),(by intro j hj; simp at hj),oM,oM,(by exact all_start _ _ _ _ _ _)⟩ ?_
 clear hE0 hO1 hz1 hX1 hzs1 hE1
 rintro ⟨k,vo,xs,s9,c9⟩ ρ2 w2 ⟨hE2,hL2_0,hp2_0,hbld,hxl,hxs,hp2_4,hp2_5,hrl⟩
 have hzs2 : w.heap.size ≤ w2.heap.size := hE2.size
 have hq3 := hL2_0.lt
 obtain ⟨us5,F5,hbl4⟩ := hbld
 refine wp_seq (wp_seq (wp_plain _ [0,0,0,0,2,0,0] rfl (lw_tv 2 rfl (q_nilP (hex.isPtr) rfl zN ?_))))
 obtain ⟨cs6,hr6,hl6⟩ := RN.at (good_rEx _) hex
 obtain ⟨dd6,ve6,hd6,rfl,hx6⟩ := RX.of hr6
 have hln6 := hx6.rn.lenle
 unfold maxLen at hln6
 refine q_fldL (p := ve) 4 fd31_4 rfl (hl6 _ (hE2.sub (subS hgS))) zN (q_load (p := (padd ve 4)) (.inr rfl) ve6 one29 rfl ((hl6 _ (hE2.sub (subS hgS))).ld (i := 4) z161_1) zN (q_len (v := ve6) u29 rfl hx6.rn.isSl zN ?_))
 by_cases hc7 : ((k :Nat):Int) < ((ex.kids.length :Nat):Int)
 ·
  refine q_lss true rfl rfl (decide_eq_true hc7) zN (lw_nil (c_cond_t rfl (wp_skip (wp_seq (wp_block (wp_plain _ [0,0,0,0,0,2,0,0,0,4,3,4,0] rfl ?_))))))
  have hvo := hvp.outs (ex.num).toNat oM
  have hvr := hvp.par (ex.num).toNat oM
  have hkd := kd_at (l := ex.kids) (k := k) oM
  have hkb : ex.kids.length ≤ 412 := by omega
  refine lw_tv 3 rfl (q_nilP (hex.isPtr) rfl zN (q_fldL (p := ve) 4 fd31_4 rfl (hl6 _ (hE2.sub (subS hgS))) zN (q_load (p := (padd ve 4)) (.inr rfl) ve6 one29 rfl ((hl6 _ (hE2.sub (subS hgS))).ld (i := 4) z161_1) zN (lw_tv 1 rfl (q_idx (v := ve6) k u29 tiS31 rfl rfl hx6.rn.isSl rfl sD zN (lw_tv 1 rfl ?_))))))
  refine lw_callE 144 [] [] [(.pointer (some ⟨g,0,none⟩)),(eptr ve6 k 5),vv] rfl rfl cf144 zN (IH2 dd6 oM _ (S ++ F5) g pp dp (n) (s9) (c9) (p) (eptr ve6 k 5) (ex.kids.getD k Ex.zero) vv (env) (fun b hb => (by rcases List.mem_append.1 hb with hb | hb; (have := hS b hb; omega); exact hbl4.lt b hb : b < w2.heap.size)) (List.mem_append_left _ hgS) hL2_0 ((hp.add (F := F5) (good_rP (good_rPr dp)) hbl4.low).chg (good_rP (good_rPr dp)) (hE2.sub (subA hgS))) oM oM oM (RN.ptr (good_rEx dd6) (by decide) Ex.zero ((hx6.rn.add (F := F5) (good_rdS (good_rEx dd6)) hbl4.low).chg (good_rdS (good_rEx dd6)) (hE2.sub (subA hgS))) sD) ((henv.add (F := F5) g2 hbl4.low).chg g2 (hE2.sub (subA hgS))) hqenv (by exact hvp) oM (by exact wf_at0 hwf oM oM) (by exact hse) oM) ?_
  rintro e8 w8 ⟨v8,x8,s8,c8,rfl,hC8,hB8,hr8,hse8,hsb8,hcb8,hrl8⟩
  refine ⟨_,rfl,?_⟩
  have hzs8:=hC8.size
  have hE8 : Chg [g] w w8 := hE2.trans hC8
  have hF12 := hbl4.run hgS oM hC8
  have hsn8 := hse8.1
  replace hr8 : RN (S ++ F5) (rdL rI) w8.heap v8 x8 := hr8
  refine r_one (u := v8) (B := w8.heap.size) good_rV u24 ti25 rfl rfl (frV w8.heap.size w8.heap.size _ (hr8.one1 g1)) (Nat.le_refl _) zN fun v14 w14 hX14 hz14 hO14 => ?_
  have hzs14:=hX14.size
  have hE14 : Chg [g] w w14 := hE8.ext hX14
  have hB8x14 := hB8.ext hX14
  have hN15 := hF12.ext hX14
  have hN16 := hr8.ext g1 hX14
  refine e_appB (v := vo) (a := v14) (u := v8) u24 ti25 rfl rfl rfl hN15 oM hO14 hN16 sD (by unfold maxLen; first | omega | assumption | (simp; done) | (simp; omega)) zN ?_
  rintro v17 w17 G17 hC17 hF17 ⟨us17,F17,hb17⟩
  have hzs17:=hC17.size
  have hE17 : Chg [g] w w17 := hE14.fresh hC17 (fun c hc => hN15.low c (hF17 c hc))
  have hF18 := hB8x14.chg hC17 (fun hm => by have := hN15.low _ (hF17 _ hm); have := hN15.lt _ (hF17 _ hm); omega)
  refine lw_tvn 1 rfl (wp_plain _ [0,0,0] rfl (lw_tv 1 rfl (q_add ((k + 1 :Nat):Int) rfl rfl (w64n oM sD) zN (lw_tvn 1 rfl ?_))))
  exact ⟨((k + 1),v17,(xs ++ [x8]),s8,c8),_,rfl,⟨rfl,rfl,rfl,rfl,rfl,trivial⟩,⟨hE17,hF18,sD,(by exact ⟨_,_,by assumption⟩),(by rw [List.length_append,List.length_singleton,hxl]),(by exact SrE.snoc hxs (by assumption)),oM,oM,(by exact rel_snoc oM hrl (by assumption))⟩,by first | omega | (dsimp only; omega)⟩
 ·
  refine q_lss false rfl rfl (decide_eq_false hc7) zN (lw_nil (c_cond_f rfl (wp_exit (t_exit (t_exit (c_exit_here (wp_seq (wp_draw _ [0,0,0,1,0,0,1,0,0,0,1,0,0] mixed (by kernel_rfl) ?_))))))))
  have hfn19 := hbl4.done hS
  have hfn19c := hbl4.cap
  have hvo := hvp.outs (ex.num).toNat oM
  have hvr := hvp.par (ex.num).toNat oM
  have hxk : xs.length = ex.kids.length := by omega
  have hKr : RelV (go c0 (evs n (evC p n F) ex.kids env s0)) xs s9 c9 := by rw [List.take_of_length_le oM] at hrl; exact hrl
  refine lw_tv 1 rfl (q_nil rfl zN (q_fldP (p := (.pointer (some ⟨g,0,none⟩))) (b := g) (o := 0) 0 fd158_0 rfl rfl zN (q_load (p := (padd (.pointer (some ⟨g,0,none⟩)) 0)) (.inl rfl) pp one90 rfl (hL2_0.ldp (i := 0) sM) zN (q_nilP (hp.isPtr) rfl zN ?_))))
  obtain ⟨cs20,hr20,hl20⟩ := RN.at (good_rPr _) hp
  obtain ⟨ve20,rfl,hx20⟩ := RPr.of hr20
  have hln20 := hx20.lenle
  unfold maxLen at hln20
  refine q_fldL (p := pp) 0 fd37_0 rfl (hl20 _ (hE2.drew.sub (subS hgS))) zN (q_load (p := (padd pp 0)) (.inl rfl) ve20 one35 rfl ((hl20 _ (hE2.drew.sub (subS hgS))).ld (i := 0) z161_1) zN (lw_tv 1 rfl (q_nilP (hex.isPtr) rfl zN (q_fldL (p := ve) 1 fd31_1 rfl (hl6 _ (hE2.drew.sub (subS hgS))) zN (q_load (p := (padd ve 1)) (.inl rfl) (.int .i64 ex.num) one2 rfl ((hl6 _ (hE2.drew.sub (subS hgS))).ld (i := 1) z161_1) zN ?_)))))
  refine q_idx (v := ve20) ((ex.num).toNat) u35 tiS34 rfl rfl hx20.isSl oM sD zN (lw_tvn 1 rfl (wp_seq (wp_seq (wp_plain _ [0,0,0,2,0] rfl (lw_tv 1 rfl (q_nilP (hex.isPtr) rfl zN (q_fldL (p := ve) 0 fd31_0 rfl (hl6 _ (hE2.drew.sub (subS hgS))) zN (q_load (p := (padd ve 0)) (.inr rfl) (.int .i64 ex.kind) one2 rfl ((hl6 _ (hE2.drew.sub (subS hgS))).ld (i := 0) z161_1) zN ?_))))))))
  by_cases hc21 : ex.kind = ((10 :Nat):Int)
  ·
   refine q_eql true rfl rfl (decide_eq_true hc21) zN (lw_nil (c_cond_t rfl (wp_seq (wp_draw _ [0,0,0,0,1,0,0,0,1,0,0,4,0] mixed (by kernel_rfl) (lw_tv 2 rfl ?_)))))
   have hvd := hvp.deep (ex.num).toNat oM (ex.pick).toNat oM
   refine q_nilP (RN.isPtr (RN.ptr (good_rFn dp) (by decide) Fn.zero hx20 sD)) rfl zN ?_
   obtain ⟨cs22,hr22,hl22⟩ := hx20.get (good_rFn dp) Fn.zero (k := ((ex.num).toNat)) sD
   obtain ⟨ve22,rfl,hx22⟩ := RF.of hr22
   have hln22 := hx22.rn.lenle
   unfold maxLen at hln22
   refine q_fldL (p := eptr ve20 ((ex.num).toNat) 3) 2 fd34_2 rfl (hl22 _ (hE2.drew.drew.sub (subS hgS))) zN (q_load (p := (padd (eptr ve20 ((ex.num).toNat) 3) 2)) (.inl rfl) ve22 one29 rfl ((hl22 _ (hE2.drew.drew.sub (subS hgS))).ld (i := 2) z161_1) zN (lw_tv 1 rfl (q_nilP (hex.isPtr) rfl zN (q_fldL (p := ve) 2 fd31_2 rfl (hl6 _ (hE2.drew.drew.sub (subS hgS))) zN (q_load (p := (padd ve 2)) (.inl rfl) (.int .i64 ex.pick) one2 rfl ((hl6 _ (hE2.drew.drew.sub (subS hgS))).ld (i := 2) z161_1) zN ?_)))))
   refine q_idx (v := ve22) ((ex.pick).toNat) u29 tiS31 rfl rfl hx22.rn.isSl oM sD zN (lw_tv 1 rfl ?_)
   refine lw_callE 144 [] [] [(.pointer (some ⟨g,0,none⟩)),(eptr ve22 ((ex.pick).toNat) 5),vo] rfl rfl cf144 zN (IH1 (ex.num).toNat oM dp _ S g pp dp (n) (s9) (c9) (p) (eptr ve22 ((ex.pick).toNat) 5) (((p.getD ((ex.num).toNat) Fn.zero).outs).getD ((ex.pick).toNat) Ex.zero) vo (xs) (fun b hb => (by have := hS b hb; omega : b < w2.heap.size)) hgS hL2_0 (hp.chg (good_rP (good_rPr dp)) (hE2.drew.drew.sub (subS hgS))) oM oM oM (RN.ptr (good_rEx dp) (by decide) Ex.zero (hx22.rn.chg (good_rdS (good_rEx dp)) (hE2.drew.drew.sub (subS hgS))) sD) hfn19 hfn19c (by exact hvp) oM (by have h9 := hvp.wf (ex.num).toNat oM (ex.pick).toNat oM; rw [show ((xs.length :Nat):Int) = (p.getD (ex.num).toNat Fn.zero).params from by omega]; exact h9) (by exact hxs) oM) ?_
   rintro e23 w23 ⟨v23,x23,s23,c23,rfl,hC23,hB23,hr23,hse23,hsb23,hcb23,hrl23⟩
   refine ⟨_,rfl,?_⟩
   replace hC23 := hC23.of_drew
   replace hC23 := hC23.of_drew
   have hzs23:=hC23.size
   have hE23 : Chg [g] w w23 := hE2.trans hC23
   have hF27 := hfn19.run g2 hgS hC23
   have hsn23 := hse23.1
   exact lw_tvn 1 rfl (wp_ret (t_ret (post_ret [6] rfl v23 rfl ⟨v23,x23,s23,c23,rfl,hE23,hB23,hr23,(by first | assumption | exact hks _ oM),oM,oM,z161_0⟩)))
  ·
   refine q_eql false rfl rfl (decide_eq_false hc21) zN (lw_nil (c_cond_f rfl (wp_skip (wp_seq (wp_seq (wp_plain _ [0] rfl ?_))))))
   have hk11 : ex.kind = 11 := by have h9 : ex.kind = 10 ∨ ex.kind = 11 := hkH; omega
   have hwl := wk_loop hwf hk11
   refine lw_tvn 1 rfl (wp_block ?_)
   refine c_loop (S := Nat × Value × List (List Int) × Nat × Int) (fun (⟨i,vk,ks,s8,c8⟩ : Nat × Value × List (List Int) × Nat × Int) => ([(7,vk),(10,(.int .i64 ((i :Nat):Int))),(0,(.pointer (some ⟨g,0,none⟩))),(1,ve),(9,(eptr ve20 ((ex.num).toNat) 3))] : List (Nat × Value))) (fun (⟨i,vk,ks,s8,c8⟩ : Nat × Value × List (List Int) × Nat × Int) (W : World) => Chg [g] w W ∧ BX W.heap g [pp,.int .i64 ((n :Nat):Int),.int .i64 ((s8 :Nat):Int),.int .i64 c8] ∧ i ≤ (ex.count).toNat ∧ RN S (rdL (rdL rI)) W.heap vk ks ∧ CapS vk ∧ ks.length = (p.getD (ex.num).toNat Fn.zero).outs.length ∧ SrE n ks ∧ s8 ≤ 3000 ∧ (0 ≤ c8 ∧ c8 ≤ 9) ∧ RelV (go c9 (lop (fun a t => evs n (evC p n (ex.num).toNat) (p.getD (ex.num).toNat Fn.zero).outs a t) i xs s9)) ks s8 c8) (fun (⟨i,vk,ks,s8,c8⟩ : Nat × Value × List (List Int) × Nat × Int) => (ex.count).toNat - i) (0,vo,xs,s9,c9) ⟨rfl,rfl,rfl,rfl,rfl,trivial⟩ ⟨hE2.drew,hL2_0,oM,(by assumption),(by assumption),oM,(by assumption),oM,oM,(by exact rel_lop0 rfl)⟩ ?_
   clear hL2_0 hE2 hzs2 hln6 hln20
   rintro ⟨i,vk,ks,s8,c8⟩ ρ31 w31 ⟨hE31,hL31_0,hp31_0,hrk,hck,hkl,hks,hp31_5,hp31_6,hrl9⟩
   have hzs31 : w.heap.size ≤ w31.heap.size := hE31.size
   have hq32 := hL31_0.lt
   refine wp_seq (wp_seq (wp_plain _ [0,0,0,0,2,0] rfl (lw_tv 2 rfl (q_nilP (hex.isPtr) rfl zN (q_fldL (p := ve) 3 fd31_3 rfl (hl6 _ (hE31.sub (subS hgS))) zN (q_load (p := (padd ve 3)) (.inr rfl) (.int .i64 ex.count) one2 rfl ((hl6 _ (hE31.sub (subS hgS))).ld (i := 3) z161_1) zN ?_))))))
   by_cases hc33 : ((i :Nat):Int) < ex.count
   ·
    refine q_lss true rfl rfl (decide_eq_true hc33) zN (lw_nil (c_cond_t rfl (wp_skip (wp_seq (wp_block (wp_plain _ [0,0,0,4,0] rfl (lw_tv 3 rfl ?_)))))))
    refine lw_callE 125 [] [] [(.pointer (some ⟨g,0,none⟩)),(eptr ve20 ((ex.num).toNat) 3),vk] rfl rfl cf125 zN (c_outs (ex.num).toNat (fun d9 => IH1 (ex.num).toNat oM d9) _ S g pp dp (n) (s8) (c8) (p) dp (eptr ve20 ((ex.num).toNat) 3) (p.getD ((ex.num).toNat) Fn.zero) vk (ks) (fun b hb => (by have := hS b hb; omega : b < w31.heap.size)) hgS hL31_0 (hp.chg (good_rP (good_rPr dp)) (hE31.sub (subS hgS))) oM oM oM (RN.ptr (good_rFn dp) (by decide) Fn.zero (hx20.chg (good_rdS (good_rFn dp)) (hE31.sub (subS hgS))) sD) hrk hck (by exact hvp) oM (by intro k9 hk9; have h9 := hvp.wf (ex.num).toNat oM k9 hk9; rw [show ((ks.length :Nat):Int) = (p.getD (ex.num).toNat Fn.zero).params from by omega]; exact h9) (by exact hks) (by intro k9 hk9; have := hvp.deep (ex.num).toNat oM k9 hk9; omega) oM) ?_
    rintro e34 w34 ⟨v34,x34,s34,c34,rfl,hC34,hB34,hr34,hse34,hsb34,hcb34,hrl34⟩
    refine ⟨_,rfl,?_⟩
    have hzs34:=hC34.size
    have hE34 : Chg [g] w w34 := hE31.trans hC34
    have hF40 := hrk.run g2 hgS hC34
    have hsn34 := hse34.2.1
    have hsr34 := hse34.2.2
    have hcp34 := hse34.1
    exact lw_tvn 1 rfl (wp_plain _ [0,0,0] rfl (lw_tv 1 rfl (q_add ((i + 1 :Nat):Int) rfl rfl (w64n oM oM) zN (lw_tvn 1 rfl ⟨((i + 1),v34,x34,s34,c34),_,rfl,⟨rfl,rfl,rfl,rfl,rfl,trivial⟩,⟨hE34,hB34,oM,(by assumption),(by assumption),oM,(by assumption),oM,oM,(by exact rel_lop' hrl9 (by assumption))⟩,by first | omega | (dsimp only; omega)⟩))))
   ·
    refine q_lss false rfl rfl (decide_eq_false hc33) zN (lw_nil (c_cond_f rfl (wp_exit (t_exit (t_exit (c_exit_here (wp_seq (wp_plain _ [0,0,0,0,2,0,2,0] rfl (lw_tv 2 rfl (q_nilP (hex.isPtr) rfl zN (q_fldL (p := ve) 2 fd31_2 rfl (hl6 _ (hE31.sub (subS hgS))) zN (q_load (p := (padd ve 2)) (.inr rfl) (.int .i64 ex.pick) one2 rfl ((hl6 _ (hE31.sub (subS hgS))).ld (i := 2) z161_1) zN ?_))))))))))))
    refine q_idx (v := vk) ((ex.pick).toNat) u24 ti25 rfl rfl hrk.slL oM sD zN ?_
    obtain ⟨ue41,hl41,hr41⟩ := RN.getL (w := w31) g1 [] (k := (ex.pick).toNat) hrk sD
    have hln41 := hr41.lenL
    unfold maxLen at hln41
    exact q_load (p := eptr vk ((ex.pick).toNat) 1) (.inr rfl) ue41 one25 rfl (hl41 _ (Chg.refl _ _)) zN (lw_tvn 1 rfl (wp_ret (post_ret [6] rfl ue41 rfl ⟨ue41,ks.getD ((ex.pick).toNat) [],s8,c8,rfl,hE31,hL31_0,hr41,(by first | assumption | exact hks _ oM),oM,oM,z161_0⟩)))
end Go.Proofs.Ytnofbmdpabcjaaa
namespace Go.Proofs.Ytnofbmdpabcjaaa
open Go Go.RowKit
set_option linter.unusedVariables false
set_option linter.unusedSimpArgs false
set_option maxHeartbeats 4000000
set_option maxRecDepth 100000
attribute [local irreducible] LW
theorem c_call (F d : Nat) (IH1 : ∀ F',F' < F → ∀ d,SV F' d) (IH2 : ∀ d',d' < d → SV F d') : SC F d := by
 intro w S g pp dp n s0 c0 p ve ex vv env hS hgS hB0 hp hn hs0 hc0 hex henv hqenv hvp hF hwf hse hdp hk
 exact c_spec_l02Run_call w S F g pp dp n s0 c0 p d ve ex vv env hS hgS hB0 hp hn hs0 hc0 hex henv hqenv hvp hF hwf hse hdp hk IH1 IH2
theorem z144_0 {p : Prop} (h : p := by first | exact rel_if0 hc00 hs1 oM oM ‹RelV (go c0 (evE _ _ (ex.kids.getD 0 _) _ _)) _ _ _› oM (by assumption) | exact rel_if1 hc00 hs1 oM oM ‹RelV (go c0 (evE _ _ (ex.kids.getD 0 _) _ _)) _ _ _› oM (by assumption)) : p := h
theorem z144_1 {p : Prop} (h : p := by have := kd_at (l := ex.kids) (k := 0) oM; omega) : p := h
theorem z144_2 {p : Prop} (h : p := by exact wf_at0 hwf oM oM) : p := h
theorem z144_3 {p : Prop} (h : p := by simp [exC, fnC]) : p := h
theorem c_spec_l02Run_expr (w : World) (S : List Nat) (F : Nat) (g : Nat) (pp : Value) (dp n s0 : Nat) (c0 : Int) (p : List Fn) (dex : Nat) (ve : Value) (ex : Ex) (vv : Value) (env : List (List Int)) (hS : ∀ b ∈ S,b < w.heap.size) (hgS : g ∈ S) (hB0 : BX w.heap g [pp,.int .i64 ((n :Nat):Int),.int .i64 ((s0 :Nat):Int),.int .i64 c0]) (hp : RN S (rP (rPr dp)) w.heap pp p) (hn : 1 ≤ n ∧ n ≤ 13) (hs0 : s0 ≤ 3000) (hc0 : 0 ≤ c0 ∧ c0 ≤ 9) (hex : RN S (rP (rEx dex)) w.heap ve ex) (henv : RN S (rdL (rdL rI)) w.heap vv env) (hqenv : CapS vv) (hvp : VPr p) (hF : F ≤ p.length) (hwf : wf p ((F :Nat):Int) ex ((env.length :Nat):Int) = true) (hse : SrE n env) (hdp : env.length + ex.deep ≤ 1000000) (IH1 : ∀ F',F' < F → ∀ d,SV F' d) (IH2 : ∀ d',d' < dex → SV F d') :
  Calls Try.prog 144 #[.pointer (some ⟨g,0,none⟩),ve,vv] w (fun e w' => ∃ (v : Value) (x : List Int) (s1 : Nat) (c1 : Int),e = .returned v ∧ Chg [g] w w' ∧ BX w'.heap g [pp,.int .i64 ((n :Nat):Int),.int .i64 ((s1 :Nat):Int),.int .i64 c1] ∧ RN S (rdL rI) w'.heap v x ∧ Ser1 n x ∧ s1 ≤ 3000 ∧ (0 ≤ c1 ∧ c1 ≤ 9) ∧ RelV (go c0 (evE n (evC p n F) ex env s0)) x s1 c1) := by
 refine calls_mk [.pointer (some ⟨g,0,none⟩),ve,vv] 186 Try.func144 rfl rfl sM ?_
 have hE0 : Chg [g] w w := Chg.refl [g] w
 have hl_vv := henv.lenL
 unfold maxLen at hl_vv
 have hgl := hB0.lt
 have hdk := deep_kids ex
 refine wp_seq (wp_plain _ [0] rfl (lw_tvn 1 rfl (wp_seq (wp_seq (wp_plain _ [0,0,0,2,0] rfl (lw_tv 1 rfl (q_nil rfl zN (q_fldP (p := (.pointer (some ⟨g,0,none⟩))) (b := g) (o := 0) 3 fd158_3 rfl rfl zN (q_load (p := (padd (.pointer (some ⟨g,0,none⟩)) 3)) (.inr rfl) (.int .i64 c0) one2 rfl (hB0.ldp (i := 3) sM) zN ?_)))))))))
 by_cases hc1 : c0 ≠ ((0 :Nat):Int)
 ·
  refine q_neq true rfl rfl (decide_eq_true hc1) zN (lw_nil (c_cond_t rfl (wp_seq (wp_plain _ [0,0,0,0,2,4,0] rfl (lw_tv 2 rfl (q_nil rfl zN (q_fldP (p := (.pointer (some ⟨g,0,none⟩))) (b := g) (o := 0) 3 fd158_3 rfl rfl zN (q_load (p := (padd (.pointer (some ⟨g,0,none⟩)) 3)) (.inr rfl) (.int .i64 c0) one2 rfl (hB0.ldp (i := 3) sM) zN (lw_callE 158 [] [] [(.pointer (some ⟨g,0,none⟩)),(.int .i64 c0)] rfl rfl cf158 zN (c_spec_l02Run_fail _ S g pp dp (n) (s0) (c0) (p) (c0) (fun b hb => (by have := hS b hb; omega : b < w.heap.size)) hgS hB0 (hp.chg (good_rP (good_rPr dp)) (hE0.sub (subS hgS))) oM oM oM oM oM) ?_)))))))))
  rintro e2 w2 ⟨v2,x2,s2,c2,rfl,hC2,hB2,hr2,hse2,hsb2,hcb2,hrl2⟩
  refine ⟨_,rfl,?_⟩
  have hzs2:=hC2.size
  have hE2 : Chg [g] w w2 := hE0.trans hC2
  have hsn2 := hse2.1
  have hfs := hrl2.1
  have hff := hrl2.2
  exact lw_tvn 1 rfl (wp_ret (t_ret (post_ret [6] rfl v2 rfl ⟨v2,x2,s2,c2,rfl,hE2,hB2,hr2,(by assumption),oM,oM,(by rw [hff,if_neg oM]; exact rel_code oM)⟩)))
 ·
  refine q_neq false rfl rfl (decide_eq_false hc1) zN (lw_nil (c_cond_f rfl (wp_skip (wp_seq (wp_seq (wp_plain _ [0,0,0,2,0] rfl (lw_tv 1 rfl (q_nil rfl zN (q_fldP (p := (.pointer (some ⟨g,0,none⟩))) (b := g) (o := 0) 2 fd158_2 rfl rfl zN (q_load (p := (padd (.pointer (some ⟨g,0,none⟩)) 2)) (.inr rfl) (.int .i64 ((s0 :Nat):Int)) one2 rfl (hB0.ldp (i := 2) sM) zN ?_))))))))))
  by_cases hc6 : ((s0 :Nat):Int) = ((3000 :Nat):Int)
  ·
   refine q_eql true rfl rfl (decide_eq_true hc6) zN (lw_nil (c_cond_t rfl (wp_seq (wp_plain _ [0,4,0] rfl (lw_tv 1 rfl (lw_callE 158 [] [] [(.pointer (some ⟨g,0,none⟩)),(.int .i64 ((7 :Nat):Int))] rfl rfl cf158 zN (c_spec_l02Run_fail _ S g pp dp (n) (s0) (c0) (p) (((7 :Nat):Int)) (fun b hb => (by have := hS b hb; omega : b < w.heap.size)) hgS hB0 (hp.chg (good_rP (good_rPr dp)) (hE0.sub (subS hgS))) oM oM oM oM oM) ?_))))))
   rintro e7 w7 ⟨v7,x7,s7,c7,rfl,hC7,hB7,hr7,hse7,hsb7,hcb7,hrl7⟩
   refine ⟨_,rfl,?_⟩
   have hzs7:=hC7.size
   have hE7 : Chg [g] w w7 := hE0.trans hC7
   have hsn7 := hse7.1
   have hfs := hrl7.1
   have hff := hrl7.2
   exact lw_tvn 1 rfl (wp_ret (t_ret (post_ret [6] rfl v7 rfl ⟨v7,x7,s7,c7,rfl,hE7,hB7,hr7,(by assumption),oM,oM,(by rw [hff,if_pos oM]; exact rel_budget oM oM)⟩)))
  ·
   refine q_eql false rfl rfl (decide_eq_false hc6) zN (lw_nil (c_cond_f rfl (wp_skip (wp_seq (wp_plain _ [0,0,0,2,0,0,0,4] rfl (lw_tv 1 rfl (q_nil rfl zN (q_fldP (p := (.pointer (some ⟨g,0,none⟩))) (b := g) (o := 0) 2 fd158_2 rfl rfl zN (q_load (p := (padd (.pointer (some ⟨g,0,none⟩)) 2)) (.inr rfl) (.int .i64 ((s0 :Nat):Int)) one2 rfl (hB0.ldp (i := 2) sM) zN (q_add ((s0 + 1 :Nat):Int) rfl rfl (w64n oM oM) zN (q_nil rfl zN (q_fldP (p := (.pointer (some ⟨g,0,none⟩))) (b := g) (o := 0) 2 fd158_2 rfl rfl zN (e_setB (k := 2) (w := w) sz2 rfl rfl ⟨rfl,rfl⟩ hB0 sM zN fun w11 hC11 hz11 hB11 => ?_)))))))))))))
   replace hB11 : BX w11.heap g [pp,(.int .i64 ((n :Nat):Int)),(.int .i64 ((s0 + 1 :Nat):Int)),(.int .i64 c0)] := hB11
   have hE11 : Chg [g] w w11 := hE0.trans hC11
   have hzs11:=hC11.size
   refine lw_nil (wp_seq (wp_seq (wp_plain _ [0,0,0,2] rfl ?_)))
   have hc00 : c0 = 0 := by omega
   have hs1 : s0 + 1 ≤ 3000 := by omega
   refine lw_tv 1 rfl (q_nilP (hex.isPtr) rfl zN ?_)
   obtain ⟨cs12,hr12,hl12⟩ := RN.at (good_rEx _) hex
   obtain ⟨dd12,ve12,hd12,rfl,hx12⟩ := RX.of hr12
   have hln12 := hx12.rn.lenle
   unfold maxLen at hln12
   refine q_fldL (p := ve) 0 fd31_0 rfl (hl12 _ (hE11.sub (subS hgS))) zN (q_load (p := (padd ve 0)) (.inr rfl) (.int .i64 ex.kind) one2 rfl ((hl12 _ (hE11.sub (subS hgS))).ld (i := 0) z144_3) zN (lw_nil (wp_block (wp_seq (wp_plain _ [0,0] rfl ?_)))))
   by_cases hc13 : ex.kind = ((1 :Nat):Int)
   ·
    refine q_eql true rfl rfl (decide_eq_true hc13) zN (lw_tvn 1 rfl (c_cond_t rfl (wp_seq (wp_draw _ [0,0,0,1,0,0,0,1,3,0] mixed (by kernel_rfl) ?_))))
    have hwk := wk_num hwf oM
    refine lw_tv 1 rfl (q_nilP (hex.isPtr) rfl zN (q_fldL (p := ve) 1 fd31_1 rfl (hl12 _ (hE11.drew.sub (subS hgS))) zN (q_load (p := (padd ve 1)) (.inl rfl) (.int .i64 ex.num) one2 rfl ((hl12 _ (hE11.drew.sub (subS hgS))).ld (i := 1) z144_3) zN (lw_tv 1 rfl (q_nil rfl zN (q_fldP (p := (.pointer (some ⟨g,0,none⟩))) (b := g) (o := 0) 1 fd158_1 rfl rfl zN (q_load (p := (padd (.pointer (some ⟨g,0,none⟩)) 1)) (.inl rfl) (.int .i64 ((n :Nat):Int)) one3 rfl (hB11.ldp (i := 1) sM) zN ?_)))))))
    refine lw_call 159 [] [] [(.int .i64 ex.num),(.int .i64 ((n :Nat):Int))] rfl rfl cf159 zN (c_spec_l01Const _ _ (n) hx12.rng.num sD oM) ?_
    rintro e14 w14 ⟨v14_0,rfl,hX14,hO14_0⟩
    refine ⟨_,rfl,hX14,?_⟩
    replace hX14 := hX14.of_drew
    have hzs14:=hX14.size
    have hE14 : Chg [g] w w14 := hE11.ext hX14
    have hB11x14 := hB11.ext hX14
    replace hO14_0 := hO14_0.low (B' := w11.heap.size) (Nat.le_refl _)
    exact lw_tvn 1 rfl (wp_ret (b_ret (t_ret (post_ret [6] rfl v14_0 rfl ⟨v14_0,cst n ex.num,s0 + 1,c0,rfl,hE14,hB11x14,(RN.of_fr1 hO14_0 (fun b hb => by have := hS b hb; omega)),(by exact cst_ser (isN_iff.2 oM)),oM,oM,(by exact rel_num hc00 hs1 oM)⟩))))
   ·
    refine q_eql false rfl rfl (decide_eq_false hc13) zN (lw_tvn 1 rfl (c_cond_f rfl (wp_seq (wp_plain _ [0,0] rfl ?_))))
    by_cases hc15 : ex.kind = ((2 :Nat):Int)
    ·
     refine q_eql true rfl rfl (decide_eq_true hc15) zN (lw_tvn 1 rfl (c_cond_t rfl (wp_seq (wp_plain _ [0,0,0,0,2,0,2,0] rfl ?_))))
     have hwk := wk_var hwf oM
     refine lw_tv 2 rfl (q_nilP (hex.isPtr) rfl zN (q_fldL (p := ve) 1 fd31_1 rfl (hl12 _ (hE11.sub (subS hgS))) zN (q_load (p := (padd ve 1)) (.inr rfl) (.int .i64 ex.num) one2 rfl ((hl12 _ (hE11.sub (subS hgS))).ld (i := 1) z144_3) zN (q_idx (v := vv) ((ex.num).toNat) u24 ti25 rfl rfl henv.slL oM sD zN ?_))))
     obtain ⟨ue16,hl16,hr16⟩ := RN.getL (w := w) g1 [] (k := (ex.num).toNat) henv sD
     have hln16 := hr16.lenL
     unfold maxLen at hln16
     exact q_load (p := eptr vv ((ex.num).toNat) 1) (.inr rfl) ue16 one25 rfl (hl16 _ (hE11.sub (subS hgS))) zN (lw_tvn 1 rfl (wp_ret (b_ret (t_ret (post_ret [6] rfl ue16 rfl ⟨ue16,env.getD ((ex.num).toNat) [],s0 + 1,c0,rfl,hE11,hB11,(hr16.chg g1 (hE11.sub (subS hgS))),(by exact hse _ oM),oM,oM,(by exact rel_var hc00 hs1 oM)⟩)))))
    ·
     refine q_eql false rfl rfl (decide_eq_false hc15) zN (lw_tvn 1 rfl (c_cond_f rfl (wp_seq (wp_plain _ [0,0] rfl ?_))))
     by_cases hc17 : ex.kind = ((7 :Nat):Int)
     ·
      refine q_eql true rfl rfl (decide_eq_true hc17) zN (lw_tvn 1 rfl (c_cond_t rfl (wp_seq (wp_plain _ [0,0,0,0,2,0,0,4,3,0] rfl ?_))))
      have hwk := wk_neg hwf oM
      refine lw_tv 2 rfl (q_nilP (hex.isPtr) rfl zN (q_fldL (p := ve) 4 fd31_4 rfl (hl12 _ (hE11.sub (subS hgS))) zN (q_load (p := (padd ve 4)) (.inr rfl) ve12 one29 rfl ((hl12 _ (hE11.sub (subS hgS))).ld (i := 4) z144_3) zN (q_idx (v := ve12) 0 u29 tiS31 rfl rfl hx12.rn.isSl rfl sD zN (lw_tv 1 rfl ?_)))))
      refine lw_callE 144 [] [] [(.pointer (some ⟨g,0,none⟩)),(eptr ve12 0 5),vv] rfl rfl cf144 zN (IH2 dd12 oM _ S g pp dp (n) (s0 + 1) (c0) (p) (eptr ve12 0 5) (ex.kids.getD 0 Ex.zero) vv (env) (fun b hb => (by have := hS b hb; omega : b < w11.heap.size)) hgS hB11 (hp.chg (good_rP (good_rPr dp)) (hE11.sub (subS hgS))) oM oM oM (RN.ptr (good_rEx dd12) (by decide) Ex.zero (hx12.rn.chg (good_rdS (good_rEx dd12)) (hE11.sub (subS hgS))) sD) (henv.chg g2 (hE11.sub (subS hgS))) hqenv (by exact hvp) oM z144_2 (by exact hse) z144_1) ?_
      rintro e18 w18 ⟨v18,x18,s18,c18,rfl,hC18,hB18,hr18,hse18,hsb18,hcb18,hrl18⟩
      refine ⟨_,rfl,?_⟩
      have hzs18:=hC18.size
      have hE18 : Chg [g] w w18 := hE11.trans hC18
      have hsn18 := hse18.1
      refine lw_call 46 [] [] [v18,(.int .i64 ((1000002 :Nat):Int))] rfl rfl cf46 zN (c_spec_l01Scale _ _ _ _ (hr18).rd oM oM) ?_
      rintro e23 w23 ⟨v23_0,rfl,hX23,hO23_0⟩
      refine ⟨_,rfl,hX23,?_⟩
      have hzs23:=hX23.size
      have hE23 : Chg [g] w w23 := hE18.ext hX23
      have hB18x23 := hB18.ext hX23
      have hN24 := hr18.ext g1 hX23
      exact lw_tvn 1 rfl (wp_ret (b_ret (t_ret (post_ret [6] rfl v23_0 rfl ⟨v23_0,scl x18 ((1000002 :Nat):Int),s18,c18,rfl,hE23,hB18x23,(RN.of_fr1 hO23_0 (fun b hb => by have := hS b hb; omega)),(by rw [scl_eq]; exact sclS_ser (by assumption)),oM,oM,(by exact rel_ops hc00 hs1 oM (rel_k1 oM ‹RelV (go c0 (evE _ _ (ex.kids.getD 0 _) _ _)) _ _ _›) (fun h0 => by rw [h0,scl_eq]; exact op_neg oM) (fun _ => rfl))⟩))))
     ·
      refine q_eql false rfl rfl (decide_eq_false hc17) zN (lw_tvn 1 rfl (c_cond_f rfl (wp_seq (wp_plain _ [0,0] rfl ?_))))
      by_cases hc25 : ex.kind = ((8 :Nat):Int)
      ·
       refine q_eql true rfl rfl (decide_eq_true hc25) zN (lw_tvn 1 rfl (c_cond_t rfl (wp_seq (wp_seq (wp_plain _ [0,0,0,0,2,0,0,4,0,2,0] rfl ?_)))))
       have hwk := wk_if hwf oM
       refine lw_tv 2 rfl (q_nilP (hex.isPtr) rfl zN (q_fldL (p := ve) 4 fd31_4 rfl (hl12 _ (hE11.sub (subS hgS))) zN (q_load (p := (padd ve 4)) (.inr rfl) ve12 one29 rfl ((hl12 _ (hE11.sub (subS hgS))).ld (i := 4) z144_3) zN (q_idx (v := ve12) 0 u29 tiS31 rfl rfl hx12.rn.isSl rfl sD zN (lw_tv 1 rfl ?_)))))
       refine lw_callE 144 [] [] [(.pointer (some ⟨g,0,none⟩)),(eptr ve12 0 5),vv] rfl rfl cf144 zN (IH2 dd12 oM _ S g pp dp (n) (s0 + 1) (c0) (p) (eptr ve12 0 5) (ex.kids.getD 0 Ex.zero) vv (env) (fun b hb => (by have := hS b hb; omega : b < w11.heap.size)) hgS hB11 (hp.chg (good_rP (good_rPr dp)) (hE11.sub (subS hgS))) oM oM oM (RN.ptr (good_rEx dd12) (by decide) Ex.zero (hx12.rn.chg (good_rdS (good_rEx dd12)) (hE11.sub (subS hgS))) sD) (henv.chg g2 (hE11.sub (subS hgS))) hqenv (by exact hvp) oM z144_2 (by exact hse) z144_1) ?_
       rintro e26 w26 ⟨v26,x26,s26,c26,rfl,hC26,hB26,hr26,hse26,hsb26,hcb26,hrl26⟩
       refine ⟨_,rfl,?_⟩
       have hzs26:=hC26.size
       have hE26 : Chg [g] w w26 := hE11.trans hC26
       have hsn26 := hse26.1
       refine q_idx (v := v26) 0 u25 ti2 rfl rfl hr26.slL rfl sD zN ?_
       have hg31 := RN.getI (w := w26) (k := 0) hr26 sD
       refine q_load (p := eptr v26 0 1) (.inr rfl) (.int .i64 (x26.getD 0 0)) one2 rfl (hg31.1 _ (Chg.refl _ _)) zN ?_
       by_cases hc32 : x26.getD 0 0 = ((0 :Nat):Int)
       ·
        refine q_eql true rfl rfl (decide_eq_true hc32) zN (lw_nil (c_cond_t rfl (wp_seq (wp_plain _ [0,0,0,0,2,0,0,4,0] rfl (lw_tv 2 rfl (q_nilP (hex.isPtr) rfl zN (q_fldL (p := ve) 4 fd31_4 rfl (hl12 _ (hE26.sub (subS hgS))) zN (q_load (p := (padd ve 4)) (.inr rfl) ve12 one29 rfl ((hl12 _ (hE26.sub (subS hgS))).ld (i := 4) z144_3) zN (q_idx (v := ve12) 1 u29 tiS31 rfl rfl hx12.rn.isSl rfl sD zN ?_)))))))))
        refine lw_tv 1 rfl ?_
        refine lw_callE 144 [] [] [(.pointer (some ⟨g,0,none⟩)),(eptr ve12 1 5),vv] rfl rfl cf144 zN (IH2 dd12 oM _ S g pp dp (n) (s26) (c26) (p) (eptr ve12 1 5) (ex.kids.getD 1 Ex.zero) vv (env) (fun b hb => (by have := hS b hb; omega : b < w26.heap.size)) hgS hB26 (hp.chg (good_rP (good_rPr dp)) (hE26.sub (subS hgS))) oM oM oM (RN.ptr (good_rEx dd12) (by decide) Ex.zero (hx12.rn.chg (good_rdS (good_rEx dd12)) (hE26.sub (subS hgS))) sD) (henv.chg g2 (hE26.sub (subS hgS))) hqenv (by exact hvp) oM z144_2 (by exact hse) (by have := kd_at (l := ex.kids) (k := 1) oM; omega)) ?_
        rintro e33 w33 ⟨v33,x33,s33,c33,rfl,hC33,hB33,hr33,hse33,hsb33,hcb33,hrl33⟩
        refine ⟨_,rfl,?_⟩
        have hzs33:=hC33.size
        have hE33 : Chg [g] w w33 := hE26.trans hC33
        have hF38 := hr26.run g1 hgS hC33
        have hsn33 := hse33.1
        exact lw_tvn 1 rfl (wp_ret (t_ret (b_ret (t_ret (post_ret [6] rfl v33 rfl ⟨v33,x33,s33,c33,rfl,hE33,hB33,hr33,(by assumption),oM,oM,z144_0⟩)))))
       ·
        refine q_eql false rfl rfl (decide_eq_false hc32) zN (lw_nil (c_cond_f rfl (wp_skip (wp_seq (wp_plain _ [0,0,0,0,2,0,0,4,0] rfl (lw_tv 2 rfl (q_nilP (hex.isPtr) rfl zN (q_fldL (p := ve) 4 fd31_4 rfl (hl12 _ (hE26.sub (subS hgS))) zN (q_load (p := (padd ve 4)) (.inr rfl) ve12 one29 rfl ((hl12 _ (hE26.sub (subS hgS))).ld (i := 4) z144_3) zN ?_)))))))))
        refine q_idx (v := ve12) 2 u29 tiS31 rfl rfl hx12.rn.isSl rfl sD zN (lw_tv 1 rfl ?_)
        refine lw_callE 144 [] [] [(.pointer (some ⟨g,0,none⟩)),(eptr ve12 2 5),vv] rfl rfl cf144 zN (IH2 dd12 oM _ S g pp dp (n) (s26) (c26) (p) (eptr ve12 2 5) (ex.kids.getD 2 Ex.zero) vv (env) (fun b hb => (by have := hS b hb; omega : b < w26.heap.size)) hgS hB26 (hp.chg (good_rP (good_rPr dp)) (hE26.sub (subS hgS))) oM oM oM (RN.ptr (good_rEx dd12) (by decide) Ex.zero (hx12.rn.chg (good_rdS (good_rEx dd12)) (hE26.sub (subS hgS))) sD) (henv.chg g2 (hE26.sub (subS hgS))) hqenv (by exact hvp) oM z144_2 (by exact hse) (by have := kd_at (l := ex.kids) (k := 2) oM; omega)) ?_
        rintro e39 w39 ⟨v39,x39,s39,c39,rfl,hC39,hB39,hr39,hse39,hsb39,hcb39,hrl39⟩
        refine ⟨_,rfl,?_⟩
        have hzs39:=hC39.size
        have hE39 : Chg [g] w w39 := hE26.trans hC39
        have hF44 := hr26.run g1 hgS hC39
        have hsn39 := hse39.1
        exact lw_tvn 1 rfl (wp_ret (b_ret (t_ret (post_ret [6] rfl v39 rfl ⟨v39,x39,s39,c39,rfl,hE39,hB39,hr39,(by assumption),oM,oM,z144_0⟩))))
      ·
       refine q_eql false rfl rfl (decide_eq_false hc25) zN (lw_tvn 1 rfl (c_cond_f rfl (wp_seq (wp_plain _ [0,0] rfl ?_))))
       by_cases hc45 : ex.kind = ((9 :Nat):Int)
       ·
        refine q_eql true rfl rfl (decide_eq_true hc45) zN (lw_tvn 1 rfl (c_cond_t rfl (wp_seq (wp_plain _ [0,0,0,0,2,0,0,4,0] rfl ?_))))
        have hwk := wk_let hwf oM
        refine lw_tv 2 rfl (q_nilP (hex.isPtr) rfl zN (q_fldL (p := ve) 4 fd31_4 rfl (hl12 _ (hE11.sub (subS hgS))) zN (q_load (p := (padd ve 4)) (.inr rfl) ve12 one29 rfl ((hl12 _ (hE11.sub (subS hgS))).ld (i := 4) z144_3) zN (q_idx (v := ve12) 0 u29 tiS31 rfl rfl hx12.rn.isSl rfl sD zN (lw_tv 1 rfl ?_)))))
        refine lw_callE 144 [] [] [(.pointer (some ⟨g,0,none⟩)),(eptr ve12 0 5),vv] rfl rfl cf144 zN (IH2 dd12 oM _ S g pp dp (n) (s0 + 1) (c0) (p) (eptr ve12 0 5) (ex.kids.getD 0 Ex.zero) vv (env) (fun b hb => (by have := hS b hb; omega : b < w11.heap.size)) hgS hB11 (hp.chg (good_rP (good_rPr dp)) (hE11.sub (subS hgS))) oM oM oM (RN.ptr (good_rEx dd12) (by decide) Ex.zero (hx12.rn.chg (good_rdS (good_rEx dd12)) (hE11.sub (subS hgS))) sD) (henv.chg g2 (hE11.sub (subS hgS))) hqenv (by exact hvp) oM z144_2 (by exact hse) z144_1) ?_
        rintro e46 w46 ⟨v46,x46,s46,c46,rfl,hC46,hB46,hr46,hse46,hsb46,hcb46,hrl46⟩
        refine ⟨_,rfl,?_⟩
        have hzs46:=hC46.size
        have hE46 : Chg [g] w w46 := hE11.trans hC46
        have hsn46 := hse46.1
        refine lw_tvn 1 rfl (wp_seq (wp_draw _ [0,0,0,0,1,0,0,0,3,4,0] mixed (by kernel_rfl) (lw_tv 2 rfl (q_nilP (hex.isPtr) rfl zN (q_fldL (p := ve) 4 fd31_4 rfl (hl12 _ (hE46.drew.sub (subS hgS))) zN (q_load (p := (padd ve 4)) (.inl rfl) ve12 one29 rfl ((hl12 _ (hE46.drew.sub (subS hgS))).ld (i := 4) z144_3) zN (q_idx (v := ve12) 1 u29 tiS31 rfl rfl hx12.rn.isSl rfl sD zN (lw_tv 2 rfl ?_))))))))
        refine lw_call 160 [] [] [vv,v46] rfl rfl cf160 zN (c_spec_l02Env _ S vv (env) v46 (x46) (fun b hb => (by have := hS b hb; omega : b < w46.heap.size)) (henv.chg g2 (hE46.drew.sub (subS hgS))) hqenv hr46 oM) ?_
        rintro e51 w51 ⟨v51,rfl,hX51,hr51,hcp51⟩
        refine ⟨_,rfl,hX51,?_⟩
        replace hX51 := hX51.of_drew
        have hzs51:=hX51.size
        have hE51 : Chg [g] w w51 := hE46.ext hX51
        have hB46x51 := hB46.ext hX51
        have hN52 := hr46.ext g1 hX51
        refine lw_callE 144 [] [] [(.pointer (some ⟨g,0,none⟩)),(eptr ve12 1 5),v51] rfl rfl cf144 zN (IH2 dd12 oM _ S g pp dp (n) (s46) (c46) (p) (eptr ve12 1 5) (ex.kids.getD 1 Ex.zero) v51 (env ++ [x46]) (fun b hb => (by have := hS b hb; omega : b < w51.heap.size)) hgS hB46x51 (hp.chg (good_rP (good_rPr dp)) (hE51.sub (subS hgS))) oM oM oM (RN.ptr (good_rEx dd12) (by decide) Ex.zero (hx12.rn.chg (good_rdS (good_rEx dd12)) (hE51.sub (subS hgS))) sD) hr51 hcp51 (by exact hvp) oM (by have h9 := wf_at1 hwf oM oM; rw [List.length_append,List.length_singleton]; exact h9) (by exact hse.snoc (by assumption)) (by have := kd_at (l := ex.kids) (k := 1) oM; rw [List.length_append,List.length_singleton]; omega)) ?_
        rintro e53 w53 ⟨v53,x53,s53,c53,rfl,hC53,hB53,hr53,hse53,hsb53,hcb53,hrl53⟩
        refine ⟨_,rfl,?_⟩
        have hzs53:=hC53.size
        have hE53 : Chg [g] w w53 := hE51.trans hC53
        have hF58 := hN52.run g1 hgS hC53
        have hF59 := hr51.run g2 hgS hC53
        have hsn53 := hse53.1
        exact lw_tvn 1 rfl (wp_ret (b_ret (t_ret (post_ret [6] rfl v53 rfl ⟨v53,x53,s53,c53,rfl,hE53,hB53,hr53,(by assumption),oM,oM,(by exact rel_let hc00 hs1 oM oM ‹RelV (go c0 (evE _ _ (ex.kids.getD 0 _) _ _)) _ _ _› (by assumption))⟩))))
       ·
        refine q_eql false rfl rfl (decide_eq_false hc45) zN (lw_tvn 1 rfl (c_cond_f rfl (wp_seq (wp_seq (wp_plain _ [0,0] rfl ?_)))))
        by_cases hc60 : ex.kind = ((10 :Nat):Int)
        ·
         refine q_eql true rfl rfl (decide_eq_true hc60) zN (lw_tvn 1 rfl (c_cond_t rfl (wp_skip (c_cond_t rfl (wp_seq (wp_plain _ [0,0,0,4,0] rfl (lw_tv 3 rfl (lw_callE 161 [] [] [(.pointer (some ⟨g,0,none⟩)),ve,vv] rfl rfl cf161 zN (c_call F dex IH1 IH2 _ S g pp dp (n) (s0 + 1) (c0) (p) ve (ex) vv (env) (fun b hb => (by have := hS b hb; omega : b < w11.heap.size)) hgS hB11 (hp.chg (good_rP (good_rPr dp)) (hE11.sub (subS hgS))) oM oM oM (hex.chg (good_rP (good_rEx dex)) (hE11.sub (subS hgS))) (henv.chg g2 (hE11.sub (subS hgS))) hqenv (by exact hvp) oM (by exact hwf) (by exact hse) oM oM) ?_))))))))
         rintro e61 w61 ⟨v61,x61,s61,c61,rfl,hC61,hB61,hr61,hse61,hsb61,hcb61,hrl61⟩
         refine ⟨_,rfl,?_⟩
         have hzs61:=hC61.size
         have hE61 : Chg [g] w w61 := hE11.trans hC61
         have hsn61 := hse61.1
         exact lw_tvn 1 rfl (wp_ret (b_ret (t_ret (post_ret [6] rfl v61 rfl ⟨v61,x61,s61,c61,rfl,hE61,hB61,hr61,(by assumption),oM,oM,(by exact rel_callV hc00 hs1 oM (by assumption))⟩))))
        ·
         refine q_eql false rfl rfl (decide_eq_false hc60) zN (lw_tvn 1 rfl (c_cond_f rfl (wp_plain _ [0,0] rfl ?_)))
         by_cases hc66 : ex.kind = ((11 :Nat):Int)
         ·
          refine q_eql true rfl rfl (decide_eq_true hc66) zN (lw_tvn 1 rfl (c_cond_t rfl (wp_seq (wp_plain _ [0,0,0,4,0] rfl (lw_tv 3 rfl (lw_callE 161 [] [] [(.pointer (some ⟨g,0,none⟩)),ve,vv] rfl rfl cf161 zN (c_call F dex IH1 IH2 _ S g pp dp (n) (s0 + 1) (c0) (p) ve (ex) vv (env) (fun b hb => (by have := hS b hb; omega : b < w11.heap.size)) hgS hB11 (hp.chg (good_rP (good_rPr dp)) (hE11.sub (subS hgS))) oM oM oM (hex.chg (good_rP (good_rEx dex)) (hE11.sub (subS hgS))) (henv.chg g2 (hE11.sub (subS hgS))) hqenv (by exact hvp) oM (by exact hwf) (by exact hse) oM oM) ?_))))))
          rintro e67 w67 ⟨v67,x67,s67,c67,rfl,hC67,hB67,hr67,hse67,hsb67,hcb67,hrl67⟩
          refine ⟨_,rfl,?_⟩
          have hzs67:=hC67.size
          have hE67 : Chg [g] w w67 := hE11.trans hC67
          have hsn67 := hse67.1
          exact lw_tvn 1 rfl (wp_ret (b_ret (t_ret (post_ret [6] rfl v67 rfl ⟨v67,x67,s67,c67,rfl,hE67,hB67,hr67,(by assumption),oM,oM,(by exact rel_callV hc00 hs1 oM (by assumption))⟩))))
         ·
          refine q_eql false rfl rfl (decide_eq_false hc66) zN (lw_tvn 1 rfl (c_cond_f rfl (wp_skip (wp_seq (wp_plain _ [0,0,0,0,2,0,0,4,0] rfl ?_)))))
          have hkk : ex.kind = 3 ∨ ex.kind = 4 ∨ ex.kind = 5 ∨ ex.kind = 6 := wk_bin hwf oM
          have hk2 : ex.kids.length = 2 := wk_op2 hwf hkk
          have hd0 := kd_at (l := ex.kids) (k := 0) oM
          have hd1 := kd_at (l := ex.kids) (k := 1) oM
          refine lw_tv 2 rfl (q_nilP (hex.isPtr) rfl zN (q_fldL (p := ve) 4 fd31_4 rfl (hl12 _ (hE11.sub (subS hgS))) zN (q_load (p := (padd ve 4)) (.inr rfl) ve12 one29 rfl ((hl12 _ (hE11.sub (subS hgS))).ld (i := 4) z144_3) zN (q_idx (v := ve12) 0 u29 tiS31 rfl rfl hx12.rn.isSl rfl sD zN (lw_tv 1 rfl ?_)))))
          refine lw_callE 144 [] [] [(.pointer (some ⟨g,0,none⟩)),(eptr ve12 0 5),vv] rfl rfl cf144 zN (IH2 dd12 oM _ S g pp dp (n) (s0 + 1) (c0) (p) (eptr ve12 0 5) (ex.kids.getD 0 Ex.zero) vv (env) (fun b hb => (by have := hS b hb; omega : b < w11.heap.size)) hgS hB11 (hp.chg (good_rP (good_rPr dp)) (hE11.sub (subS hgS))) oM oM oM (RN.ptr (good_rEx dd12) (by decide) Ex.zero (hx12.rn.chg (good_rdS (good_rEx dd12)) (hE11.sub (subS hgS))) sD) (henv.chg g2 (hE11.sub (subS hgS))) hqenv (by exact hvp) oM z144_2 (by exact hse) z144_1) ?_
          rintro e72 w72 ⟨v72,x72,s72,c72,rfl,hC72,hB72,hr72,hse72,hsb72,hcb72,hrl72⟩
          refine ⟨_,rfl,?_⟩
          have hzs72:=hC72.size
          have hE72 : Chg [g] w w72 := hE11.trans hC72
          have hsn72 := hse72.1
          have hra := hrl72
          have ha1 := hse72
          refine lw_tvn 1 rfl (wp_seq (wp_plain _ [0,0,0,0,2,0,0,4,0] rfl (lw_tv 2 rfl (q_nilP (hex.isPtr) rfl zN (q_fldL (p := ve) 4 fd31_4 rfl (hl12 _ (hE72.sub (subS hgS))) zN (q_load (p := (padd ve 4)) (.inr rfl) ve12 one29 rfl ((hl12 _ (hE72.sub (subS hgS))).ld (i := 4) z144_3) zN (q_idx (v := ve12) 1 u29 tiS31 rfl rfl hx12.rn.isSl rfl sD zN (lw_tv 1 rfl ?_))))))))
          refine lw_callE 144 [] [] [(.pointer (some ⟨g,0,none⟩)),(eptr ve12 1 5),vv] rfl rfl cf144 zN (IH2 dd12 oM _ S g pp dp (n) (s72) (c72) (p) (eptr ve12 1 5) (ex.kids.getD 1 Ex.zero) vv (env) (fun b hb => (by have := hS b hb; omega : b < w72.heap.size)) hgS hB72 (hp.chg (good_rP (good_rPr dp)) (hE72.sub (subS hgS))) oM oM oM (RN.ptr (good_rEx dd12) (by decide) Ex.zero (hx12.rn.chg (good_rdS (good_rEx dd12)) (hE72.sub (subS hgS))) sD) (henv.chg g2 (hE72.sub (subS hgS))) hqenv (by exact hvp) oM z144_2 (by exact hse) (by have := kd_at (l := ex.kids) (k := 1) oM; omega)) ?_
          rintro e77 w77 ⟨v77,x77,s77,c77,rfl,hC77,hB77,hr77,hse77,hsb77,hcb77,hrl77⟩
          refine ⟨_,rfl,?_⟩
          have hzs77:=hC77.size
          have hE77 : Chg [g] w w77 := hE72.trans hC77
          have hF82 := hr72.run g1 hgS hC77
          have hsn77 := hse77.1
          have hrb := hrl77
          have hb1 := hse77
          have hlb := hsn77
          have hzz : x77.getD 0 0 = 0 ∨ ¬ x77.getD 0 0 = 0 := Decidable.em _
          refine lw_tvn 1 rfl (wp_seq (wp_block (wp_seq (wp_plain _ [0,0,0,2,0,0] rfl (lw_tv 1 rfl (q_nilP (hex.isPtr) rfl zN (q_fldL (p := ve) 0 fd31_0 rfl (hl12 _ (hE77.sub (subS hgS))) zN (q_load (p := (padd ve 0)) (.inr rfl) (.int .i64 ex.kind) one2 rfl ((hl12 _ (hE77.sub (subS hgS))).ld (i := 0) z144_3) zN ?_))))))))
          by_cases hc83 : ex.kind = ((3 :Nat):Int)
          ·
           refine q_eql true rfl rfl (decide_eq_true hc83) zN (lw_tvn 1 rfl (c_cond_t rfl (wp_seq (wp_plain _ [0,0,3,0] rfl (lw_tv 2 rfl (lw_call 162 [] [] [v72,v77] rfl rfl cf162 zN (c_spec_l01Add _ _ _ _ _ (hF82).rd (hr77).rd oM oM) ?_))))))
           rintro e84 w84 ⟨v84_0,rfl,hX84,hO84_0⟩
           refine ⟨_,rfl,hX84,?_⟩
           have hzs84:=hX84.size
           have hE84 : Chg [g] w w84 := hE77.ext hX84
           have hB77x84 := hB77.ext hX84
           have hN85 := hF82.ext g1 hX84
           have hN86 := hr77.ext g1 hX84
           exact lw_tvn 1 rfl (wp_ret (b_ret (t_ret (post_ret [6] rfl v84_0 rfl ⟨v84_0,addS x72 x77,s77,c77,rfl,hE84,hB77x84,(RN.of_fr1 hO84_0 (fun b hb => by have := hS b hb; omega)),(by exact addS_ser ha1),oM,oM,(by exact rel_ops hc00 hs1 oM (rel_k2 oM hra hrb) (fun h0 => by rw [h0]; exact op_add oM) (fun _ => rfl))⟩))))
          ·
           refine q_eql false rfl rfl (decide_eq_false hc83) zN (lw_tvn 1 rfl (c_cond_f rfl (wp_seq (wp_plain _ [0,0,0,2,0,0] rfl (lw_tv 1 rfl (q_nilP (hex.isPtr) rfl zN (q_fldL (p := ve) 0 fd31_0 rfl (hl12 _ (hE77.sub (subS hgS))) zN (q_load (p := (padd ve 0)) (.inr rfl) (.int .i64 ex.kind) one2 rfl ((hl12 _ (hE77.sub (subS hgS))).ld (i := 0) z144_3) zN ?_))))))))
           by_cases hc87 : ex.kind = ((4 :Nat):Int)
           ·
            refine q_eql true rfl rfl (decide_eq_true hc87) zN (lw_tvn 1 rfl (c_cond_t rfl (wp_seq (wp_plain _ [0,0,3,0] rfl (lw_tv 2 rfl (lw_call 163 [] [] [v72,v77] rfl rfl cf163 zN (c_spec_l01Sub _ _ _ _ _ (hF82).rd (hr77).rd oM oM oM) ?_))))))
            rintro e88 w88 ⟨v88_0,rfl,hX88,hO88_0⟩
            refine ⟨_,rfl,hX88,?_⟩
            have hzs88:=hX88.size
            have hE88 : Chg [g] w w88 := hE77.ext hX88
            have hB77x88 := hB77.ext hX88
            have hN89 := hF82.ext g1 hX88
            have hN90 := hr77.ext g1 hX88
            exact lw_tvn 1 rfl (wp_ret (b_ret (t_ret (post_ret [6] rfl v88_0 rfl ⟨v88_0,redS x72 x77,s77,c77,rfl,hE88,hB77x88,(RN.of_fr1 hO88_0 (fun b hb => by have := hS b hb; omega)),(by exact redS_ser ha1),oM,oM,(by exact rel_ops hc00 hs1 oM (rel_k2 oM hra hrb) (fun h0 => by rw [h0]; exact op_sub oM) (fun _ => rfl))⟩))))
           ·
            refine q_eql false rfl rfl (decide_eq_false hc87) zN (lw_tvn 1 rfl (c_cond_f rfl (wp_seq (wp_plain _ [0,0,0,2,0,0] rfl (lw_tv 1 rfl (q_nilP (hex.isPtr) rfl zN (q_fldL (p := ve) 0 fd31_0 rfl (hl12 _ (hE77.sub (subS hgS))) zN (q_load (p := (padd ve 0)) (.inr rfl) (.int .i64 ex.kind) one2 rfl ((hl12 _ (hE77.sub (subS hgS))).ld (i := 0) z144_3) zN ?_))))))))
            by_cases hc91 : ex.kind = ((5 :Nat):Int)
            ·
             refine q_eql true rfl rfl (decide_eq_true hc91) zN (lw_tvn 1 rfl (c_cond_t rfl (wp_seq (wp_plain _ [0,0,3,0] rfl (lw_tv 2 rfl (lw_call 164 [] [] [v72,v77] rfl rfl cf164 zN (c_spec_l01Mul _ _ _ _ _ (hF82).rd (hr77).rd oM oM) ?_))))))
             rintro e92 w92 ⟨v92_0,rfl,hX92,hO92_0⟩
             refine ⟨_,rfl,hX92,?_⟩
             have hzs92:=hX92.size
             have hE92 : Chg [g] w w92 := hE77.ext hX92
             have hB77x92 := hB77.ext hX92
             have hN93 := hF82.ext g1 hX92
             have hN94 := hr77.ext g1 hX92
             exact lw_tvn 1 rfl (wp_ret (b_ret (t_ret (post_ret [6] rfl v92_0 rfl ⟨v92_0,proS x72 x77,s77,c77,rfl,hE92,hB77x92,(RN.of_fr1 hO92_0 (fun b hb => by have := hS b hb; omega)),(by exact proS_ser ha1),oM,oM,(by exact rel_ops hc00 hs1 oM (rel_k2 oM hra hrb) (fun h0 => by rw [h0]; exact op_mul oM) (fun _ => rfl))⟩))))
            ·
             refine q_eql false rfl rfl (decide_eq_false hc91) zN (lw_tvn 1 rfl (c_cond_f rfl (wp_seq (wp_plain _ [0,0,0,2,0,0,0,0,2,0,0,0] rfl (lw_tv 1 rfl (q_nil rfl zN (q_fldP (p := (.pointer (some ⟨g,0,none⟩))) (b := g) (o := 0) 3 fd158_3 rfl rfl zN (q_load (p := (padd (.pointer (some ⟨g,0,none⟩)) 3)) (.inr rfl) (.int .i64 c77) one2 rfl (hB77.ldp (i := 3) sM) zN ?_))))))))
             by_cases hc95 : c77 ≠ ((0 :Nat):Int)
             ·
              refine q_neq true rfl rfl (decide_eq_true hc95) zN (lw_tvn 7 rfl (c_cond_t rfl (wp_seq (wp_plain _ [0,4,0] rfl (lw_tv 1 rfl (lw_callE 158 [] [] [(.pointer (some ⟨g,0,none⟩)),(.int .i64 ((6 :Nat):Int))] rfl rfl cf158 zN (c_spec_l02Run_fail _ S g pp dp (n) (s77) (c77) (p) (((6 :Nat):Int)) (fun b hb => (by have := hS b hb; omega : b < w77.heap.size)) hgS hB77 (hp.chg (good_rP (good_rPr dp)) (hE77.sub (subS hgS))) oM oM oM oM oM) ?_))))))
              rintro e96 w96 ⟨v96,x96,s96,c96,rfl,hC96,hB96,hr96,hse96,hsb96,hcb96,hrl96⟩
              refine ⟨_,rfl,?_⟩
              have hzs96:=hC96.size
              have hE96 : Chg [g] w w96 := hE77.trans hC96
              have hF101 := hF82.run g1 hgS hC96
              have hF102 := hr77.run g1 hgS hC96
              have hsn96 := hse96.1
              have hfs := hrl96.1
              have hff := hrl96.2
              exact lw_tvn 1 rfl (wp_ret (b_ret (t_ret (post_ret [6] rfl v96 rfl ⟨v96,x96,s96,c96,rfl,hE96,hB96,hr96,(by assumption),oM,oM,(by rw [hfs]; exact rel_ops hc00 hs1 oM (rel_k2 oM hra hrb) (fun h0 => absurd h0 oM) (fun h0 => by rw [hff,if_neg h0]))⟩))))
             ·
              refine q_neq false rfl rfl (decide_eq_false hc95) zN (lw_tv 2 rfl (q_idx (v := v77) 0 u25 ti2 rfl rfl hr77.slL rfl (by rw [hlb]; omega) (zS (e := 175) rfl rfl rfl) ?_))
              have hg103 := RN.getI (w := w77) (k := 0) hr77 (by rw [hlb]; omega)
              refine q_load (p := eptr v77 0 1) (.inr rfl) (.int .i64 (x77.getD 0 0)) one2 rfl (hg103.1 _ (Chg.refl _ _)) (zS (e := 175) rfl rfl rfl) ?_
              by_cases hc104 : x77.getD 0 0 = ((0 :Nat):Int)
              ·
               refine q_eql true rfl rfl (decide_eq_true hc104) (zS (e := 175) rfl rfl rfl) (lw_tvn 2 rfl (c_cond_t rfl (wp_seq (wp_plain _ [0,4,0] rfl (lw_tv 1 rfl (lw_callE 158 [] [] [(.pointer (some ⟨g,0,none⟩)),(.int .i64 ((6 :Nat):Int))] rfl rfl cf158 zN (c_spec_l02Run_fail _ S g pp dp (n) (s77) (c77) (p) (((6 :Nat):Int)) (fun b hb => (by have := hS b hb; omega : b < w77.heap.size)) hgS hB77 (hp.chg (good_rP (good_rPr dp)) (hE77.sub (subS hgS))) oM oM oM oM oM) ?_))))))
               rintro e105 w105 ⟨v105,x105,s105,c105,rfl,hC105,hB105,hr105,hse105,hsb105,hcb105,hrl105⟩
               refine ⟨_,rfl,?_⟩
               have hzs105:=hC105.size
               have hE105 : Chg [g] w w105 := hE77.trans hC105
               have hF110 := hF82.run g1 hgS hC105
               have hF111 := hr77.run g1 hgS hC105
               have hsn105 := hse105.1
               have hfs := hrl105.1
               have hff := hrl105.2
               exact lw_tvn 1 rfl (wp_ret (b_ret (t_ret (post_ret [6] rfl v105 rfl ⟨v105,x105,s105,c105,rfl,hE105,hB105,hr105,(by assumption),oM,oM,(by rw [hfs]; exact rel_ops hc00 hs1 oM (rel_k2 oM hra hrb) (fun h0 => by rw [hff,if_pos h0]; exact op_div0 (xs := [_,_]) oM (hzz.resolve_right oM)) (fun h0 => by rw [hff,if_neg h0]))⟩))))
              ·
               refine q_eql false rfl rfl (decide_eq_false hc104) (zS (e := 175) rfl rfl rfl) (lw_tvn 2 rfl (c_cond_f rfl (wp_skip (wp_seq (wp_plain _ [0,0,3,0] rfl (lw_tv 2 rfl (lw_call 165 [] [] [v72,v77] rfl rfl cf165 zN (c_spec_l01Div _ _ _ _ _ (hF82).rd (hr77).rd oM oM oM (by exact ha1.2)) ?_)))))))
               rintro e112 w112 ⟨v112_0,rfl,hX112,hO112_0⟩
               refine ⟨_,rfl,hX112,?_⟩
               have hzs112:=hX112.size
               have hE112 : Chg [g] w w112 := hE77.ext hX112
               have hB77x112 := hB77.ext hX112
               have hN113 := hF82.ext g1 hX112
               have hN114 := hr77.ext g1 hX112
               exact lw_tvn 1 rfl (wp_ret (post_ret [6] rfl v112_0 rfl ⟨v112_0,quoS x72 x77,s77,c77,rfl,hE112,hB77x112,(RN.of_fr1 hO112_0 (fun b hb => by have := hS b hb; omega)),(by exact quoS_ser ha1),oM,oM,(by exact rel_ops hc00 hs1 oM (rel_k2 oM hra hrb) (fun h0 => by rw [h0]; exact op_div (xs := [_,_]) oM (hzz.resolve_left oM)) (fun _ => rfl))⟩))
end Go.Proofs.Ytnofbmdpabcjaaa
namespace Go.Proofs.Ytnofbmdpabcjaaa
open Go Go.RowKit
set_option linter.unusedVariables false
set_option linter.unusedSimpArgs false
set_option maxHeartbeats 4000000
set_option maxRecDepth 100000
attribute [local irreducible] LW
theorem s_value : ∀ F d, SV F d := by
  intro F
  induction F using Nat.strongRecOn with
  | _ F ihF =>
    intro d
    induction d using Nat.strongRecOn with
    | _ d ihd =>
      intro w S g pp dp n s0 c0 p ve ex vv env hS hgS hB0 hp hn hs0 hc0 hex henv hqenv hvp hF hwf hse hdp
      exact c_spec_l02Run_expr w S F g pp dp n s0 c0 p d ve ex vv env hS hgS hB0 hp hn hs0 hc0 hex henv hqenv hvp hF hwf hse hdp ihF ihd
theorem s_outs (F : Nat) : SO F := c_outs F fun d => s_value F d
theorem z83_0 {p : Prop} (h : p := by unfold maxLen; first | omega | assumption | (simp only [List.length_nil, List.length_cons, List.length_append, List.length_set, List.length_replicate]; omega) | (simp [List.length_nil, List.length_cons, List.length_append, List.length_set, List.length_replicate]; done) | (simp [List.length_nil, List.length_cons, List.length_append, List.length_set, List.length_replicate]; omega)) : p := h
theorem c_spec_l02Eval (w : World) (dp : Nat) (vp : Value) (p : List Fn) (f : Int) (va : Value) (a : List Int) (hp : RN [] (rP (rPr dp)) w.heap vp p) (_hf : -9223372036854775808 ≤ f ∧ f ≤ 9223372036854775807) (ha : Rd (rdL rI) w.heap va a) (hvp : VPr p) (hf : 0 ≤ f ∧ f < ((p.length :Nat):Int)) (hl : ((a.length :Nat):Int) = (p.getD f.toNat Fn.zero).params) (hna : allN a = true) :
  Calls Try.prog 83 #[vp,.int .i64 f,va] w (fun e w' => ∃ v0 : Value,e = .returned (.tuple #[v0,.int .i64 ((evT p 1 f.toNat (sing a) :Nat):Int),.int .i64 (nxC p f.toNat a)]) ∧ Ext w w' ∧ Fr (owL rI 2) w.heap.size w'.heap.size w'.heap v0 (nxR p f.toNat a) ∧ NxP p f.toNat a ∧ evT p 1 f.toNat (sing a) ≤ 3000) := by
 refine calls_mk [vp,.int .i64 f,va] 73 Try.func83 rfl rfl sM ?_
 have hE0 : Ext w w := Ext.refl w
 have hl_va := ha.lenle
 have hpr := hvp.par f.toNat oM
 have hou := hvp.outs f.toNat oM
 refine wp_seq (wp_plain _ [0,0,0] rfl (lw_tvn 3 rfl (wp_seq (wp_plain _ [0,0,3,0] rfl (lw_tv 1 rfl ?_)))))
 have hbd1 : ∀ (vp : Value) (hp1_0 : ∃ b o,vp = .pointer (some ⟨b,o,none⟩)) (wq : World),(Instr.build 158 #[(0,vp),(1,(.int .i64 ((1 :Nat):Int)))]).run Try.prog wq = .ok (.agg #[vp,(.int .i64 ((1 :Nat):Int)),(.int .i64 0),(.int .i64 0)]) wq := by intro vp hp1_0 wq; obtain ⟨b0,o0,rfl⟩ := hp1_0;kernel_rfl
 refine q_build (ps := #[(0,vp),(1,(.int .i64 ((1 :Nat):Int)))]) (.agg #[vp,(.int .i64 ((1 :Nat):Int)),(.int .i64 0),(.int .i64 0)]) (by simp only [List.map_toArray,List.map_cons,List.map_nil]; rfl) (fun wq => hbd1 vp hp.isPtr wq) zN (r_boxA (cs := #[vp,(.int .i64 ((1 :Nat):Int)),(.int .i64 0),(.int .i64 0)]) rfl zN fun w2 hX2 hz2 hB2 => ?_)
 have hzs2:=hX2.size
 have hE2:=hE0.trans hX2
 replace hB2 : BX w2.heap w.heap.size [vp,(.int .i64 ((1 :Nat):Int)),(.int .i64 0),(.int .i64 0)] := hB2
 refine lw_tvn 1 rfl (wp_seq (wp_plain _ [3,0] rfl (r_nil (owL rI 2) o1 u24 ti25 zN fun v3 w3 hX3 hz3 hO3 => ?_)))
 have hzs3:=hX3.size
 have hE3:=hE2.trans hX3
 have hB2x3 := hB2.ext hX3
 refine lw_tvn 1 rfl (wp_seq (wp_seq (wp_plain _ [0] rfl (lw_tvn 1 rfl (wp_block ?_)))))
 refine c_loop (S := Nat × Value) (fun (⟨k,vo⟩ : Nat × Value) => ([(10,vo),(11,(.int .i64 ((k :Nat):Int))),(0,vp),(1,(.int .i64 f)),(2,va),(9,(.pointer (some ⟨w.heap.size,0,none⟩)))] : List (Nat × Value))) (fun (⟨k,vo⟩ : Nat × Value) (W : World) => Ext w W ∧ Fr (owL (owL rI 2) 25) w2.heap.size W.heap.size W.heap vo ((a.take k).map (fun x => [x])) ∧ BX W.heap w.heap.size [vp,(.int .i64 ((1 :Nat):Int)),(.int .i64 0),(.int .i64 0)] ∧ k ≤ a.length ∧ w.heap.size < w2.heap.size ∧ w2.heap.size ≤ W.heap.size) (fun (⟨k,vo⟩ : Nat × Value) => a.length - k) (0,v3) ⟨rfl,rfl,rfl,rfl,rfl,rfl,trivial⟩ ⟨hE3,hO3.up o2,hB2x3,sD,oM,oM⟩ ?_
 clear hE0 hz2 hX2 hO3 hz3 hX3 hzs3 hE3
 rintro ⟨k,vo⟩ ρ5 w5 ⟨hE5,hL5_0,hL5_1,hp5_0,hkg4,hkB6⟩
 have hzs5 : w.heap.size ≤ w5.heap.size := hE5.size
 have hq7 := hL5_1.lt
 refine wp_seq (wp_seq (wp_plain _ [0,0,0,0] rfl (lw_tv 2 rfl (q_len (v := va) u25 rfl ha.isSl zN ?_))))
 by_cases hc8 : ((k :Nat):Int) < ((a.length :Nat):Int)
 ·
  refine q_lss true rfl rfl (decide_eq_true hc8) zN (lw_nil (c_cond_t rfl (wp_skip (wp_seq (wp_block (wp_plain _ [0,0,0,0,2,3,3,4,0] rfl (lw_tv 3 rfl (q_idx (v := va) k u25 ti2 rfl rfl ha.isSl rfl sD zN ?_))))))))
  refine q_load (p := eptr va k 1) (.inr rfl) (.int .i64 (a.getD k 0)) one2 rfl (ldH_ext hE5 (ha.getI sD).1) zN ?_
  refine r_one (u := (.int .i64 (a.getD k 0))) (B := w5.heap.size) good_rI u25 ti2 rfl rfl (frI w5.heap.size w5.heap.size _ _ (ha.getI sD).2) (Nat.le_refl _) zN fun v9 w9 hX9 hz9 hO9 => ?_
  have hzs9:=hX9.size
  have hE9:=hE5.trans hX9
  have hL5_0x9 := hL5_0.ext (o2) hX9
  have hL5_1x9 := hL5_1.ext hX9
  refine r_one (u := v9) (B := w5.heap.size) o1 u24 ti25 rfl rfl hO9 (by first | exact Nat.le_refl _ | omega) zN fun v10 w10 hX10 hz10 hO10 => ?_
  have hzs10:=hX10.size
  have hE10:=hE9.trans hX10
  have hL5_0x10 := hL5_0x9.ext (o2) hX10
  have hL5_1x10 := hL5_1x9.ext hX10
  refine e_appF o1 (v := vo) (a := v10) u24 ti25 rfl rfl rfl hL5_0x10 oM hO10 oM oM sD z83_0 zN fun v11 w11 F11 hC11 hF11 hO11 => ?_
  have hE11 : Ext w w11 := hC11.below hE10 (fun c hc => Nat.le_trans hE2.size (hF11 c hc).1) hE10.size
  have hzs11:=hC11.size
  have hF12 := hL5_1x10.chg hC11 (fun hm => by have := hF11 _ hm; omega)
  refine lw_tvn 1 rfl (wp_plain _ [0,0,0] rfl (lw_tv 1 rfl (q_add ((k + 1 :Nat):Int) rfl rfl (w64n oM sD) zN (lw_tvn 1 rfl ?_))))
  exact ⟨((k + 1),v11),_,rfl,⟨rfl,rfl,rfl,rfl,rfl,rfl,trivial⟩,⟨hE11,(by rw [map_snoc 0 oM]; exact hO11.up o2),hF12,sD,oM,oM⟩,by first | omega | (dsimp only; omega)⟩
 ·
  refine q_lss false rfl rfl (decide_eq_false hc8) zN (lw_nil (c_cond_f rfl (wp_exit (t_exit (t_exit (c_exit_here (wp_seq (wp_plain _ [0,0,0,0,2,0,0,0,4,0] rfl ?_))))))))
  have henv : (a.take k).map (fun x => [x]) = sing a := by rw [List.take_of_length_le oM]; rfl
  have hle : ((a.take k).map (fun x => [x])).length = a.length := by rw [henv]; unfold sing; rw [List.length_map]
  refine lw_tv 2 rfl (q_nilP (hp.isPtr) rfl zN ?_)
  obtain ⟨cs13,hr13,hl13⟩ := RN.at (good_rPr _) hp
  obtain ⟨ve13,rfl,hx13⟩ := RPr.of hr13
  have hln13 := hx13.lenle
  unfold maxLen at hln13
  refine q_fldL (p := vp) 0 fd37_0 rfl (hl13 _ (Chg.of_ext [] hE5)) zN (q_load (p := (padd vp 0)) (.inr rfl) ve13 one35 rfl ((hl13 _ (Chg.of_ext [] hE5)).ld (i := 0) (by simp [exC,fnC])) zN (lw_tv 1 rfl (q_idx (v := ve13) ((f).toNat) u35 tiS34 rfl rfl hx13.isSl oM sD zN (lw_tv 1 rfl ?_))))
  refine lw_callE 125 [] [] [(.pointer (some ⟨w.heap.size,0,none⟩)),(eptr ve13 ((f).toNat) 3),vo] rfl rfl cf125 zN (s_outs f.toNat _ [w.heap.size] w.heap.size vp dp (1) (0) (0) (p) dp (eptr ve13 ((f).toNat) 3) (p.getD ((f).toNat) Fn.zero) vo ((a.take k).map (fun x => [x])) (fun b hb => (by have := List.mem_singleton.1 hb; omega : b < w5.heap.size)) (List.mem_singleton.2 rfl) hL5_1 ((hp.add (F := [w.heap.size]) (good_rP (good_rPr dp)) (fun b hb => by have := List.mem_singleton.1 hb; omega)).ext (good_rP (good_rPr dp)) hE5) oM oM oM (RN.ptr (good_rFn dp) (by decide) Fn.zero ((hx13.add (F := [w.heap.size]) (good_rdS (good_rFn dp)) (fun b hb => by have := List.mem_singleton.1 hb; omega)).ext (good_rdS (good_rFn dp)) hE5) sD) (RN.of_fr2 hL5_0 (fun b hb => by have := List.mem_singleton.1 hb; omega)) hL5_0.cap (by exact hvp) oM (by intro k9 hk9; have h9 := hvp.wf f.toNat oM k9 hk9; rw [hle]; rw [hl]; exact h9) (by rw [henv]; exact sing_ser hna) (by intro k9 hk9; have := hvp.deep f.toNat oM k9 hk9; omega) oM) ?_
  rintro e14 w14 ⟨v14,x14,s14,c14,rfl,hC14,hB14,hr14,hse14,hsb14,hcb14,hrl14⟩
  refine ⟨_,rfl,?_⟩
  have hzs14:=hC14.size
  have hE14 : Ext w w14 := hC14.below hE5 (fun b hb => by have : b = w.heap.size := (by simpa using hb); omega) hE5.size
  have hF17 := hL5_0.chg (o2) hC14 (fun c hc => by have := List.mem_singleton.1 hc; omega)
  have hsn14 := hse14.2.1
  have hsr14 := hse14.2.2
  have hcp14 := hse14.1
  have hrt14 := hr14.rt g2
  have hRL := hrl14
  rw [henv] at hRL
  have hCB := hcb14
  have hEP := EvP.mk' hRL hCB hsb14 hsn14 hsr14
  have hNP := NxP.mk' hEP
  have hST := hEP.steps
  have hXS := hsr14
  have hXL := hsn14
  refine lw_tvn 1 rfl (wp_seq (wp_seq (wp_plain _ [0,0,0,2,0] rfl (lw_tv 1 rfl (q_nil rfl zN (q_fldP (p := (.pointer (some ⟨w.heap.size,0,none⟩))) (b := w.heap.size) (o := 0) 3 fd158_3 rfl rfl zN (q_load (p := (padd (.pointer (some ⟨w.heap.size,0,none⟩)) 3)) (.inr rfl) (.int .i64 c14) one2 rfl (hB14.ldp (i := 3) sM) zN ?_)))))))
  by_cases hc19 : c14 ≠ ((0 :Nat):Int)
  ·
   refine q_neq true rfl rfl (decide_eq_true hc19) zN (lw_nil (c_cond_t rfl (wp_seq (wp_draw _ [3,0,0,0,1,0,0,0] mixed (by kernel_rfl) (r_nil (rI) good_rI u25 ti2 zN fun v20 w20 hX20 hz20 hO20 => ?_)))))
   replace hX20 := hX20.of_drew
   have hzs20:=hX20.size
   have hE20:=hE14.trans hX20
   have hF17x20 := hF17.ext (o2) hX20
   have hB14x20 := hB14.ext hX20
   have hN21 := hrt14.ext g2 hX20
   exact lw_tv 1 rfl (q_nil rfl zN (q_fldP (p := (.pointer (some ⟨w.heap.size,0,none⟩))) (b := w.heap.size) (o := 0) 3 fd158_3 rfl rfl zN (q_load (p := (padd (.pointer (some ⟨w.heap.size,0,none⟩)) 3)) (.inl rfl) (.int .i64 c14) one2 rfl (hB14.ldp (i := 3) sM) zN (lw_tvn 3 rfl (wp_ret (t_ret (post_ret [6,7,8] rfl (.tuple #[v20,(.int .i64 ((0 :Nat):Int)),(.int .i64 c14)]) rfl ⟨v20,(by rw [evT_e (ev_err hRL oM),show nxC p f.toNat a = _ from evD_e (ev_err hRL oM)] <;> rfl),hE20,(by rw [hNP.non (by rw [show nxC p f.toNat a = _ from evD_e (ev_err hRL oM)]; omega)]; exact (hO20.up o1).low hE14.size),hNP,hST⟩)))))))
  ·
   refine q_neq false rfl rfl (decide_eq_false hc19) zN (lw_nil (c_cond_f rfl (wp_skip (wp_seq (wp_plain _ [3,0] rfl (r_nil (rI) good_rI u25 ti2 zN fun v22 w22 hX22 hz22 hO22 => ?_))))))
   have hzs22:=hX22.size
   have hE22:=hE14.trans hX22
   have hF17x22 := hF17.ext (o2) hX22
   have hB14x22 := hB14.ext hX22
   have hN23 := hrt14.ext g2 hX22
   refine lw_tvn 1 rfl (wp_seq (wp_seq (wp_plain _ [0] rfl (lw_tvn 1 rfl (wp_block ?_)))))
   refine c_loop (S := Nat × Value) (fun (⟨k,vo⟩ : Nat × Value) => ([(13,vo),(14,(.int .i64 ((k :Nat):Int))),(9,(.pointer (some ⟨w.heap.size,0,none⟩))),(12,v14)] : List (Nat × Value))) (fun (⟨k,vo⟩ : Nat × Value) (W : World) => Ext w W ∧ Fr (owL rI 2) w14.heap.size W.heap.size W.heap vo (((x14).take k).map (fun s => s.getD 0 0)) ∧ BX W.heap w.heap.size [vp,(.int .i64 ((1 :Nat):Int)),(.int .i64 ((s14 :Nat):Int)),(.int .i64 c14)] ∧ k ≤ (x14).length ∧ RT w14.heap.size (rdL (rdL rI)) W.heap v14 x14 ∧ w14.heap.size ≤ W.heap.size ∧ w.heap.size < w14.heap.size ∧ w14.heap.size ≤ w14.heap.size ∧ w14.heap.size ≤ W.heap.size) (fun (⟨k,vo⟩ : Nat × Value) => (x14).length - k) (0,v22) ⟨rfl,rfl,rfl,rfl,trivial⟩ ⟨hE22,hO22.up o1,hB14x22,sD,(by assumption),oM,oM,oM,oM⟩ ?_
   clear hzs2 hE2 hL5_1 hL5_0 hE5 hzs5 hln13 hC14 hF17 hO22 hz22 hX22 hzs22 hE22 hF17x22
   rintro ⟨k,vo⟩ ρ28 w28 ⟨hE28,hL28_0,hL28_1,hp28_0,hrk24,hkB25,hkg26,hkt27,hkB29⟩
   have hzs28 : w.heap.size ≤ w28.heap.size := hE28.size
   have hq30 := hL28_1.lt
   refine wp_seq (wp_seq (wp_plain _ [0,0,0,0] rfl (lw_tv 2 rfl (q_len (v := v14) u24 rfl hrk24.slL zN ?_))))
   by_cases hc31 : ((k :Nat):Int) < ((x14.length :Nat):Int)
   ·
    refine q_lss true rfl rfl (decide_eq_true hc31) zN (lw_nil (c_cond_t rfl (wp_skip (wp_seq (wp_block (wp_plain _ [0,0,0,0,2,0,2,3,4,0] rfl ?_))))))
    have hkx := hXS k oM
    have hkl := hkx.1
    refine lw_tv 3 rfl (q_idx (v := v14) k u24 ti25 rfl rfl hrk24.slL rfl sD zN ?_)
    obtain ⟨ue32,hl32,hr32⟩ := RT.getL g1 [] (k := k) hrk24 sD
    have hln32 := hr32.lenL
    unfold maxLen at hln32
    refine q_load (p := eptr v14 k 1) (.inr rfl) ue32 one25 rfl hl32 zN (q_idx (v := ue32) 0 u25 ti2 rfl rfl hr32.slL rfl sD zN ?_)
    have hg33 := RT.getI (k := 0) hr32 sD
    refine q_load (p := eptr ue32 0 1) (.inr rfl) (.int .i64 ((x14.getD k []).getD 0 0)) one2 rfl hg33.1 zN (r_one (u := (.int .i64 ((x14.getD k []).getD 0 0))) (B := w28.heap.size) good_rI u25 ti2 rfl rfl (frI w28.heap.size w28.heap.size _ _ hg33.2) (Nat.le_refl _) zN fun v34 w34 hX34 hz34 hO34 => ?_)
    have hzs34:=hX34.size
    have hE34:=hE28.trans hX34
    have hL28_0x34 := hL28_0.ext (o1) hX34
    have hL28_1x34 := hL28_1.ext hX34
    have hN35 := hrk24.ext g2 hX34
    have hN36 := hr32.ext g1 hX34
    refine e_appI (v := vo) (a := v34) u25 ti2 rfl rfl rfl hL28_0x34 oM hO34.rd1 sD z83_0 zN fun v37 w37 F37 hC37 hF37 hO37 => ?_
    have hE37 : Ext w w37 := hC37.below hE34 (fun c hc => Nat.le_trans hE14.size (hF37 c hc).1) hE34.size
    have hzs37:=hC37.size
    have hN38 := hN35.chg g2 hC37 (fun c hc => by have := hF37 c hc; omega)
    have hN39 := hN36.chg g1 hC37 (fun c hc => by have := hF37 c hc; omega)
    have hF40 := hL28_1x34.chg hC37 (fun hm => by have := hF37 _ hm; omega)
    have hF41 := hO34.chg (o1) hC37 (fun c hc => by have := hF37 c hc; omega)
    refine lw_tvn 1 rfl (wp_plain _ [0,0,0] rfl (lw_tv 1 rfl (q_add ((k + 1 :Nat):Int) rfl rfl (w64n oM sD) zN (lw_tvn 1 rfl ?_))))
    exact ⟨((k + 1),v37),_,rfl,⟨rfl,rfl,rfl,rfl,trivial⟩,⟨hE37,(by rw [map_snoc [] oM]; exact hO37.up o1),hF40,sD,(by assumption),oM,oM,oM,oM⟩,by first | omega | (dsimp only; omega)⟩
   ·
    refine q_lss false rfl rfl (decide_eq_false hc31) zN (lw_nil (c_cond_f rfl (wp_exit (t_exit (t_exit (c_exit_here (wp_seq (wp_draw _ [0,0,0,0,1,0,0,0] mixed (by kernel_rfl) (lw_tv 2 rfl (q_nil rfl zN (q_fldP (p := (.pointer (some ⟨w.heap.size,0,none⟩))) (b := w.heap.size) (o := 0) 2 fd158_2 rfl rfl zN (q_load (p := (padd (.pointer (some ⟨w.heap.size,0,none⟩)) 2)) (.inl rfl) (.int .i64 ((s14 :Nat):Int)) one2 rfl (hL28_1.ldp (i := 2) sM) zN (lw_tvn 3 rfl (wp_ret ?_))))))))))))))
    exact post_ret [6,7,8] rfl (.tuple #[vo,(.int .i64 ((s14 :Nat):Int)),(.int .i64 ((0 :Nat):Int))]) rfl ⟨vo,(by rw [evT_o (ev_ok hRL oM),show nxC p f.toNat a = _ from evD_o (ev_ok hRL oM)] <;> rfl),hE28.drew,(by have h := (hL28_0.up o1).low hE14.size; unfold nxR; rw [evR_o (ev_ok hRL oM)]; rwa [List.take_of_length_le oM] at h),hNP,hST⟩
end Go.Proofs.Ytnofbmdpabcjaaa
namespace Go.Proofs.Ytnofbmdpabcjaaa
open Go Go.RowKit
set_option linter.unusedVariables false
set_option linter.unusedSimpArgs false
set_option maxHeartbeats 4000000
set_option maxRecDepth 100000
attribute [local irreducible] LW
theorem ar_2l {p : List Fn} {f : Int} {a : Sr} (h : isF p f = 0) (h2 : ((a.length : Nat) : Int) ≠ (p.getD f.toNat Fn.zero).params) : 2 = arC p f a := ar_2 h (by rw [decide_eq_false h2]; rfl)
theorem ar_2n {p : List Fn} {f : Int} {a : Sr} (h : isF p f = 0) (h2 : allN a = false) : 2 = arC p f a := ar_2 h (by rw [h2, Bool.and_false])
theorem ar_0n {p : List Fn} {f : Int} {a : Sr} (h : isF p f = 0) (h1 : ((a.length : Nat) : Int) = (p.getD f.toNat Fn.zero).params) (h2 : allN a = true) : 0 = arC p f a := ar_0 h (by rw [h2, decide_eq_true h1]; rfl)
theorem nb_t {b : Bool} (h : (!b) = true) : b = false := by simpa using h
theorem nb_f {b : Bool} (h : (!b) = false) : b = true := by simpa using h
theorem z82_0 {p : Prop} (h : p := by first | exact ar_n oM | exact ar_2l oM oM | exact ar_2n oM (nb_t (by assumption)) | exact (by omega : _ = isF p f).trans (ar_n oM) | exact (show isF p f = 0 by omega).trans (ar_0n oM oM (nb_f (by assumption)))) : p := h
theorem c_spec_l02Args (w : World) (dp : Nat) (vp : Value) (p : List Fn) (f : Int) (va : Value) (a : List Int) (hp : RN [] (rP (rPr dp)) w.heap vp p) (_hf : -9223372036854775808 ≤ f ∧ f ≤ 9223372036854775807) (ha : Rd (rdL rI) w.heap va a) (hz : SzP p) :
    Calls Try.prog 82 #[vp, .int .i64 f, va] w (fun e w' => e = .returned (.int .i64 (arC p f a)) ∧ Ext w w') := by
  refine calls_mk [vp, .int .i64 f, va] 32 Try.func82 rfl rfl sM ?_
  have hE0 : Ext w w := Ext.refl w
  have hl_va := ha.lenle
  refine wp_seq (wp_plain _ [0] rfl (lw_tvn 1 rfl (wp_seq (wp_plain _ [0, 0, 3, 0] rfl (lw_tv 2 rfl (lw_call 123 [] [] [vp, (.int .i64 f)] rfl rfl cf123 zN (c_spec_l02Asked _ dp vp (p) _ (hp.ext (good_rP (good_rPr dp)) hE0) _hf (by exact hz)) ?_))))))
  rintro e1 w1 ⟨rfl, hX1⟩
  refine ⟨_, rfl, hX1, ?_⟩
  have hzs1 : w.heap.size ≤ w1.heap.size := hX1.size
  have hE1 : Ext w w1 := hE0.trans hX1
  refine lw_tvn 1 rfl (wp_seq (wp_seq (wp_plain _ [0, 0, 0, 0, 0, 0, 0, 0, 2, 0, 0, 0, 2, 0, 0, 0, 3, 0, 0, 0] rfl (lw_tv 1 rfl ?_))))
  by_cases hc2 : isF p f = ((0 : Nat) : Int)
  ·
    refine q_eql true rfl rfl (decide_eq_true hc2) zN (lw_tv 2 rfl (q_len (v := va) u25 rfl ha.isSl (zS (e := 13) rfl rfl rfl) (lw_tv 1 rfl (q_nilP (hp.isPtr) rfl (zS (e := 13) rfl rfl rfl) ?_))))
    have hi0 := isF_0 (p := p) (f := f) oM
    obtain ⟨cs3, hr3, hl3⟩ := RN.at (good_rPr _) hp
    obtain ⟨ve3, rfl, hx3⟩ := RPr.of hr3
    have hln3 := hx3.lenle
    unfold maxLen at hln3
    refine q_fldL (p := vp) 0 fd37_0 rfl (hl3 _ (Chg.of_ext [] hE1)) (zS (e := 13) rfl rfl rfl) (q_load (p := (padd vp 0)) (.inr rfl) ve3 one35 rfl ((hl3 _ (Chg.of_ext [] hE1)).ld (i := 0) (by simp [exC, fnC])) (zS (e := 13) rfl rfl rfl) (lw_tv 1 rfl (q_idx (v := ve3) ((f).toNat) u35 tiS34 rfl rfl hx3.isSl oM sD (zS (e := 13) rfl rfl rfl) ?_)))
    obtain ⟨cs4, hr4, hl4⟩ := hx3.get (good_rFn dp) Fn.zero (k := ((f).toNat)) sD
    obtain ⟨ve4, rfl, hx4⟩ := RF.of hr4
    have hln4 := hx4.rn.lenle
    unfold maxLen at hln4
    refine q_fldL (p := eptr ve3 ((f).toNat) 3) 1 fd34_1 rfl (hl4 _ (Chg.of_ext [] hE1)) (zS (e := 13) rfl rfl rfl) (q_load (p := (padd (eptr ve3 ((f).toNat) 3) 1)) (.inr rfl) (.int .i64 ((p.getD ((f).toNat) Fn.zero).params)) one2 rfl ((hl4 _ (Chg.of_ext [] hE1)).ld (i := 1) (by simp [exC, fnC])) (zS (e := 13) rfl rfl rfl) ?_)
    by_cases hc5 : ((a.length : Nat) : Int) ≠ (p.getD ((f).toNat) Fn.zero).params
    ·
      exact q_neq true rfl rfl (decide_eq_true hc5) (zS (e := 13) rfl rfl rfl) (lw_tvn 6 rfl (c_cond_t rfl (wp_plain _ [0] rfl (lw_tvn 1 rfl (wp_seq (wp_plain _ [0, 0] rfl (lw_tvn 2 rfl (wp_ret (post_ret [6] rfl (.int .i64 ((2 : Nat) : Int)) rfl ⟨(ret_int z82_0), hE1⟩)))))))))
    ·
      refine q_neq false rfl rfl (decide_eq_false hc5) (zS (e := 13) rfl rfl rfl) (lw_tv 2 rfl (lw_call 124 [] [] [va] rfl rfl cf124 (zS (e := 25) rfl rfl rfl) (c_spec_l01Numbers _ _ _ (ha.ext g1 hE1)) ?_))
      rintro e6 w6 ⟨rfl, hX6⟩
      refine ⟨_, rfl, hX6, ?_⟩
      have hzs6 : w1.heap.size ≤ w6.heap.size := hX6.size
      have hE6 : Ext w w6 := hE1.trans hX6
      refine q_not (!(allN a)) rfl rfl (zS (e := 25) rfl rfl rfl) (lw_tvn 2 rfl ?_)
      cases hb7 : (!(allN a))
      ·
        exact c_cond_f (by first | rfl | (show Value.bool _ = _; rw [hb7])) (wp_skip (wp_seq (wp_plain _ [0, 0] rfl (lw_tvn 2 rfl (wp_ret (post_ret [6] rfl (.int .i64 (isF p f)) rfl ⟨(ret_int z82_0), hE6⟩))))))
      ·
        exact c_cond_t (by first | rfl | (show Value.bool _ = _; rw [hb7])) (wp_plain _ [0] rfl (lw_tvn 1 rfl (wp_seq (wp_plain _ [0, 0] rfl (lw_tvn 2 rfl (wp_ret (post_ret [6] rfl (.int .i64 ((2 : Nat) : Int)) rfl ⟨(ret_int z82_0), hE6⟩)))))))
  ·
    exact q_eql false rfl rfl (decide_eq_false hc2) zN (lw_tvn 18 rfl (c_cond_f rfl (wp_skip (wp_seq (wp_plain _ [0, 0] rfl (lw_tvn 2 rfl (wp_ret (post_ret [6] rfl (.int .i64 (isF p f)) rfl ⟨(ret_int z82_0), hE1⟩))))))))
theorem c_spec_Evaluate (w : World) (dp : Nat) (vp : Value) (p : List Fn) (f : Int) (va : Value) (a : List Int) (hp : RP [] dp w.heap vp p) (_hf : -9223372036854775808 ≤ f ∧ f ≤ 9223372036854775807) (ha : Rd (rdL rI) w.heap va a) (hz : SzP p) :
    Calls Try.prog 32 #[(.agg #[vp]), .int .i64 f, va] w (fun e w' => ∃ v0 : Value, e = .returned (.tuple #[v0, .int .i64 ((euT p f a : Nat) : Int), .int .i64 (euC p f a)]) ∧ Ext w w' ∧ Fr (owL rI 2) w.heap.size w'.heap.size w'.heap v0 (euR p f a)) := by
  refine calls_mk [(.agg #[vp]), .int .i64 f, va] 23 Try.func32 rfl rfl sM ?_
  have hE0 : Ext w w := Ext.refl w
  have hl_vp := hp.lenle
  unfold maxLen at hl_vp
  have hl_va := ha.lenle
  refine wp_seq (wp_plain _ [3, 0, 0, 0] rfl (r_boxA (cs := #[vp]) rfl zN fun w1 hX1 hz1 hB1 => ?_))
  have hzs1 : w.heap.size ≤ w1.heap.size := hX1.size
  have hE1 : Ext w w1 := hE0.trans hX1
  replace hB1 : BX w1.heap w.heap.size [vp] := hB1
  refine lw_tvn 3 rfl (wp_seq (wp_seq (wp_plain _ [0, 0, 3, 0] rfl (lw_tv 2 rfl (lw_call 82 [] [] [(.pointer (some ⟨w.heap.size, 0, none⟩)), (.int .i64 f), va] rfl rfl cf82 zN (c_spec_l02Args _ dp ((.pointer (some ⟨w.heap.size, 0, none⟩))) (p) _ _ _ (RN.box hB1 (RP.mk' (hp.ext (good_rdS (good_rFn dp)) hE1)) sM) _hf (ha.ext g1 hE1) (by exact hz)) ?_)))))
  rintro e2 w2 ⟨rfl, hX2⟩
  refine ⟨_, rfl, hX2, ?_⟩
  have hzs2 : w1.heap.size ≤ w2.heap.size := hX2.size
  have hE2 : Ext w w2 := hE1.trans hX2
  have hB1x2 := hB1.ext hX2
  refine lw_tvn 1 rfl (wp_seq (wp_plain _ [0, 0] rfl (lw_tv 1 rfl ?_)))
  by_cases hc3 : arC p f a ≠ ((0 : Nat) : Int)
  ·
    refine q_neq true rfl rfl (decide_eq_true hc3) zN (lw_nil (c_cond_t rfl (wp_seq (wp_plain _ [3, 0, 0, 0, 0] rfl (r_nil (rI) good_rI u25 ti2 zN fun v4 w4 hX4 hz4 hO4 => ?_)))))
    have hzs4 : w2.heap.size ≤ w4.heap.size := hX4.size
    have hE4 : Ext w w4 := hE2.trans hX4
    have hB1x4 := hB1x2.ext hX4
    exact lw_tvn 4 rfl (wp_ret (t_ret (post_ret [6, 7, 8] rfl (.tuple #[v4, (.int .i64 ((0 : Nat) : Int)), (.int .i64 (arC p f a))]) rfl ⟨v4, (by rw [euT_n oM, euC_n oM] <;> rfl), hE4, (by rw [euR_n oM]; exact (hO4.up o1).low hE2.size)⟩)))
  ·
    refine q_neq false rfl rfl (decide_eq_false hc3) zN (lw_nil (c_cond_f rfl (wp_skip (wp_seq (wp_plain _ [0, 0, 3, 0, 0, 0, 0, 0, 0] rfl (lw_tv 2 rfl ?_))))))
    have har : arC p f a = 0 := by omega
    have har0 := arC_0 har
    have hvp := okP_vpr har0.1
    have hpr := hvp.par f.toNat oM
    have hal := har0.2.2.1
    refine lw_call 83 [] [] [(.pointer (some ⟨w.heap.size, 0, none⟩)), (.int .i64 f), va] rfl rfl cf83 zN (c_spec_l02Eval _ dp ((.pointer (some ⟨w.heap.size, 0, none⟩))) (p) _ _ _ (RN.box hB1x2 (RP.mk' (hp.ext (good_rdS (good_rFn dp)) hE2)) sM) _hf (ha.ext g1 hE2) (by exact hvp) oM oM (by exact har0.2.2.2)) ?_
    rintro e5 w5 ⟨v5_0, rfl, hX5, hO5_0, hP5_0, hP5_1⟩
    refine ⟨_, rfl, hX5, ?_⟩
    have hzs5 : w2.heap.size ≤ w5.heap.size := hX5.size
    have hE5 : Ext w w5 := hE2.trans hX5
    have hB1x5 := hB1x2.ext hX5
    exact q_extract (vs := [v5_0, (.int .i64 ((evT p 1 f.toNat (sing a) : Nat) : Int)), (.int .i64 (nxC p f.toNat a))]) v5_0 rfl rfl zN (q_extract (vs := [v5_0, (.int .i64 ((evT p 1 f.toNat (sing a) : Nat) : Int)), (.int .i64 (nxC p f.toNat a))]) (.int .i64 ((evT p 1 f.toNat (sing a) : Nat) : Int)) rfl rfl zN (q_extract (vs := [v5_0, (.int .i64 ((evT p 1 f.toNat (sing a) : Nat) : Int)), (.int .i64 (nxC p f.toNat a))]) (.int .i64 (nxC p f.toNat a)) rfl rfl zN (lw_tvn 3 rfl (wp_ret (post_ret [6, 7, 8] rfl (.tuple #[v5_0, (.int .i64 ((evT p 1 f.toNat (sing a) : Nat) : Int)), (.int .i64 (nxC p f.toNat a))]) rfl ⟨v5_0, (by rw [euT_0 har, euC_0 har]), hE5, (by rw [euR_0 har]; exact (hO5_0.up o1).low hE2.size)⟩)))))
theorem evT_z {p : List Fn} {n f : Nat} {a : List Sr} (h : evD p n f a ≠ 0) : evT p n f a = 0 := by
  unfold evD at h; unfold evT; cases hh : ev p n f a with
  | ok x s => rw [hh] at h; exact absurd rfl h
  | err c => rfl
theorem z31_0 {p : Prop} (h : p := by first | (rw [euT_n oM, euC_n oM, ← hcd] <;> rfl) | (rw [euT_0 har, euC_0 har, evT_z oM] <;> rfl) | (rw [euT_0 har, euC_0 har, show nxC p f.toNat a = 0 from by show evD p (0 + 1) f.toNat (sing a) = 0; omega] <;> rfl)) : p := h
theorem z31_1 {p : Prop} (h : p := by first | (rw [euR_n oM]; exact frNil _ _ _) | (rw [euR_0 har]; unfold nxR; rw [hEP.non oM]; exact frNil _ _ _) | (rw [euR_0 har]; exact frNil _ _ _)) : p := h
theorem c_impl_Evaluate (w : World) (dp : Nat) (vp : Value) (p : List Fn) (f : Int) (va : Value) (a : List Int) (hp : RP [] dp w.heap vp p) (_hf : -9223372036854775808 ≤ f ∧ f ≤ 9223372036854775807) (ha : Rd (rdL rI) w.heap va a) (hz : SzP p) :
    Calls Try.prog 31 #[(.agg #[vp]), .int .i64 f, va] w (fun e w' => ∃ v0 : Value, e = .returned (.tuple #[v0, .int .i64 ((euT p f a : Nat) : Int), .int .i64 (euC p f a)]) ∧ Ext w w' ∧ Fr (owL rI 2) w.heap.size w'.heap.size w'.heap v0 (euR p f a)) := by
  refine calls_mk [(.agg #[vp]), .int .i64 f, va] 46 Try.func31 rfl rfl sM ?_
  have hE0 : Ext w w := Ext.refl w
  have hl_vp := hp.lenle
  unfold maxLen at hl_vp
  have hl_va := ha.lenle
  refine wp_seq (wp_plain _ [3, 0, 0, 0] rfl (r_boxA (cs := #[vp]) rfl zN fun w1 hX1 hz1 hB1 => ?_))
  have hzs1 : w.heap.size ≤ w1.heap.size := hX1.size
  have hE1 : Ext w w1 := hE0.trans hX1
  replace hB1 : BX w1.heap w.heap.size [vp] := hB1
  refine lw_tvn 3 rfl (wp_seq (wp_plain _ [2, 0, 3, 0] rfl (q_loadA (p := (.pointer (some ⟨w.heap.size, 0, none⟩))) (.inr rfl) [vp] agg37 rfl (fun w9 hw9 => LD.of_box (BX.ext (w := w1) hB1 hw9)) rfl zN (lw_tv 1 rfl (lw_call 78 [] [] [(.agg #[vp]), (.int .i64 f)] rfl rfl cf78 zN (c_impl_isFunc _ dp vp (p) _ (hp.ext (good_rdS (good_rFn dp)) hE1) _hf (by exact hz)) ?_)))))
  rintro e2 w2 ⟨rfl, hX2⟩
  refine ⟨_, rfl, hX2, ?_⟩
  have hzs2 : w1.heap.size ≤ w2.heap.size := hX2.size
  have hE2 : Ext w w2 := hE1.trans hX2
  have hB1x2 := hB1.ext hX2
  refine lw_tvn 1 rfl (wp_seq (wp_seq (wp_plain _ [0, 0, 0, 0, 0, 2, 0, 0, 0, 2, 3, 0, 0] rfl (lw_tv 1 rfl ?_))))
  by_cases hc3 : isF p f = ((0 : Nat) : Int)
  ·
    refine q_eql true rfl rfl (decide_eq_true hc3) zN (lw_tv 2 rfl ?_)
    have hi0 := isF_0 (p := p) (f := f) oM
    refine q_fldP (p := (.pointer (some ⟨w.heap.size, 0, none⟩))) (b := w.heap.size) (o := 0) 0 fd37_0 rfl rfl (zS (e := 17) rfl rfl rfl) (q_load (p := (padd (.pointer (some ⟨w.heap.size, 0, none⟩)) 0)) (.inr rfl) vp one35 rfl (hB1x2.ldp (i := 0) sM) (zS (e := 17) rfl rfl rfl) (lw_tv 1 rfl (q_idx (v := vp) ((f).toNat) u35 tiS34 rfl rfl hp.isSl oM sD (zS (e := 17) rfl rfl rfl) ?_)))
    obtain ⟨cs4, hr4, hl4⟩ := hp.get (good_rFn dp) Fn.zero (k := ((f).toNat)) sD
    obtain ⟨ve4, rfl, hx4⟩ := RF.of hr4
    have hln4 := hx4.rn.lenle
    unfold maxLen at hln4
    refine q_fldL (p := eptr vp ((f).toNat) 3) 1 fd34_1 rfl (hl4 _ (Chg.of_ext [] hE2)) (zS (e := 17) rfl rfl rfl) (q_load (p := (padd (eptr vp ((f).toNat) 3) 1)) (.inr rfl) (.int .i64 ((p.getD ((f).toNat) Fn.zero).params)) one2 rfl ((hl4 _ (Chg.of_ext [] hE2)).ld (i := 1) (by simp [exC, fnC])) (zS (e := 17) rfl rfl rfl) (lw_call 48 [] [] [va, (.int .i64 ((p.getD ((f).toNat) Fn.zero).params))] rfl rfl cf48 (zS (e := 17) rfl rfl rfl) (c_impl_areNumbers _ _ _ _ (ha.ext g1 hE2) hx4.rng) ?_))
    rintro e5 w5 ⟨rfl, hX5⟩
    refine ⟨_, rfl, hX5, ?_⟩
    have hzs5 : w2.heap.size ≤ w5.heap.size := hX5.size
    have hE5 : Ext w w5 := hE2.trans hX5
    have hB1x5 := hB1x2.ext hX5
    refine q_not (!(decide (((a.length : Nat) : Int) = ((p.getD ((f).toNat) Fn.zero).params)) && allN a)) rfl rfl (zS (e := 17) rfl rfl rfl) (lw_tvn 1 rfl ?_)
    cases hb6 : (!(decide (((a.length : Nat) : Int) = ((p.getD ((f).toNat) Fn.zero).params)) && allN a))
    ·
      refine c_cond_f (by first | rfl | (show Value.bool _ = _; rw [hb6])) (wp_skip (wp_seq (wp_seq (wp_plain _ [0, 0] rfl (lw_tv 1 rfl ?_)))))
      have hcd : isF p f = arC p f a := by first | exact ar_n oM | exact ar_2 oM (bn_t (by assumption)) | exact (show isF p f = 0 by omega).trans (ar_0 oM (bn_f (by assumption)))
      by_cases hc7 : isF p f ≠ ((0 : Nat) : Int)
      ·
        exact q_neq true rfl rfl (decide_eq_true hc7) zN (lw_nil (c_cond_t rfl (wp_seq (wp_plain _ [0, 0, 0, 0] rfl (lw_tvn 4 rfl (wp_ret (t_ret (post_ret [6, 7, 8] rfl (.tuple #[(.slice none 0 0), (.int .i64 ((0 : Nat) : Int)), (.int .i64 (isF p f))]) rfl ⟨(.slice none 0 0), z31_0, hE5, z31_1⟩))))))))
      ·
        refine q_neq false rfl rfl (decide_eq_false hc7) zN (lw_nil (c_cond_f rfl (wp_skip (wp_seq (wp_draw _ [1, 0, 0, 3, 3, 0, 0, 0, 0, 0, 0, 0] mixed (by kernel_rfl) ?_)))))
        have har : arC p f a = 0 := by omega
        have har0 := arC_0 har
        have hvp := okP_vpr har0.1
        have hpr := hvp.par f.toNat oM
        have hal := har0.2.2.1
        refine q_loadA (p := (.pointer (some ⟨w.heap.size, 0, none⟩))) (.inl rfl) [vp] agg37 rfl (fun w9 hw9 => LD.of_box (BX.ext (w := w5.drew) hB1x5 hw9)) rfl zN (lw_tv 2 rfl (lw_call 80 [] [] [va] rfl rfl cf80 zN (c_impl_singles _ _ _ (ha.ext g1 hE5.drew) oM) ?_))
        rintro e8 w8 ⟨v8_0, rfl, hX8, hO8_0⟩
        refine ⟨_, rfl, hX8, ?_⟩
        replace hX8 := hX8.of_drew
        have hzs8 : w5.heap.size ≤ w8.heap.size := hX8.size
        have hE8 : Ext w w8 := hE5.trans hX8
        have hB1x8 := hB1x5.ext hX8
        replace hO8_0 := hO8_0.low (B' := w5.heap.size) (Nat.le_refl _)
        refine lw_call 79 [] [] [(.agg #[vp]), (.int .i64 f), v8_0, (.int .i64 ((0 : Nat) : Int))] rfl rfl cf79 zN (c_impl_Program_evaluated _ dp vp (p) _ v8_0 (sing a) (0) (hp.ext (good_rdS (good_rFn dp)) hE8) _hf (RN.of_fr2 hO8_0 (fun b hb => by cases hb)) hO8_0.cap (by exact hvp) oM (by rw [sing_len]; exact har0.2.2.1) (by exact sing_ser har0.2.2.2) oM) ?_
        rintro e9 w9 ⟨v9_0, rfl, hX9, hO9_0, hP9_0⟩
        refine ⟨_, rfl, hX9, ?_⟩
        have hzs9 : w8.heap.size ≤ w9.heap.size := hX9.size
        have hE9 : Ext w w9 := hE8.trans hX9
        have hB1x9 := hB1x8.ext hX9
        have hO8_0x9 := hO8_0.ext (o2) hX9
        refine lw_tv 1 rfl (q_extract (vs := [v9_0, (.int .i64 ((evT p (0 + 1) f.toNat (sing a) : Nat) : Int)), (.int .i64 (evD p (0 + 1) f.toNat (sing a)))]) v9_0 rfl rfl zN (q_extract (vs := [v9_0, (.int .i64 ((evT p (0 + 1) f.toNat (sing a) : Nat) : Int)), (.int .i64 (evD p (0 + 1) f.toNat (sing a)))]) (.int .i64 ((evT p (0 + 1) f.toNat (sing a) : Nat) : Int)) rfl rfl zN (q_extract (vs := [v9_0, (.int .i64 ((evT p (0 + 1) f.toNat (sing a) : Nat) : Int)), (.int .i64 (evD p (0 + 1) f.toNat (sing a)))]) (.int .i64 (evD p (0 + 1) f.toNat (sing a))) rfl rfl zN (lw_tvn 3 rfl (wp_seq (wp_seq (wp_plain _ [0, 0] rfl (lw_tv 1 rfl ?_))))))))
        have hEP := ‹EvP p (0 + 1) f.toNat (sing a)›
        by_cases hc10 : evD p (0 + 1) f.toNat (sing a) ≠ ((0 : Nat) : Int)
        ·
          exact q_neq true rfl rfl (decide_eq_true hc10) zN (lw_nil (c_cond_t rfl (wp_seq (wp_plain _ [0, 0, 0, 0] rfl (lw_tvn 4 rfl (wp_ret (t_ret (post_ret [6, 7, 8] rfl (.tuple #[(.slice none 0 0), (.int .i64 ((0 : Nat) : Int)), (.int .i64 (evD p (0 + 1) f.toNat (sing a)))]) rfl ⟨(.slice none 0 0), z31_0, hE9, z31_1⟩))))))))
        ·
          refine q_neq false rfl rfl (decide_eq_false hc10) zN (lw_nil (c_cond_f rfl (wp_skip (wp_seq (wp_plain _ [0, 3, 0, 0, 0, 0] rfl (lw_tv 1 rfl ?_))))))
          have hev := hEP.len oM
          have hvo := hvp.outs f.toNat oM
          refine lw_call 81 [] [] [v9_0] rfl rfl cf81 zN (c_impl_firsts _ _ _ hO9_0.rd2 oM (by intro k hk; have := (hEP.ser k hk).1; omega)) ?_
          rintro e11 w11 ⟨v11_0, rfl, hX11, hO11_0⟩
          refine ⟨_, rfl, hX11, ?_⟩
          have hzs11 : w9.heap.size ≤ w11.heap.size := hX11.size
          have hE11 : Ext w w11 := hE9.trans hX11
          have hB1x11 := hB1x9.ext hX11
          have hO8_0x11 := hO8_0x9.ext (o2) hX11
          have hO9_0x11 := hO9_0.ext (o2) hX11
          exact lw_tvn 4 rfl (wp_ret (post_ret [6, 7, 8] rfl (.tuple #[v11_0, (.int .i64 ((evT p (0 + 1) f.toNat (sing a) : Nat) : Int)), (.int .i64 ((0 : Nat) : Int))]) rfl ⟨v11_0, z31_0, hE11, (by first | (rw [euR_n oM]; exact (hO11_0.up o1).low hE9.size) | (rw [euR_0 har]; unfold nxR; rw [hEP.non oM]; exact (hO11_0.up o1).low hE9.size) | (rw [euR_0 har]; exact (hO11_0.up o1).low hE9.size))⟩))
    ·
      refine c_cond_t (by first | rfl | (show Value.bool _ = _; rw [hb6])) (wp_plain _ [0] rfl (lw_tvn 1 rfl (wp_seq (wp_seq (wp_plain _ [0, 0] rfl (lw_tv 1 rfl ?_))))))
      have hcd : ((2 : Nat) : Int) = arC p f a := by first | exact ar_n oM | exact ar_2 oM (bn_t (by assumption)) | exact (show isF p f = 0 by omega).trans (ar_0 oM (bn_f (by assumption)))
      exact q_neq true rfl rfl (by decide) zN (lw_nil (c_cond_t rfl (wp_seq (wp_plain _ [0, 0, 0, 0] rfl (lw_tvn 4 rfl (wp_ret (t_ret (post_ret [6, 7, 8] rfl (.tuple #[(.slice none 0 0), (.int .i64 ((0 : Nat) : Int)), (.int .i64 ((2 : Nat) : Int))]) rfl ⟨(.slice none 0 0), z31_0, hE5, z31_1⟩))))))))
  ·
    refine q_eql false rfl rfl (decide_eq_false hc3) zN (lw_tvn 11 rfl (c_cond_f rfl (wp_skip (wp_seq (wp_seq (wp_plain _ [0, 0] rfl (lw_tv 1 rfl ?_)))))))
    have hcd : isF p f = arC p f a := by first | exact ar_n oM | exact ar_2 oM (bn_t (by assumption)) | exact (show isF p f = 0 by omega).trans (ar_0 oM (bn_f (by assumption)))
    by_cases hc12 : isF p f ≠ ((0 : Nat) : Int)
    ·
      exact q_neq true rfl rfl (decide_eq_true hc12) zN (lw_nil (c_cond_t rfl (wp_seq (wp_plain _ [0, 0, 0, 0] rfl (lw_tvn 4 rfl (wp_ret (t_ret (post_ret [6, 7, 8] rfl (.tuple #[(.slice none 0 0), (.int .i64 ((0 : Nat) : Int)), (.int .i64 (isF p f))]) rfl ⟨(.slice none 0 0), z31_0, hE2, z31_1⟩))))))))
    ·
      refine q_neq false rfl rfl (decide_eq_false hc12) zN (lw_nil (c_cond_f rfl (wp_skip (wp_seq (wp_draw _ [1, 0, 0, 3, 3, 0, 0, 0, 0, 0, 0, 0] mixed (by kernel_rfl) ?_)))))
      have har : arC p f a = 0 := by omega
      have har0 := arC_0 har
      have hvp := okP_vpr har0.1
      have hpr := hvp.par f.toNat oM
      have hal := har0.2.2.1
      refine q_loadA (p := (.pointer (some ⟨w.heap.size, 0, none⟩))) (.inl rfl) [vp] agg37 rfl (fun w9 hw9 => LD.of_box (BX.ext (w := w2.drew) hB1x2 hw9)) rfl zN (lw_tv 2 rfl (lw_call 80 [] [] [va] rfl rfl cf80 zN (c_impl_singles _ _ _ (ha.ext g1 hE2.drew) oM) ?_))
      rintro e13 w13 ⟨v13_0, rfl, hX13, hO13_0⟩
      refine ⟨_, rfl, hX13, ?_⟩
      replace hX13 := hX13.of_drew
      have hzs13 : w2.heap.size ≤ w13.heap.size := hX13.size
      have hE13 : Ext w w13 := hE2.trans hX13
      have hB1x13 := hB1x2.ext hX13
      replace hO13_0 := hO13_0.low (B' := w2.heap.size) (Nat.le_refl _)
      refine lw_call 79 [] [] [(.agg #[vp]), (.int .i64 f), v13_0, (.int .i64 ((0 : Nat) : Int))] rfl rfl cf79 zN (c_impl_Program_evaluated _ dp vp (p) _ v13_0 (sing a) (0) (hp.ext (good_rdS (good_rFn dp)) hE13) _hf (RN.of_fr2 hO13_0 (fun b hb => by cases hb)) hO13_0.cap (by exact hvp) oM (by rw [sing_len]; exact har0.2.2.1) (by exact sing_ser har0.2.2.2) oM) ?_
      rintro e14 w14 ⟨v14_0, rfl, hX14, hO14_0, hP14_0⟩
      refine ⟨_, rfl, hX14, ?_⟩
      have hzs14 : w13.heap.size ≤ w14.heap.size := hX14.size
      have hE14 : Ext w w14 := hE13.trans hX14
      have hB1x14 := hB1x13.ext hX14
      have hO13_0x14 := hO13_0.ext (o2) hX14
      refine lw_tv 1 rfl (q_extract (vs := [v14_0, (.int .i64 ((evT p (0 + 1) f.toNat (sing a) : Nat) : Int)), (.int .i64 (evD p (0 + 1) f.toNat (sing a)))]) v14_0 rfl rfl zN (q_extract (vs := [v14_0, (.int .i64 ((evT p (0 + 1) f.toNat (sing a) : Nat) : Int)), (.int .i64 (evD p (0 + 1) f.toNat (sing a)))]) (.int .i64 ((evT p (0 + 1) f.toNat (sing a) : Nat) : Int)) rfl rfl zN (q_extract (vs := [v14_0, (.int .i64 ((evT p (0 + 1) f.toNat (sing a) : Nat) : Int)), (.int .i64 (evD p (0 + 1) f.toNat (sing a)))]) (.int .i64 (evD p (0 + 1) f.toNat (sing a))) rfl rfl zN (lw_tvn 3 rfl (wp_seq (wp_seq (wp_plain _ [0, 0] rfl (lw_tv 1 rfl ?_))))))))
      have hEP := ‹EvP p (0 + 1) f.toNat (sing a)›
      by_cases hc15 : evD p (0 + 1) f.toNat (sing a) ≠ ((0 : Nat) : Int)
      ·
        exact q_neq true rfl rfl (decide_eq_true hc15) zN (lw_nil (c_cond_t rfl (wp_seq (wp_plain _ [0, 0, 0, 0] rfl (lw_tvn 4 rfl (wp_ret (t_ret (post_ret [6, 7, 8] rfl (.tuple #[(.slice none 0 0), (.int .i64 ((0 : Nat) : Int)), (.int .i64 (evD p (0 + 1) f.toNat (sing a)))]) rfl ⟨(.slice none 0 0), z31_0, hE14, z31_1⟩))))))))
      ·
        refine q_neq false rfl rfl (decide_eq_false hc15) zN (lw_nil (c_cond_f rfl (wp_skip (wp_seq (wp_plain _ [0, 3, 0, 0, 0, 0] rfl (lw_tv 1 rfl ?_))))))
        have hev := hEP.len oM
        have hvo := hvp.outs f.toNat oM
        refine lw_call 81 [] [] [v14_0] rfl rfl cf81 zN (c_impl_firsts _ _ _ hO14_0.rd2 oM (by intro k hk; have := (hEP.ser k hk).1; omega)) ?_
        rintro e16 w16 ⟨v16_0, rfl, hX16, hO16_0⟩
        refine ⟨_, rfl, hX16, ?_⟩
        have hzs16 : w14.heap.size ≤ w16.heap.size := hX16.size
        have hE16 : Ext w w16 := hE14.trans hX16
        have hB1x16 := hB1x14.ext hX16
        have hO13_0x16 := hO13_0x14.ext (o2) hX16
        have hO14_0x16 := hO14_0.ext (o2) hX16
        exact lw_tvn 4 rfl (wp_ret (post_ret [6, 7, 8] rfl (.tuple #[v16_0, (.int .i64 ((evT p (0 + 1) f.toNat (sing a) : Nat) : Int)), (.int .i64 ((0 : Nat) : Int))]) rfl ⟨v16_0, z31_0, hE16, (by first | (rw [euR_n oM]; exact (hO16_0.up o1).low hE14.size) | (rw [euR_0 har]; unfold nxR; rw [hEP.non oM]; exact (hO16_0.up o1).low hE14.size) | (rw [euR_0 har]; exact (hO16_0.up o1).low hE14.size))⟩))
end Go.Proofs.Ytnofbmdpabcjaaa
namespace Go.Proofs.Ytnofbmdpabcjaaa
open Go Go.RowKit
set_option linter.unusedVariables false
set_option linter.unusedSimpArgs false
set_option maxHeartbeats 4000000
set_option maxRecDepth 100000
attribute [local irreducible] LW
theorem c_spec_l05Var (w : World) (n : Int) (_hn : -9223372036854775808 ≤ n ∧ n ≤ 9223372036854775807)  :
    Calls Try.prog 77 #[.int .i64 n] w (fun e w' => e = .returned (.agg #[.int .i64 2, .int .i64 n, .int .i64 0, .int .i64 0, .slice none 0 0]) ∧ Ext w w') := by
  refine calls_mk [.int .i64 n] 5 Try.func77 rfl rfl sM ?_
  have hE0 : Ext w w := Ext.refl w
  refine wp_seq (wp_plain _ [3] rfl (r_allocA (z := .agg #[.int .i64 0, .int .i64 0, .int .i64 0, .int .i64 0, .slice none 0 0]) zr31 zN fun w1 hX1 hz1 hB1 => ?_))
  have hzs1 : w.heap.size ≤ w1.heap.size := hX1.size
  have hE1 : Ext w w1 := hE0.trans hX1
  replace hB1 : BX w1.heap w.heap.size [(.int .i64 0), (.int .i64 0), (.int .i64 0), (.int .i64 0), (.slice none 0 0)] := hB1
  refine lw_nil (wp_seq (wp_plain _ [0, 0, 4] rfl (lw_tv 1 rfl ?_)))
  have hbd2 : ∀ (wq : World), (Instr.build 31 #[(0, (.int .i64 ((2 : Nat) : Int))), (1, (.int .i64 n))]).run Try.prog wq = .ok (.agg #[(.int .i64 ((2 : Nat) : Int)), (.int .i64 n), (.int .i64 0), (.int .i64 0), (.slice none 0 0)]) wq := by intro wq; kernel_rfl
  refine q_build (ps := #[(0, (.int .i64 ((2 : Nat) : Int))), (1, (.int .i64 n))]) (.agg #[(.int .i64 ((2 : Nat) : Int)), (.int .i64 n), (.int .i64 0), (.int .i64 0), (.slice none 0 0)]) (by simp only [List.map_toArray, List.map_cons, List.map_nil]; rfl) (fun wq => hbd2  wq) zN (e_setA (vs := [(.int .i64 ((2 : Nat) : Int)), (.int .i64 n), (.int .i64 0), (.int .i64 0), (.slice none 0 0)]) agg31 rfl rfl (by intro u hu; simp only [List.mem_cons, List.not_mem_nil, or_false] at hu; rcases hu with rfl | rfl | rfl | rfl | rfl <;> first | exact ⟨rfl, rfl⟩) hB1 rfl rfl zN fun w3 hC3 hz3 hB3 => ?_)
  replace hB3 : BX w3.heap w.heap.size [(.int .i64 ((2 : Nat) : Int)), (.int .i64 n), (.int .i64 0), (.int .i64 0), (.slice none 0 0)] := hB3
  have hzs3 : w1.heap.size ≤ w3.heap.size := hC3.size
  have hE3 : Ext w w3 := hC3.below hE1 (fun c hc => by have := List.mem_singleton.1 hc; omega) hE1.size
  exact lw_nil (wp_ret (post_retA (cs := [(.int .i64 ((2 : Nat) : Int)), (.int .i64 n), (.int .i64 0), (.int .i64 0), (.slice none 0 0)]) rfl agg31 rfl hB3 rfl ⟨rfl, hE3⟩))
theorem c_spec_A2Vars (w : World) (n : Int) (_hn : -9223372036854775808 ≤ n ∧ n ≤ 9223372036854775807) (hn : 0 ≤ n ∧ n ≤ 1000) :
    Calls Try.prog 29 #[.int .i64 n] w (fun e w' => ∃ v, e = .returned v ∧ Ext w w' ∧ Fr (owS 5 (oEx 31 1) 31) w.heap.size w'.heap.size w'.heap v (varL 0 n.toNat)) := by
  refine calls_mk [.int .i64 n] 17 Try.func29 rfl rfl sM ?_
  have hE0 : Ext w w := Ext.refl w
  refine wp_seq (wp_plain _ [0] rfl (lw_tvn 1 rfl (wp_seq (wp_plain _ [3, 0] rfl (r_nilS (α := Ex) (good_oEx 31 1) u29 tiS31 zN fun v1 w1 hX1 hz1 hO1 => ?_)))))
  have hzs1 : w.heap.size ≤ w1.heap.size := hX1.size
  have hE1 : Ext w w1 := hE0.trans hX1
  refine lw_tvn 1 rfl (wp_seq (wp_seq (wp_plain _ [0] rfl (lw_tvn 1 rfl (wp_block (c_loop (S := Nat × Value × List Ex) (fun (⟨i, vo, xs⟩ : Nat × Value × List Ex) => ([(3, vo), (4, (.int .i64 ((i : Nat) : Int))), (0, (.int .i64 n))] : List (Nat × Value))) (fun (⟨i, vo, xs⟩ : Nat × Value × List Ex) (W : World) => Ext w W ∧ Fr (owS 5 (oEx 31 1) 31) w.heap.size W.heap.size W.heap vo xs ∧ ((i : Nat) : Int) ≤ n ∧ xs = varL 0 i) (fun (⟨i, vo, xs⟩ : Nat × Value × List Ex) => n.toNat - i) (0, v1, ([] : List Ex)) ⟨rfl, rfl, rfl, trivial⟩ ⟨hE1, hO1.up (good_owS (good_oEx 31 1)), oM, (by rfl)⟩ ?_))))))
  clear hE0 hO1 hz1 hX1 hzs1 hE1
  rintro ⟨i, vo, xs⟩ ρ2 w2 ⟨hE2, hL2_0, hp2_0, hxs⟩
  have hzs2 : w.heap.size ≤ w2.heap.size := hE2.size
  refine wp_seq (wp_seq (wp_plain _ [0, 0, 0] rfl (lw_tv 2 rfl ?_)))
  by_cases hc3 : ((i : Nat) : Int) < n
  ·
    refine q_lss true rfl rfl (decide_eq_true hc3) zN (lw_nil (c_cond_t rfl (wp_skip (wp_seq (wp_block (wp_plain _ [0, 0, 3, 3, 4, 0] rfl (lw_tv 2 rfl (lw_call 77 [] [] [(.int .i64 ((i : Nat) : Int))] rfl rfl cf77 zN (c_spec_l05Var _ (((i : Nat) : Int)) oM) ?_))))))))
    rintro e4 w4 ⟨rfl, hX4⟩
    refine ⟨_, rfl, hX4, ?_⟩
    have hzs4 : w2.heap.size ≤ w4.heap.size := hX4.size
    have hE4 : Ext w w4 := hE2.trans hX4
    have hL2_0x4 := hL2_0.ext ((good_owS (good_oEx 31 1))) hX4
    refine r_oneS (cs := [(.int .i64 ((2 : Nat) : Int)), (.int .i64 ((i : Nat) : Int)), (.int .i64 0), (.int .i64 0), (.slice none 0 0)]) (y := (.mk 2 ((i : Nat) : Int) 0 0 [])) (B := w4.heap.size) (good_oEx 31 1) u29 tiS31 rfl (by decide) rfl (FrN.mk1 (d := 1) (x := (.mk 2 ((i : Nat) : Int) 0 0 [])) oM (exR_mk (a := 2) (b := ((i : Nat) : Int)) (c := 0) (k := 0) oM oM oM oM) (frNilS _ 0 _)) oM zN fun v5 w5 hX5 hz5 hO5 => ?_
    have hzs5 : w4.heap.size ≤ w5.heap.size := hX5.size
    have hE5 : Ext w w5 := hE4.trans hX5
    have hL2_0x5 := hL2_0x4.ext ((good_owS (good_oEx 31 1))) hX5
    have hvl := varL_len i 0
    refine e_appS (v := vo) (a := v5) (good_oEx 31 1) u29 tiS31 rfl (by decide) rfl rfl hL2_0x5 oM hO5 oM oM (by rw [hxs]; omega) (by rw [hxs]; unfold maxLen; omega) zN fun v6 w6 F6 hC6 hF6 hO6 => ?_
    have hzs6 : w5.heap.size ≤ w6.heap.size := hC6.size
    have hE6 : Ext w w6 := hC6.below hE5 (fun c hc => by have := hF6 _ hc; omega) hE5.size
    exact lw_tvn 1 rfl (wp_plain _ [0, 0, 0] rfl (lw_tv 1 rfl (q_add ((i + 1 : Nat) : Int) rfl rfl (w64n oM oM) zN (lw_tvn 1 rfl ⟨((i + 1), v6, (xs ++ [(.mk 2 ((i : Nat) : Int) 0 0 [])])), _, rfl, ⟨rfl, rfl, rfl, trivial⟩, ⟨hE6, hO6.up (good_owS (good_oEx 31 1)), oM, (by rw [hxs, varL_snoc, Nat.zero_add])⟩, by first | omega | (dsimp only; omega)⟩))))
  ·
    exact q_lss false rfl rfl (decide_eq_false hc3) zN (lw_nil (c_cond_f rfl (wp_exit (t_exit (t_exit (c_exit_here (wp_seq (wp_plain _ [0, 0] rfl (lw_tvn 2 rfl (wp_ret (post_ret [2] rfl vo rfl ⟨vo, rfl, hE2, (by have h := ((hL2_0.up (good_owS (good_oEx 31 1))).low (B' := w.heap.size) oM); rw [hxs] at h; rwa [show n.toNat = i from by omega])⟩)))))))))))
theorem z87_0 {p : Prop} (h : p := by simp [exC, fnC]) : p := h
theorem c_spec_l02Own (w : World) (dex : Nat) (ve : Value) (ex : Ex) (hex : RN [] (rP (rEx dex)) w.heap ve ex) (hs : ex.size ≤ 2000000) :
    Calls Try.prog 87 #[ve] w (fun e w' => ∃ v, e = .returned (.agg #[.int .i64 ex.kind, .int .i64 ex.num, .int .i64 ex.pick, .int .i64 ex.count, v]) ∧ Ext w w' ∧ Fr (owS 5 (oEx 31 (dex - 1)) 31) w.heap.size w'.heap.size w'.heap v ex.kids ∧ exR ex ∧ 1 ≤ dex) := by
  induction dex using Nat.strongRecOn generalizing w ve ex
  rename_i dex ih
  refine calls_mk [ve] 44 Try.func87 rfl rfl sM ?_
  have hE0 : Ext w w := Ext.refl w
  have hsk := size_kids ex
  have hsg := sizes_ge ex.kids 0
  refine wp_seq (wp_plain _ [3] rfl (r_allocA (z := .agg #[.int .i64 0, .int .i64 0, .int .i64 0, .int .i64 0, .slice none 0 0]) zr31 zN fun w1 hX1 hz1 hB1 => ?_))
  have hzs1 : w.heap.size ≤ w1.heap.size := hX1.size
  have hE1 : Ext w w1 := hE0.trans hX1
  replace hB1 : BX w1.heap w.heap.size [(.int .i64 0), (.int .i64 0), (.int .i64 0), (.int .i64 0), (.slice none 0 0)] := hB1
  refine lw_nil (wp_seq (wp_draw _ [0, 0, 0, 1, 0, 0, 0, 1, 0, 0, 0, 1, 0, 0, 0, 1, 0, 3, 4] mixed (by kernel_rfl) (lw_tv 1 rfl (q_nilP (hex.isPtr) rfl zN ?_))))
  obtain ⟨cs2, hr2, hl2⟩ := RN.at (good_rEx _) hex
  obtain ⟨dd2, ve2, hd2, rfl, hx2⟩ := RX.of hr2
  have hln2 := hx2.rn.lenle
  unfold maxLen at hln2
  refine q_fldL (p := ve) 0 fd31_0 rfl (hl2 _ (Chg.of_ext [] hE1.drew)) zN (q_load (p := (padd ve 0)) (.inl rfl) (.int .i64 ex.kind) one2 rfl ((hl2 _ (Chg.of_ext [] hE1.drew)).ld (i := 0) z87_0) zN (lw_tv 1 rfl (q_nilP (hex.isPtr) rfl zN (q_fldL (p := ve) 1 fd31_1 rfl (hl2 _ (Chg.of_ext [] hE1.drew)) zN (q_load (p := (padd ve 1)) (.inl rfl) (.int .i64 ex.num) one2 rfl ((hl2 _ (Chg.of_ext [] hE1.drew)).ld (i := 1) z87_0) zN (lw_tv 1 rfl (q_nilP (hex.isPtr) rfl zN (q_fldL (p := ve) 2 fd31_2 rfl (hl2 _ (Chg.of_ext [] hE1.drew)) zN (q_load (p := (padd ve 2)) (.inl rfl) (.int .i64 ex.pick) one2 rfl ((hl2 _ (Chg.of_ext [] hE1.drew)).ld (i := 2) z87_0) zN (lw_tv 1 rfl (q_nilP (hex.isPtr) rfl zN ?_)))))))))))
  refine q_fldL (p := ve) 3 fd31_3 rfl (hl2 _ (Chg.of_ext [] hE1.drew)) zN (q_load (p := (padd ve 3)) (.inl rfl) (.int .i64 ex.count) one2 rfl ((hl2 _ (Chg.of_ext [] hE1.drew)).ld (i := 3) z87_0) zN ?_)
  have hbd3 : ∀ (wq : World), (Instr.build 31 #[(0, (.int .i64 ex.kind)), (1, (.int .i64 ex.num)), (2, (.int .i64 ex.pick)), (3, (.int .i64 ex.count))]).run Try.prog wq = .ok (.agg #[(.int .i64 ex.kind), (.int .i64 ex.num), (.int .i64 ex.pick), (.int .i64 ex.count), (.slice none 0 0)]) wq := by intro wq; kernel_rfl
  refine q_build (ps := #[(0, (.int .i64 ex.kind)), (1, (.int .i64 ex.num)), (2, (.int .i64 ex.pick)), (3, (.int .i64 ex.count))]) (.agg #[(.int .i64 ex.kind), (.int .i64 ex.num), (.int .i64 ex.pick), (.int .i64 ex.count), (.slice none 0 0)]) (by simp only [List.map_toArray, List.map_cons, List.map_nil]; rfl) (fun wq => hbd3  wq) zN ?_
  have hq5 := hB1.lt
  have hdr4 : w1.drew.heap.size = w1.heap.size := rfl
  refine r_allocA (z := .agg #[.int .i64 0, .int .i64 0, .int .i64 0, .int .i64 0, .slice none 0 0]) zr31 zN fun w4 hX4 hz4 hB4 => ?_
  replace hX4 := hX4.of_drew
  have hzs4 : w1.heap.size ≤ w4.heap.size := hX4.size
  have hE4 : Ext w w4 := hE1.trans hX4
  have hB1x4 := hB1.ext hX4
  replace hB4 : BX w4.heap w1.drew.heap.size [(.int .i64 0), (.int .i64 0), (.int .i64 0), (.int .i64 0), (.slice none 0 0)] := hB4
  refine e_setA (vs := [(.int .i64 ex.kind), (.int .i64 ex.num), (.int .i64 ex.pick), (.int .i64 ex.count), (.slice none 0 0)]) agg31 rfl rfl (by intro u hu; simp only [List.mem_cons, List.not_mem_nil, or_false] at hu; rcases hu with rfl | rfl | rfl | rfl | rfl <;> first | exact ⟨rfl, rfl⟩) hB4 rfl rfl zN fun w6 hC6 hz6 hB6 => ?_
  replace hB6 : BX w6.heap w1.drew.heap.size [(.int .i64 ex.kind), (.int .i64 ex.num), (.int .i64 ex.pick), (.int .i64 ex.count), (.slice none 0 0)] := hB6
  have hzs6 : w4.heap.size ≤ w6.heap.size := hC6.size
  have hE6 : Ext w w6 := hC6.below hE4 (fun c hc => by have := List.mem_singleton.1 hc; omega) hE4.size
  have hF7 := hB1x4.chg hC6 (fun hm => by have := List.mem_singleton.1 hm; omega)
  refine lw_nil (wp_seq (wp_seq (wp_plain _ [0] rfl ?_)))
  have hrg : exR ex := hx2.rng
  have hdx : 1 ≤ dex := by omega
  refine lw_tvn 1 rfl (wp_block ?_)
  refine c_loop (S := Nat × Value) (fun (⟨i, vk⟩ : Nat × Value) => ([(4, (.int .i64 ((i : Nat) : Int))), (0, ve), (2, (.pointer (some ⟨w.heap.size, 0, none⟩))), (3, (.pointer (some ⟨w1.drew.heap.size, 0, none⟩)))] : List (Nat × Value))) (fun (⟨i, vk⟩ : Nat × Value) (W : World) => Ext w W ∧ Fr (owS 5 (oEx 31 (dex - 1)) 31) w6.heap.size W.heap.size W.heap vk (ex.kids.take i) ∧ BX W.heap w.heap.size [(.int .i64 0), (.int .i64 0), (.int .i64 0), (.int .i64 0), (.slice none 0 0)] ∧ BX W.heap w1.drew.heap.size [(.int .i64 ex.kind), (.int .i64 ex.num), (.int .i64 ex.pick), (.int .i64 ex.count), vk] ∧ i ≤ ex.kids.length ∧ w.heap.size < w6.heap.size ∧ w1.drew.heap.size < w6.heap.size ∧ w6.heap.size ≤ W.heap.size) (fun (⟨i, vk⟩ : Nat × Value) => ex.kids.length - i) (0, (.slice none 0 0)) ⟨rfl, rfl, rfl, rfl, trivial⟩ ⟨hE6, (frNilS _ 0 _).up (good_owS (good_oEx 31 (dex - 1))), hF7, hB6, oM, oM, oM, oM⟩ ?_
  clear hE0 hz1 hX1 hzs1 hE1 hln2 hz4 hX4 hzs4 hE4 hz6 hC6 hF7
  rintro ⟨i, vk⟩ ρ10 w10 ⟨hE10, hL10_0, hL10_1, hL10_2, hp10_0, hkg8, hkg9, hkB11⟩
  have hzs10 : w.heap.size ≤ w10.heap.size := hE10.size
  have hq12 := hL10_1.lt
  have hq13 := hL10_2.lt
  refine wp_seq (wp_seq (wp_plain _ [0, 0, 0, 0, 2, 0, 0] rfl (lw_tv 2 rfl (q_nilP (hex.isPtr) rfl zN (q_fldL (p := ve) 4 fd31_4 rfl (hl2 _ (Chg.of_ext [] hE10)) zN (q_load (p := (padd ve 4)) (.inr rfl) ve2 one29 rfl ((hl2 _ (Chg.of_ext [] hE10)).ld (i := 4) z87_0) zN (q_len (v := ve2) u29 rfl hx2.rn.isSl zN ?_)))))))
  by_cases hc14 : ((i : Nat) : Int) < ((ex.kids.length : Nat) : Int)
  ·
    refine q_lss true rfl rfl (decide_eq_true hc14) zN (lw_nil (c_cond_t rfl (wp_skip (wp_seq (wp_block (wp_draw _ [0, 1, 0, 0, 0, 1, 0, 0, 3, 3, 4, 0, 4] mixed (by kernel_rfl) (q_fldP (p := (.pointer (some ⟨w1.drew.heap.size, 0, none⟩))) (b := w1.drew.heap.size) (o := 0) 4 fd31_4 rfl rfl zN (q_load (p := (padd (.pointer (some ⟨w1.drew.heap.size, 0, none⟩)) 4)) (.inl rfl) vk one29 rfl (hL10_2.ldp (i := 4) sM) zN (lw_tv 1 rfl (q_nilP (hex.isPtr) rfl zN (q_fldL (p := ve) 4 fd31_4 rfl (hl2 _ (Chg.of_ext [] hE10.drew)) zN (q_load (p := (padd ve 4)) (.inl rfl) ve2 one29 rfl ((hl2 _ (Chg.of_ext [] hE10.drew)).ld (i := 4) z87_0) zN (lw_tv 1 rfl ?_)))))))))))))
    refine q_idx (v := ve2) i u29 tiS31 rfl rfl hx2.rn.isSl rfl sD zN ?_
    have hsa := sizes_at (l := ex.kids) (k := i) oM
    refine lw_call 87 [] [] [(eptr ve2 i 5)] rfl rfl cf87 zN (ih dd2 oM _ (eptr ve2 i 5) (ex.kids.getD i Ex.zero) (RN.ptr (good_rEx dd2) (by decide) Ex.zero (hx2.rn.ext (good_rdS (good_rEx dd2)) hE10.drew) sD) oM) ?_
    rintro e15 w15 ⟨v15, rfl, hX15, hO15, hr15, hd15⟩
    refine ⟨_, rfl, hX15, ?_⟩
    replace hX15 := hX15.of_drew
    have hzs15 : w10.heap.size ≤ w15.heap.size := hX15.size
    have hE15 : Ext w w15 := hE10.trans hX15
    have hL10_0x15 := hL10_0.ext ((good_owS (good_oEx 31 (dex - 1)))) hX15
    have hL10_1x15 := hL10_1.ext hX15
    have hL10_2x15 := hL10_2.ext hX15
    replace hO15 := hO15.low (B' := w10.heap.size) (Nat.le_refl _)
    refine r_oneS (cs := [(.int .i64 ((ex.kids.getD i Ex.zero).kind)), (.int .i64 ((ex.kids.getD i Ex.zero).num)), (.int .i64 ((ex.kids.getD i Ex.zero).pick)), (.int .i64 ((ex.kids.getD i Ex.zero).count)), v15]) (y := (ex.kids.getD i Ex.zero)) (B := w10.heap.size) (good_oEx 31 (dex - 1)) u29 tiS31 rfl (by decide) rfl (FrN.le (FrN.mk1 oM hr15 hO15) oM) oM zN fun v16 w16 hX16 hz16 hO16 => ?_
    have hzs16 : w15.heap.size ≤ w16.heap.size := hX16.size
    have hE16 : Ext w w16 := hE15.trans hX16
    have hL10_0x16 := hL10_0x15.ext ((good_owS (good_oEx 31 (dex - 1)))) hX16
    have hL10_1x16 := hL10_1x15.ext hX16
    have hL10_2x16 := hL10_2x15.ext hX16
    refine e_appS (v := vk) (a := v16) (good_oEx 31 (dex - 1)) u29 tiS31 rfl (by decide) rfl rfl hL10_0x16 oM hO16 oM oM (by rw [List.length_take]; omega) (by rw [List.length_take]; unfold maxLen; omega) zN fun v17 w17 F17 hC17 hF17 hO17 => ?_
    have hzs17 : w16.heap.size ≤ w17.heap.size := hC17.size
    have hE17 : Ext w w17 := hC17.below hE16 (fun c hc => by have := hF17 _ hc; omega) hE16.size
    have hF18 := hL10_1x16.chg hC17 (fun hm => by have := hF17 _ hm; omega)
    have hF19 := hL10_2x16.chg hC17 (fun hm => by have := hF17 _ hm; omega)
    refine q_fldP (p := (.pointer (some ⟨w1.drew.heap.size, 0, none⟩))) (b := w1.drew.heap.size) (o := 0) 4 fd31_4 rfl rfl zN (e_setB (k := 4) (w := w17) sz29 rfl rfl (isSl_one hO17.isSlS) hF19 sM zN fun w20 hC20 hz20 hB20 => ?_)
    replace hB20 : BX w20.heap w1.drew.heap.size [(.int .i64 ex.kind), (.int .i64 ex.num), (.int .i64 ex.pick), (.int .i64 ex.count), v17] := hB20
    have hzs20 : w17.heap.size ≤ w20.heap.size := hC20.size
    have hE20 : Ext w w20 := hC20.below hE17 (fun c hc => by have := List.mem_singleton.1 hc; omega) hE17.size
    have hF21 := hF18.chg hC20 (fun hm => by have := List.mem_singleton.1 hm; omega)
    have hF22 := hO17.chg ((good_owS (good_oEx 31 (dex - 1)))) hC20 (fun c hc => by have := List.mem_singleton.1 hc; omega)
    exact lw_nil (wp_plain _ [0, 0, 0] rfl (lw_tv 1 rfl (q_add ((i + 1 : Nat) : Int) rfl rfl (w64n oM oM) zN (lw_tvn 1 rfl ⟨((i + 1), v17), _, rfl, ⟨rfl, rfl, rfl, rfl, trivial⟩, ⟨hE20, (by rw [take_snoc Ex.zero oM]; exact hF22.up (good_owS (good_oEx 31 (dex - 1)))), hF21, hB20, oM, oM, oM, oM⟩, by first | omega | (dsimp only; omega)⟩))))
  ·
    refine q_lss false rfl rfl (decide_eq_false hc14) zN (lw_nil (c_cond_f rfl (wp_exit (t_exit (t_exit (c_exit_here (wp_seq (wp_plain _ [2, 4] rfl (q_loadA (p := (.pointer (some ⟨w1.drew.heap.size, 0, none⟩))) (.inr rfl) [(.int .i64 ex.kind), (.int .i64 ex.num), (.int .i64 ex.pick), (.int .i64 ex.count), vk] agg31 rfl (fun wq9 hw9 => LD.of_box (BX.ext (w := w10) hL10_2 hw9)) rfl zN (e_setA (vs := [(.int .i64 ex.kind), (.int .i64 ex.num), (.int .i64 ex.pick), (.int .i64 ex.count), vk]) agg31 rfl rfl (by intro u hu; simp only [List.mem_cons, List.not_mem_nil, or_false] at hu; rcases hu with rfl | rfl | rfl | rfl | rfl <;> first | exact ⟨rfl, rfl⟩ | exact isSl_one hL10_0.isSlS) hL10_1 rfl rfl zN fun w23 hC23 hz23 hB23 => ?_))))))))))
    replace hB23 : BX w23.heap w.heap.size [(.int .i64 ex.kind), (.int .i64 ex.num), (.int .i64 ex.pick), (.int .i64 ex.count), vk] := hB23
    have hzs23 : w10.heap.size ≤ w23.heap.size := hC23.size
    have hE23 : Ext w w23 := hC23.below hE10 (fun c hc => by have := List.mem_singleton.1 hc; omega) hE10.size
    have hF24 := hL10_0.chg ((good_owS (good_oEx 31 (dex - 1)))) hC23 (fun c hc => by have := List.mem_singleton.1 hc; omega)
    have hF25 := hL10_2.chg hC23 (fun hm => by have := List.mem_singleton.1 hm; omega)
    exact lw_nil (wp_ret (post_retA (cs := [(.int .i64 ex.kind), (.int .i64 ex.num), (.int .i64 ex.pick), (.int .i64 ex.count), vk]) rfl agg31 rfl hB23 rfl ⟨vk, rfl, hE23, (by have h := ((hF24.up (good_owS (good_oEx 31 (dex - 1)))).low (B' := w.heap.size) oM); rwa [List.take_of_length_le oM] at h), (by exact hrg), (by exact hdx)⟩))
theorem z63_0 {p : Prop} (h : p := by simp [exC, fnC]) : p := h
theorem c_spec_l02OwnProgram (w : World) (dp : Nat) (vp : Value) (p : List Fn) (hp : RN [] (rP (rPr dp)) w.heap vp p) (hz : SzP p) (hpl : p.length ≤ 1000000) :
    Calls Try.prog 63 #[vp] w (fun e w' => ∃ v, e = .returned (.agg #[v]) ∧ Ext w w' ∧ Fr (owS 3 (oFn 31 dp) 34) w.heap.size w'.heap.size w'.heap v p) := by
  refine calls_mk [vp] 70 Try.func63 rfl rfl sM ?_
  have hE0 : Ext w w := Ext.refl w
  refine wp_seq (wp_plain _ [3] rfl (r_allocA (z := .agg #[.slice none 0 0]) zr37 zN fun w1 hX1 hz1 hB1 => ?_))
  have hzs1 : w.heap.size ≤ w1.heap.size := hX1.size
  have hE1 : Ext w w1 := hE0.trans hX1
  replace hB1 : BX w1.heap w.heap.size [(.slice none 0 0)] := hB1
  refine lw_nil (wp_seq (wp_plain _ [0, 3, 4] rfl ?_))
  have hbd2 : ∀ (wq : World), (Instr.build 37 #[]).run Try.prog wq = .ok (.agg #[(.slice none 0 0)]) wq := by intro wq; kernel_rfl
  refine q_build (ps := #[]) (.agg #[(.slice none 0 0)]) (by simp only [List.map_toArray, List.map_cons, List.map_nil]) (fun wq => hbd2  wq) zN ?_
  have hq4 := hB1.lt
  refine r_allocA (z := .agg #[.slice none 0 0]) zr37 zN fun w3 hX3 hz3 hB3 => ?_
  have hzs3 : w1.heap.size ≤ w3.heap.size := hX3.size
  have hE3 : Ext w w3 := hE1.trans hX3
  have hB1x3 := hB1.ext hX3
  replace hB3 : BX w3.heap w1.heap.size [(.slice none 0 0)] := hB3
  refine e_setA (vs := [(.slice none 0 0)]) agg37 rfl rfl (by intro u hu; simp only [List.mem_cons, List.not_mem_nil, or_false] at hu; rcases hu with rfl <;> first | exact ⟨rfl, rfl⟩) hB3 rfl rfl zN fun w5 hC5 hz5 hB5 => ?_
  replace hB5 : BX w5.heap w1.heap.size [(.slice none 0 0)] := hB5
  have hzs5 : w3.heap.size ≤ w5.heap.size := hC5.size
  have hE5 : Ext w w5 := hC5.below hE3 (fun c hc => by have := List.mem_singleton.1 hc; omega) hE3.size
  have hF6 := hB1x3.chg hC5 (fun hm => by have := List.mem_singleton.1 hm; omega)
  refine lw_nil (wp_seq (wp_seq (wp_plain _ [0] rfl (lw_tvn 1 rfl (wp_block (c_loop (S := Nat × Value) (fun (⟨i, vq⟩ : Nat × Value) => ([(4, (.int .i64 ((i : Nat) : Int))), (0, vp), (2, (.pointer (some ⟨w.heap.size, 0, none⟩))), (3, (.pointer (some ⟨w1.heap.size, 0, none⟩)))] : List (Nat × Value))) (fun (⟨i, vq⟩ : Nat × Value) (W : World) => Ext w W ∧ Fr (owS 3 (oFn 31 dp) 34) w5.heap.size W.heap.size W.heap vq (p.take i) ∧ BX W.heap w.heap.size [(.slice none 0 0)] ∧ BX W.heap w1.heap.size [vq] ∧ i ≤ p.length ∧ w.heap.size < w5.heap.size ∧ w1.heap.size < w5.heap.size ∧ w5.heap.size ≤ W.heap.size) (fun (⟨i, vq⟩ : Nat × Value) => p.length - i) (0, (.slice none 0 0)) ⟨rfl, rfl, rfl, rfl, trivial⟩ ⟨hE5, (frNilS _ 0 _).up (good_owS (good_oFn 31 dp)), hF6, hB5, oM, oM, oM, oM⟩ ?_))))))
  clear hE0 hz1 hX1 hzs1 hE1 hz3 hX3 hzs3 hE3 hz5 hC5 hF6
  rintro ⟨i, vq⟩ ρ9 w9 ⟨hE9, hL9_0, hL9_1, hL9_2, hp9_0, hkg7, hkg8, hkB10⟩
  have hzs9 : w.heap.size ≤ w9.heap.size := hE9.size
  have hq11 := hL9_1.lt
  have hq12 := hL9_2.lt
  refine wp_seq (wp_seq (wp_plain _ [0, 0, 0, 0, 2, 0, 0] rfl (lw_tv 2 rfl (q_nilP (hp.isPtr) rfl zN ?_))))
  obtain ⟨cs13, hr13, hl13⟩ := RN.at (good_rPr _) hp
  obtain ⟨ve13, rfl, hx13⟩ := RPr.of hr13
  have hln13 := hx13.lenle
  unfold maxLen at hln13
  refine q_fldL (p := vp) 0 fd37_0 rfl (hl13 _ (Chg.of_ext [] hE9)) zN (q_load (p := (padd vp 0)) (.inr rfl) ve13 one35 rfl ((hl13 _ (Chg.of_ext [] hE9)).ld (i := 0) z63_0) zN (q_len (v := ve13) u35 rfl hx13.isSl zN ?_))
  by_cases hc14 : ((i : Nat) : Int) < ((p.length : Nat) : Int)
  ·
    refine q_lss true rfl rfl (decide_eq_true hc14) zN (lw_nil (c_cond_t rfl (wp_skip (wp_seq (wp_block (wp_seq (wp_draw _ [0, 0, 0, 1, 0, 0, 0, 1, 0, 0, 0, 1, 0, 0, 0, 1, 0, 3, 4] mixed (by kernel_rfl) (lw_tv 1 rfl (q_nilP (hp.isPtr) rfl zN (q_fldL (p := vp) 0 fd37_0 rfl (hl13 _ (Chg.of_ext [] hE9.drew)) zN (q_load (p := (padd vp 0)) (.inl rfl) ve13 one35 rfl ((hl13 _ (Chg.of_ext [] hE9.drew)).ld (i := 0) z63_0) zN (lw_tv 1 rfl ?_))))))))))))
    refine q_idx (v := ve13) i u35 tiS34 rfl rfl hx13.isSl rfl sD zN ?_
    obtain ⟨cs15, hr15, hl15⟩ := hx13.get (good_rFn dp) Fn.zero (k := i) sD
    obtain ⟨ve15, rfl, hx15⟩ := RF.of hr15
    have hln15 := hx15.rn.lenle
    unfold maxLen at hln15
    refine q_fldL (p := eptr ve13 i 3) 0 fd34_0 rfl (hl15 _ (Chg.of_ext [] hE9.drew)) zN (q_load (p := (padd (eptr ve13 i 3) 0)) (.inl rfl) (.string ((p.getD i Fn.zero).name)) one9 rfl ((hl15 _ (Chg.of_ext [] hE9.drew)).ld (i := 0) z63_0) zN (lw_tv 1 rfl (q_nilP (hp.isPtr) rfl zN (q_fldL (p := vp) 0 fd37_0 rfl (hl13 _ (Chg.of_ext [] hE9.drew)) zN (q_load (p := (padd vp 0)) (.inl rfl) ve13 one35 rfl ((hl13 _ (Chg.of_ext [] hE9.drew)).ld (i := 0) z63_0) zN (lw_tv 1 rfl ?_))))))
    refine q_idx (v := ve13) i u35 tiS34 rfl rfl hx13.isSl rfl sD zN (q_fldL (p := eptr ve13 i 3) 1 fd34_1 rfl (hl15 _ (Chg.of_ext [] hE9.drew)) zN (q_load (p := (padd (eptr ve13 i 3) 1)) (.inl rfl) (.int .i64 ((p.getD i Fn.zero).params)) one2 rfl ((hl15 _ (Chg.of_ext [] hE9.drew)).ld (i := 1) z63_0) zN ?_))
    have hbd16 : ∀ (wq : World), (Instr.build 34 #[(0, (.string ((p.getD i Fn.zero).name))), (1, (.int .i64 ((p.getD i Fn.zero).params)))]).run Try.prog wq = .ok (.agg #[(.string ((p.getD i Fn.zero).name)), (.int .i64 ((p.getD i Fn.zero).params)), (.slice none 0 0)]) wq := by intro wq; kernel_rfl
    refine q_build (ps := #[(0, (.string ((p.getD i Fn.zero).name))), (1, (.int .i64 ((p.getD i Fn.zero).params)))]) (.agg #[(.string ((p.getD i Fn.zero).name)), (.int .i64 ((p.getD i Fn.zero).params)), (.slice none 0 0)]) (by simp only [List.map_toArray, List.map_cons, List.map_nil]; rfl) (fun wq => hbd16  wq) zN ?_
    have hq18 := hL9_1.lt
    have hq19 := hL9_2.lt
    have hdr17 : w9.drew.heap.size = w9.heap.size := rfl
    refine r_allocA (z := .agg #[.string ByteArray.empty, .int .i64 0, .slice none 0 0]) zr34 zN fun w17 hX17 hz17 hB17 => ?_
    replace hX17 := hX17.of_drew
    have hzs17 : w9.heap.size ≤ w17.heap.size := hX17.size
    have hE17 : Ext w w17 := hE9.trans hX17
    have hL9_0x17 := hL9_0.ext ((good_owS (good_oFn 31 dp))) hX17
    have hL9_1x17 := hL9_1.ext hX17
    have hL9_2x17 := hL9_2.ext hX17
    replace hB17 : BX w17.heap w9.drew.heap.size [(.string ByteArray.empty), (.int .i64 0), (.slice none 0 0)] := hB17
    refine e_setA (vs := [(.string ((p.getD i Fn.zero).name)), (.int .i64 ((p.getD i Fn.zero).params)), (.slice none 0 0)]) agg34 rfl rfl (by intro u hu; simp only [List.mem_cons, List.not_mem_nil, or_false] at hu; rcases hu with rfl | rfl | rfl <;> first | exact ⟨rfl, rfl⟩) hB17 rfl rfl zN fun w20 hC20 hz20 hB20 => ?_
    replace hB20 : BX w20.heap w9.drew.heap.size [(.string ((p.getD i Fn.zero).name)), (.int .i64 ((p.getD i Fn.zero).params)), (.slice none 0 0)] := hB20
    have hzs20 : w17.heap.size ≤ w20.heap.size := hC20.size
    have hE20 : Ext w w20 := hC20.below hE17 (fun c hc => by have := List.mem_singleton.1 hc; omega) hE17.size
    have hF21 := hL9_0x17.chg ((good_owS (good_oFn 31 dp))) hC20 (fun c hc => by have := List.mem_singleton.1 hc; omega)
    have hF22 := hL9_1x17.chg hC20 (fun hm => by have := List.mem_singleton.1 hm; omega)
    have hF23 := hL9_2x17.chg hC20 (fun hm => by have := List.mem_singleton.1 hm; omega)
    refine lw_nil (wp_seq (wp_seq (wp_plain _ [0] rfl (lw_tvn 1 rfl (wp_block ?_)))))
    refine c_loop (S := Nat × Value) (fun (⟨k, vo⟩ : Nat × Value) => ([(6, (.int .i64 ((k : Nat) : Int))), (0, vp), (2, (.pointer (some ⟨w.heap.size, 0, none⟩))), (3, (.pointer (some ⟨w1.heap.size, 0, none⟩))), (4, (.int .i64 ((i : Nat) : Int))), (5, (.pointer (some ⟨w9.drew.heap.size, 0, none⟩)))] : List (Nat × Value))) (fun (⟨k, vo⟩ : Nat × Value) (W : World) => Ext w W ∧ Fr (owS 5 (oEx 31 dp) 31) w20.heap.size W.heap.size W.heap vo ((p.getD i Fn.zero).outs.take k) ∧ Fr (owS 3 (oFn 31 dp) 34) w5.heap.size w9.heap.size W.heap vq (p.take i) ∧ BX W.heap w.heap.size [(.slice none 0 0)] ∧ BX W.heap w1.heap.size [vq] ∧ BX W.heap w9.drew.heap.size [(.string ((p.getD i Fn.zero).name)), (.int .i64 ((p.getD i Fn.zero).params)), vo] ∧ k ≤ (p.getD i Fn.zero).outs.length ∧ w9.heap.size ≤ w20.heap.size ∧ w9.heap.size ≤ w9.drew.heap.size ∧ w.heap.size ≤ w5.heap.size ∧ w.heap.size < w20.heap.size ∧ w1.heap.size < w20.heap.size ∧ w9.drew.heap.size < w20.heap.size ∧ w20.heap.size ≤ W.heap.size ∧ w5.heap.size ≤ W.heap.size) (fun (⟨k, vo⟩ : Nat × Value) => (p.getD i Fn.zero).outs.length - k) (0, (.slice none 0 0)) ⟨rfl, rfl, rfl, rfl, rfl, rfl, trivial⟩ ⟨hE20, (frNilS _ 0 _).up (good_owS (good_oEx 31 dp)), hF21, hF22, hF23, hB20, oM, oM, oM, oM, oM, oM, oM, oM, oM⟩ ?_
    clear hL9_2 hL9_1 hL9_0 hln13 hln15 hz17 hX17 hzs17 hE17 hL9_0x17 hL9_1x17 hL9_2x17 hz20 hC20 hF21 hF22 hF23
    rintro ⟨k, vo⟩ ρ27 w27 ⟨hE27, hL27_0, hL27_1, hL27_2, hL27_3, hL27_4, hp27_0, huw, huf, hwb, hkg24, hkg25, hkg26, hkB28, hkB29⟩
    have hzs27 : w.heap.size ≤ w27.heap.size := hE27.size
    have hq30 := hL27_2.lt
    have hq31 := hL27_3.lt
    have hq32 := hL27_4.lt
    refine wp_seq (wp_seq (wp_plain _ [0, 0, 0, 0, 2, 0, 0, 0, 2, 0, 0] rfl (lw_tv 2 rfl (q_nilP (hp.isPtr) rfl zN (q_fldL (p := vp) 0 fd37_0 rfl (hl13 _ (Chg.of_ext [] hE27)) zN (q_load (p := (padd vp 0)) (.inr rfl) ve13 one35 rfl ((hl13 _ (Chg.of_ext [] hE27)).ld (i := 0) z63_0) zN (lw_tv 1 rfl (q_idx (v := ve13) i u35 tiS34 rfl rfl hx13.isSl rfl sD zN ?_))))))))
    refine q_fldL (p := eptr ve13 i 3) 2 fd34_2 rfl (hl15 _ (Chg.of_ext [] hE27)) zN (q_load (p := (padd (eptr ve13 i 3) 2)) (.inr rfl) ve15 one29 rfl ((hl15 _ (Chg.of_ext [] hE27)).ld (i := 2) z63_0) zN ?_)
    have hzi := hz i oM
    refine q_len (v := ve15) u29 rfl hx15.rn.isSl zN ?_
    by_cases hc33 : ((k : Nat) : Int) < ((((p.getD i Fn.zero).outs).length : Nat) : Int)
    ·
      refine q_lss true rfl rfl (decide_eq_true hc33) zN (lw_nil (c_cond_t rfl (wp_skip (wp_seq (wp_block (wp_draw _ [0, 1, 0, 0, 0, 1, 0, 0, 0, 1, 0, 0, 3, 3, 4, 0, 4] mixed (by kernel_rfl) (q_fldP (p := (.pointer (some ⟨w9.drew.heap.size, 0, none⟩))) (b := w9.drew.heap.size) (o := 0) 2 fd34_2 rfl rfl zN (q_load (p := (padd (.pointer (some ⟨w9.drew.heap.size, 0, none⟩)) 2)) (.inl rfl) vo one29 rfl (hL27_4.ldp (i := 2) sM) zN (lw_tv 1 rfl (q_nilP (hp.isPtr) rfl zN (q_fldL (p := vp) 0 fd37_0 rfl (hl13 _ (Chg.of_ext [] hE27.drew)) zN (q_load (p := (padd vp 0)) (.inl rfl) ve13 one35 rfl ((hl13 _ (Chg.of_ext [] hE27.drew)).ld (i := 0) z63_0) zN (lw_tv 1 rfl ?_)))))))))))))
      refine q_idx (v := ve13) i u35 tiS34 rfl rfl hx13.isSl rfl sD zN (q_fldL (p := eptr ve13 i 3) 2 fd34_2 rfl (hl15 _ (Chg.of_ext [] hE27.drew)) zN (q_load (p := (padd (eptr ve13 i 3) 2)) (.inl rfl) ve15 one29 rfl ((hl15 _ (Chg.of_ext [] hE27.drew)).ld (i := 2) z63_0) zN (lw_tv 1 rfl ?_)))
      refine q_idx (v := ve15) k u29 tiS31 rfl rfl hx15.rn.isSl rfl sD zN ?_
      have hzi := hz i oM
      have hsa := sizes_at (l := (p.getD i Fn.zero).outs) (k := k) oM
      refine lw_call 87 [] [] [(eptr ve15 k 5)] rfl rfl cf87 zN (c_spec_l02Own _ dp (eptr ve15 k 5) (((p.getD i Fn.zero).outs).getD k Ex.zero) (RN.ptr (good_rEx dp) (by decide) Ex.zero (hx15.rn.ext (good_rdS (good_rEx dp)) hE27.drew) sD) oM) ?_
      rintro e34 w34 ⟨v34, rfl, hX34, hO34, hr34, hd34⟩
      refine ⟨_, rfl, hX34, ?_⟩
      replace hX34 := hX34.of_drew
      have hzs34 : w27.heap.size ≤ w34.heap.size := hX34.size
      have hE34 : Ext w w34 := hE27.trans hX34
      have hL27_0x34 := hL27_0.ext ((good_owS (good_oEx 31 dp))) hX34
      have hL27_1x34 := hL27_1.ext ((good_owS (good_oFn 31 dp))) hX34
      have hL27_2x34 := hL27_2.ext hX34
      have hL27_3x34 := hL27_3.ext hX34
      have hL27_4x34 := hL27_4.ext hX34
      replace hO34 := hO34.low (B' := w27.heap.size) (Nat.le_refl _)
      refine r_oneS (cs := [(.int .i64 ((((p.getD i Fn.zero).outs).getD k Ex.zero).kind)), (.int .i64 ((((p.getD i Fn.zero).outs).getD k Ex.zero).num)), (.int .i64 ((((p.getD i Fn.zero).outs).getD k Ex.zero).pick)), (.int .i64 ((((p.getD i Fn.zero).outs).getD k Ex.zero).count)), v34]) (y := (((p.getD i Fn.zero).outs).getD k Ex.zero)) (B := w27.heap.size) (good_oEx 31 dp) u29 tiS31 rfl (by decide) rfl (FrN.mk1 oM hr34 hO34) oM zN fun v35 w35 hX35 hz35 hO35 => ?_
      have hzs35 : w34.heap.size ≤ w35.heap.size := hX35.size
      have hE35 : Ext w w35 := hE34.trans hX35
      have hL27_0x35 := hL27_0x34.ext ((good_owS (good_oEx 31 dp))) hX35
      have hL27_1x35 := hL27_1x34.ext ((good_owS (good_oFn 31 dp))) hX35
      have hL27_2x35 := hL27_2x34.ext hX35
      have hL27_3x35 := hL27_3x34.ext hX35
      have hL27_4x35 := hL27_4x34.ext hX35
      refine e_appS (v := vo) (a := v35) (good_oEx 31 dp) u29 tiS31 rfl (by decide) rfl rfl hL27_0x35 oM hO35 oM oM (by rw [List.length_take]; omega) (by rw [List.length_take]; unfold maxLen; omega) zN fun v36 w36 F36 hC36 hF36 hO36 => ?_
      have hzs36 : w35.heap.size ≤ w36.heap.size := hC36.size
      have hE36 : Ext w w36 := hC36.below hE35 (fun c hc => by have := hF36 _ hc; omega) hE35.size
      have hF37 := hL27_1x35.chg ((good_owS (good_oFn 31 dp))) hC36 (fun c hc => by have := hF36 _ hc; omega)
      have hF38 := hL27_2x35.chg hC36 (fun hm => by have := hF36 _ hm; omega)
      have hF39 := hL27_3x35.chg hC36 (fun hm => by have := hF36 _ hm; omega)
      have hF40 := hL27_4x35.chg hC36 (fun hm => by have := hF36 _ hm; omega)
      refine q_fldP (p := (.pointer (some ⟨w9.drew.heap.size, 0, none⟩))) (b := w9.drew.heap.size) (o := 0) 2 fd34_2 rfl rfl zN (e_setB (k := 2) (w := w36) sz29 rfl rfl (isSl_one hO36.isSlS) hF40 sM zN fun w41 hC41 hz41 hB41 => ?_)
      replace hB41 : BX w41.heap w9.drew.heap.size [(.string ((p.getD i Fn.zero).name)), (.int .i64 ((p.getD i Fn.zero).params)), v36] := hB41
      have hzs41 : w36.heap.size ≤ w41.heap.size := hC41.size
      have hE41 : Ext w w41 := hC41.below hE36 (fun c hc => by have := List.mem_singleton.1 hc; omega) hE36.size
      have hF42 := hF37.chg ((good_owS (good_oFn 31 dp))) hC41 (fun c hc => by have := List.mem_singleton.1 hc; omega)
      have hF43 := hF38.chg hC41 (fun hm => by have := List.mem_singleton.1 hm; omega)
      have hF44 := hF39.chg hC41 (fun hm => by have := List.mem_singleton.1 hm; omega)
      have hF45 := hO36.chg ((good_owS (good_oEx 31 dp))) hC41 (fun c hc => by have := List.mem_singleton.1 hc; omega)
      exact lw_nil (wp_plain _ [0, 0, 0] rfl (lw_tv 1 rfl (q_add ((k + 1 : Nat) : Int) rfl rfl (w64n oM oM) zN (lw_tvn 1 rfl ⟨((k + 1), v36), _, rfl, ⟨rfl, rfl, rfl, rfl, rfl, rfl, trivial⟩, ⟨hE41, (by rw [take_snoc Ex.zero oM]; exact hF45.up (good_owS (good_oEx 31 dp))), hF42, hF43, hF44, hB41, oM, oM, oM, oM, oM, oM, oM, oM, oM⟩, by first | omega | (dsimp only; omega)⟩))))
    ·
      refine q_lss false rfl rfl (decide_eq_false hc33) zN (lw_nil (c_cond_f rfl (wp_exit (t_exit (t_exit (c_exit_here (wp_plain _ [0, 2, 2, 3, 4, 0, 4] rfl (q_fldP (p := (.pointer (some ⟨w1.heap.size, 0, none⟩))) (b := w1.heap.size) (o := 0) 0 fd37_0 rfl rfl zN (q_load (p := (padd (.pointer (some ⟨w1.heap.size, 0, none⟩)) 0)) (.inr rfl) vq one35 rfl (hL27_3.ldp (i := 0) sM) zN (q_loadA (p := (.pointer (some ⟨w9.drew.heap.size, 0, none⟩))) (.inr rfl) [(.string ((p.getD i Fn.zero).name)), (.int .i64 ((p.getD i Fn.zero).params)), vo] agg34 rfl (fun wq9 hw9 => LD.of_box (BX.ext (w := w27) hL27_4 hw9)) rfl zN ?_))))))))))
      refine r_oneS (cs := [(.string ((p.getD i Fn.zero).name)), (.int .i64 ((p.getD i Fn.zero).params)), vo]) (y := (Fn.mk ((p.getD i Fn.zero).name) ((p.getD i Fn.zero).params) ((p.getD i Fn.zero).outs.take k))) (B := w20.heap.size) (good_oFn 31 dp) u35 tiS34 rfl (by decide) rfl (FrN.mkF (x := ⟨((p.getD i Fn.zero).name), ((p.getD i Fn.zero).params), ((p.getD i Fn.zero).outs.take k)⟩) (i64_mk (a := ((p.getD i Fn.zero).params)) hx15.rng) hL27_0) oM zN fun v46 w46 hX46 hz46 hO46 => ?_
      have hzs46 : w27.heap.size ≤ w46.heap.size := hX46.size
      have hE46 : Ext w w46 := hE27.trans hX46
      have hL27_1x46 := hL27_1.ext ((good_owS (good_oFn 31 dp))) hX46
      have hL27_2x46 := hL27_2.ext hX46
      have hL27_3x46 := hL27_3.ext hX46
      have hL27_4x46 := hL27_4.ext hX46
      refine e_appS (v := vq) (a := v46) (good_oFn 31 dp) u35 tiS34 rfl (by decide) rfl rfl hL27_1x46 oM hO46 oM oM (by rw [List.length_take]; omega) (by rw [List.length_take]; unfold maxLen; omega) zN fun v47 w47 F47 hC47 hF47 hO47 => ?_
      have hzs47 : w46.heap.size ≤ w47.heap.size := hC47.size
      have hE47 : Ext w w47 := hC47.below hE46 (fun c hc => by have := hF47 _ hc; omega) hE46.size
      have hF48 := hL27_2x46.chg hC47 (fun hm => by have := hF47 _ hm; omega)
      have hF49 := hL27_3x46.chg hC47 (fun hm => by have := hF47 _ hm; omega)
      have hF50 := hL27_4x46.chg hC47 (fun hm => by have := hF47 _ hm; omega)
      refine q_fldP (p := (.pointer (some ⟨w1.heap.size, 0, none⟩))) (b := w1.heap.size) (o := 0) 0 fd37_0 rfl rfl zN (e_setB (k := 0) (w := w47) sz35 rfl rfl (isSl_one hO47.isSlS) hF49 sM zN fun w51 hC51 hz51 hB51 => ?_)
      replace hB51 : BX w51.heap w1.heap.size [v47] := hB51
      have hzs51 : w47.heap.size ≤ w51.heap.size := hC51.size
      have hE51 : Ext w w51 := hC51.below hE47 (fun c hc => by have := List.mem_singleton.1 hc; omega) hE47.size
      have hF52 := hF48.chg hC51 (fun hm => by have := List.mem_singleton.1 hm; omega)
      have hF53 := hF50.chg hC51 (fun hm => by have := List.mem_singleton.1 hm; omega)
      have hF54 := hO47.chg ((good_owS (good_oFn 31 dp))) hC51 (fun c hc => by have := List.mem_singleton.1 hc; omega)
      exact lw_nil (wp_plain _ [0, 0, 0] rfl (lw_tv 1 rfl (q_add ((i + 1 : Nat) : Int) rfl rfl (w64n oM oM) zN (lw_tvn 1 rfl ⟨((i + 1), v47), _, rfl, ⟨rfl, rfl, rfl, rfl, trivial⟩, ⟨hE51, (by have h := hF54.up (good_owS (good_oFn 31 dp)); rw [show (p.getD i Fn.zero).outs.take k = (p.getD i Fn.zero).outs from List.take_of_length_le oM] at h; rw [take_snoc Fn.zero oM]; exact h), hF52, hB51, oM, oM, oM, oM⟩, by first | omega | (dsimp only; omega)⟩))))
  ·
    refine q_lss false rfl rfl (decide_eq_false hc14) zN (lw_nil (c_cond_f rfl (wp_exit (t_exit (t_exit (c_exit_here (wp_seq (wp_plain _ [2, 4] rfl (q_loadA (p := (.pointer (some ⟨w1.heap.size, 0, none⟩))) (.inr rfl) [vq] agg37 rfl (fun wq9 hw9 => LD.of_box (BX.ext (w := w9) hL9_2 hw9)) rfl zN (e_setA (vs := [vq]) agg37 rfl rfl (by intro u hu; simp only [List.mem_cons, List.not_mem_nil, or_false] at hu; rcases hu with rfl <;> first | exact ⟨rfl, rfl⟩ | exact isSl_one hL9_0.isSlS) hL9_1 rfl rfl zN fun w55 hC55 hz55 hB55 => ?_))))))))))
    replace hB55 : BX w55.heap w.heap.size [vq] := hB55
    have hzs55 : w9.heap.size ≤ w55.heap.size := hC55.size
    have hE55 : Ext w w55 := hC55.below hE9 (fun c hc => by have := List.mem_singleton.1 hc; omega) hE9.size
    have hF56 := hL9_0.chg ((good_owS (good_oFn 31 dp))) hC55 (fun c hc => by have := List.mem_singleton.1 hc; omega)
    have hF57 := hL9_2.chg hC55 (fun hm => by have := List.mem_singleton.1 hm; omega)
    exact lw_nil (wp_ret (post_retA (cs := [vq]) rfl agg37 rfl hB55 rfl ⟨vq, rfl, hE55, (by have h := ((hF56.up (good_owS (good_oFn 31 dp))).low (B' := w.heap.size) oM); rwa [List.take_of_length_le oM] at h)⟩))
theorem c_spec_A2Join (w : World) (dp : Nat) (vp : Value) (p : List Fn) (nm : ByteArray) (k : Int) (vo : Value) (xs : List Ex) (Bxs Uxs : Nat) (hp : RP [] dp w.heap vp p) (_hk : -9223372036854775808 ≤ k ∧ k ≤ 9223372036854775807) (hxs : Fr (owS 5 (oEx 31 dp) 31) Bxs Uxs w.heap vo xs) (hUxs : Uxs ≤ w.heap.size) (hBxs : Bxs ≤ w.heap.size) (hz : SzP p) (hpl : p.length ≤ 1000000) :
    Calls Try.prog 30 #[(.agg #[vp]), .string nm, .int .i64 k, vo] w (fun e w' => ∃ v, e = .returned (.agg #[v]) ∧ Ext w w' ∧ Fr (owS 3 (oFn 31 dp) 34) Bxs w'.heap.size w'.heap v (p ++ [Fn.mk nm k xs])) := by
  refine calls_mk [(.agg #[vp]), .string nm, .int .i64 k, vo] 21 Try.func30 rfl rfl sM ?_
  have hE0 : Ext w w := Ext.refl w
  have hl_vp := hp.lenle
  unfold maxLen at hl_vp
  refine wp_seq (wp_plain _ [3, 3] rfl (r_boxA (cs := #[vp]) rfl zN fun w1 hX1 hz1 hB1 => ?_))
  have hzs1 : w.heap.size ≤ w1.heap.size := hX1.size
  have hE1 : Ext w w1 := hE0.trans hX1
  have hxsx1 := hxs.ext ((good_owS (good_oEx 31 dp))) hX1
  replace hB1 : BX w1.heap w.heap.size [vp] := hB1
  have hq3 := hB1.lt
  refine r_allocA (z := .agg #[.slice none 0 0]) zr37 zN fun w2 hX2 hz2 hB2 => ?_
  have hzs2 : w1.heap.size ≤ w2.heap.size := hX2.size
  have hE2 : Ext w w2 := hE1.trans hX2
  have hxsx2 := hxsx1.ext ((good_owS (good_oEx 31 dp))) hX2
  have hB1x2 := hB1.ext hX2
  replace hB2 : BX w2.heap w1.heap.size [(.slice none 0 0)] := hB2
  refine lw_nil (wp_seq (wp_plain _ [3, 3, 4] rfl (lw_call 63 [] [] [(.pointer (some ⟨w.heap.size, 0, none⟩))] rfl rfl cf63 zN (c_spec_l02OwnProgram _ dp ((.pointer (some ⟨w.heap.size, 0, none⟩))) (p) (RN.box hB1x2 (RP.mk' (hp.ext (good_rdS (good_rFn dp)) hE2)) sM) (by exact hz) oM) ?_)))
  rintro e4 w4 ⟨v4, rfl, hX4, hO4⟩
  refine ⟨_, rfl, hX4, ?_⟩
  have hzs4 : w2.heap.size ≤ w4.heap.size := hX4.size
  have hE4 : Ext w w4 := hE2.trans hX4
  have hxsx4 := hxsx2.ext ((good_owS (good_oEx 31 dp))) hX4
  have hB1x4 := hB1x2.ext hX4
  have hB2x4 := hB2.ext hX4
  have hq6 := hB1x4.lt
  have hq7 := hB2x4.lt
  refine r_allocA (z := .agg #[.slice none 0 0]) zr37 zN fun w5 hX5 hz5 hB5 => ?_
  have hzs5 : w4.heap.size ≤ w5.heap.size := hX5.size
  have hE5 : Ext w w5 := hE4.trans hX5
  have hxsx5 := hxsx4.ext ((good_owS (good_oEx 31 dp))) hX5
  have hB1x5 := hB1x4.ext hX5
  have hB2x5 := hB2x4.ext hX5
  have hO4x5 := hO4.ext ((good_owS (good_oFn 31 dp))) hX5
  replace hB5 : BX w5.heap w4.heap.size [(.slice none 0 0)] := hB5
  refine e_setA (vs := [v4]) agg37 rfl rfl (by intro u hu; simp only [List.mem_cons, List.not_mem_nil, or_false] at hu; rcases hu with rfl <;> first | exact ⟨rfl, rfl⟩ | exact isSl_one hO4x5.isSlS) hB5 rfl rfl zN fun w8 hC8 hz8 hB8 => ?_
  replace hB8 : BX w8.heap w4.heap.size [v4] := hB8
  have hzs8 : w5.heap.size ≤ w8.heap.size := hC8.size
  have hE8 : Ext w w8 := hC8.below hE5 (fun c hc => by have := List.mem_singleton.1 hc; omega) hE5.size
  have hF9 := hxsx5.chg ((good_owS (good_oEx 31 dp))) hC8 (fun c hc => by have := List.mem_singleton.1 hc; omega)
  have hF10 := hB1x5.chg hC8 (fun hm => by have := List.mem_singleton.1 hm; omega)
  have hF11 := hB2x5.chg hC8 (fun hm => by have := List.mem_singleton.1 hm; omega)
  have hF12 := hO4x5.chg ((good_owS (good_oFn 31 dp))) hC8 (fun c hc => by have := List.mem_singleton.1 hc; omega)
  refine lw_nil (wp_seq (wp_plain _ [0, 2, 0, 0, 0, 0, 3, 4, 0, 4] rfl (q_fldP (p := (.pointer (some ⟨w4.heap.size, 0, none⟩))) (b := w4.heap.size) (o := 0) 0 fd37_0 rfl rfl zN (q_load (p := (padd (.pointer (some ⟨w4.heap.size, 0, none⟩)) 0)) (.inr rfl) v4 one35 rfl (hB8.ldp (i := 0) sM) zN (lw_tv 3 rfl ?_)))))
  have hbd13 : ∀ (vo : Value) (m13_0 : Nat) (h13_0 : isSl vo m13_0) (wq : World), (Instr.build 34 #[(0, (.string nm)), (1, (.int .i64 k)), (2, vo)]).run Try.prog wq = .ok (.agg #[(.string nm), (.int .i64 k), vo]) wq := by intro vo m13_0 h13_0 wq; obtain ⟨a13_0, c13_0, rfl, _⟩ := h13_0; kernel_rfl
  refine q_build (ps := #[(0, (.string nm)), (1, (.int .i64 k)), (2, vo)]) (.agg #[(.string nm), (.int .i64 k), vo]) (by simp only [List.map_toArray, List.map_cons, List.map_nil]; rfl) (fun wq => hbd13 vo _ hF9.isSlS wq) zN (r_oneQ (cs := [(.string nm), (.int .i64 k), vo]) (y := (Fn.mk nm k xs)) (good_oFn 31 dp) u35 tiS34 rfl (by decide) rfl (FrN.mkF (x := ⟨nm, k, xs⟩) (i64_mk (a := k) _hk) hF9) zN fun v14 w14 hX14 hz14 hO14 => ?_)
  have hzs14 : w8.heap.size ≤ w14.heap.size := hX14.size
  have hE14 : Ext w w14 := hE8.trans hX14
  have hF10x14 := hF10.ext hX14
  have hF11x14 := hF11.ext hX14
  have hF12x14 := hF12.ext ((good_owS (good_oFn 31 dp))) hX14
  have hB8x14 := hB8.ext hX14
  refine e_appG (v := v4) (a := v14) (good_oFn 31 dp) u35 tiS34 rfl (by decide) rfl rfl hF12x14 hO14 (fun b h8 h9 => by (try dsimp only at h9); omega) oM (by unfold maxLen; omega) zN fun v15 w15 F15 hC15 hF15 hO15 => ?_
  have hzs15 : w14.heap.size ≤ w15.heap.size := hC15.size
  have hE15 : Ext w w15 := hC15.below hE14 (fun c hc => by have := hF15 _ hc; omega) hE14.size
  have hF16 := hF10x14.chg hC15 (fun hm => by have := hF15 _ hm; omega)
  have hF17 := hF11x14.chg hC15 (fun hm => by have := hF15 _ hm; omega)
  have hF18 := hB8x14.chg hC15 (fun hm => by have := hF15 _ hm; omega)
  refine q_fldP (p := (.pointer (some ⟨w4.heap.size, 0, none⟩))) (b := w4.heap.size) (o := 0) 0 fd37_0 rfl rfl zN (e_setB (k := 0) (w := w15) sz35 rfl rfl (isSl_one (FrP.isSlS hO15)) hF18 sM zN fun w19 hC19 hz19 hB19 => ?_)
  replace hB19 : BX w19.heap w4.heap.size [v15] := hB19
  have hzs19 : w15.heap.size ≤ w19.heap.size := hC19.size
  have hE19 : Ext w w19 := hC19.below hE15 (fun c hc => by have := List.mem_singleton.1 hc; omega) hE15.size
  have hF20 := hF16.chg hC19 (fun hm => by have := List.mem_singleton.1 hm; omega)
  have hF21 := hF17.chg hC19 (fun hm => by have := List.mem_singleton.1 hm; omega)
  have hF22 := hO15.chg (good_owS (good_oFn 31 dp)) hC19 (fun c hc => by have := List.mem_singleton.1 hc; intro hs9; (try dsimp only at hs9); omega)
  refine lw_nil (wp_seq (wp_plain _ [2, 4] rfl (q_loadA (p := (.pointer (some ⟨w4.heap.size, 0, none⟩))) (.inr rfl) [v15] agg37 rfl (fun wq9 hw9 => LD.of_box (BX.ext (w := w19) hB19 hw9)) rfl zN (e_setA (vs := [v15]) agg37 rfl rfl (by intro u hu; simp only [List.mem_cons, List.not_mem_nil, or_false] at hu; rcases hu with rfl <;> first | exact ⟨rfl, rfl⟩ | exact isSl_one (FrP.isSlS hF22)) hF21 rfl rfl zN fun w23 hC23 hz23 hB23 => ?_))))
  replace hB23 : BX w23.heap w1.heap.size [v15] := hB23
  have hzs23 : w19.heap.size ≤ w23.heap.size := hC23.size
  have hE23 : Ext w w23 := hC23.below hE19 (fun c hc => by have := List.mem_singleton.1 hc; omega) hE19.size
  have hF24 := hF20.chg hC23 (fun hm => by have := List.mem_singleton.1 hm; omega)
  have hF25 := hB19.chg hC23 (fun hm => by have := List.mem_singleton.1 hm; omega)
  have hF26 := hF22.chg (good_owS (good_oFn 31 dp)) hC23 (fun c hc => by have := List.mem_singleton.1 hc; intro hs9; (try dsimp only at hs9); omega)
  exact lw_nil (wp_ret (post_retA (cs := [v15]) rfl agg37 rfl hB23 rfl ⟨v15, rfl, hE23, (hF26.fr (good_owS (good_oFn 31 dp)) (B := Bxs) (fun b hb => by (try dsimp only at hb); omega))⟩))
end Go.Proofs.Ytnofbmdpabcjaaa
