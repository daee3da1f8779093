/- Vi, Vj, Vk: texts of this claim, joined; what the claim does not come to is left out. -/
import Derived.Test.YtnofbmdpabcjaaaGreatQB4
import Derived.Test.YtnofbmdpabcjaaaGreatProg
set_option linter.unusedVariables false
set_option linter.unusedSimpArgs false
namespace Go.Proofs.YtnofbmdpabcjaaaGreat
open Go Go.RowKit
set_option linter.unusedVariables false
set_option linter.unusedSimpArgs false
attribute [local irreducible] LW
set_option maxHeartbeats 4000000 in
set_option maxRecDepth 100000 in
theorem c_spec_l00Max (w : World) (a : Int) (b : Int) (_ha : -9223372036854775808 ≤ a ∧ a ≤ 9223372036854775807) (_hb : -9223372036854775808 ≤ b ∧ b ≤ 9223372036854775807)  :
  Calls Tryz.prog 170 #[.int .i64 a,.int .i64 b] w (fun e w' => e = .returned (.int .i64 (max a b)) ∧ w' = w) := by
 refine calls_mk [.int .i64 a,.int .i64 b] 10 Tryz.func170 rfl rfl (by simp) ?_
 have hE0 : w = w := rfl
 refine wp_seq ?_
 refine wp_plain _ [0] rfl ?_
 refine q_assign (.int .i64 ((0 :Nat):Int)) rfl zN ?_
 refine lw_nil ?_
 refine wp_seq ?_
 refine wp_seq ?_
 refine wp_plain _ [0,0,0] rfl ?_
 refine q_move (.int .i64 a) rfl zN ?_
 refine q_move (.int .i64 b) rfl zN ?_
 by_cases hc1 : b < a
 ·
  refine q_gtr true rfl rfl (decide_eq_true hc1) zN ?_
  refine lw_nil ?_
  refine c_cond_t rfl ?_
  refine wp_seq ?_
  refine wp_plain _ [0,0] rfl ?_
  refine q_move (.int .i64 a) rfl zN ?_
  refine q_assign (.int .i64 a) rfl zN ?_
  refine lw_nil ?_
  refine wp_ret ?_
  refine t_ret ?_
  exact post_ret [4] rfl (.int .i64 a) rfl ⟨(ret_int (by omega)),hE0⟩
 ·
  refine q_gtr false rfl rfl (decide_eq_false hc1) zN ?_
  refine lw_nil ?_
  refine c_cond_f rfl ?_
  refine wp_skip ?_
  refine wp_seq ?_
  refine wp_plain _ [0,0] rfl ?_
  refine q_move (.int .i64 b) rfl zN ?_
  refine q_assign (.int .i64 b) rfl zN ?_
  refine lw_nil ?_
  refine wp_ret ?_
  exact post_ret [4] rfl (.int .i64 b) rfl ⟨(ret_int (by omega)),hE0⟩
set_option maxHeartbeats 4000000 in
set_option maxRecDepth 100000 in
theorem c_spec_l02Left (w : World) (dex : Nat) (ve : Value) (ex : Ex) (left : Int) (hex : RN [] (rP (rEx dex)) w.heap ve ex) (_hleft : -9223372036854775808 ≤ left ∧ left ≤ 9223372036854775807) (hl0 : 0 ≤ left ∧ left ≤ 100000) (hs : ex.size ≤ 1000000000) :
  Calls Tryz.prog 138 #[ve,.int .i64 left] w (fun e w' => e = .returned (.int .i64 (lftE ex left)) ∧ Ext w w') := by
 induction dex using Nat.strongRecOn generalizing w ve ex left
 rename_i dex ih
 refine calls_mk [ve,.int .i64 left] 30 Tryz.func138 rfl rfl (by simp) ?_
 have hE0 : Ext w w := Ext.refl w
 have hsk := size_kids ex
 refine wp_seq ?_
 refine wp_plain _ [0] rfl ?_
 refine q_assign (.int .i64 ((0 :Nat):Int)) rfl zN ?_
 refine lw_nil ?_
 refine wp_seq ?_
 refine wp_plain _ [0,0,0] rfl ?_
 refine q_move (.int .i64 left) rfl zN ?_
 refine q_sub (left - 1) rfl rfl (w64 (by omega) (by omega)) zN ?_
 refine q_assign (.int .i64 (left - 1)) rfl zN ?_
 refine lw_nil ?_
 refine wp_seq ?_
 refine wp_seq ?_
 refine wp_plain _ [0] rfl ?_
 refine q_assign (.int .i64 ((0 :Nat):Int)) rfl zN ?_
 refine lw_nil ?_
 refine wp_block ?_
 refine c_loop (S := Nat × Int) (fun (⟨k,x⟩ : Nat × Int) => ([(1,(.int .i64 x)),(5,(.int .i64 ((k :Nat):Int))),(0,ve)] : List (Nat × Value))) (fun (⟨k,x⟩ : Nat × Int) (W : World) => Ext w W ∧ k ≤ ex.kids.length ∧ x = lfts (ex.kids.take k) (left - 1) ∧ (-1 ≤ x ∧ x ≤ left)) (fun (⟨k,x⟩ : Nat × Int) => ex.kids.length - k) (0,(left - 1)) ⟨rfl,rfl,rfl,trivial⟩ ⟨hE0,(by first | omega | assumption | (simp; done) | (simp; omega)),(by rw [List.take_zero,lfts]),(by omega)⟩ ?_
 clear hE0
 rintro ⟨k,x⟩ ρ1 w1 ⟨hE1,hp1_0,hx,hp1_2⟩
 have hzs1 : w.heap.size ≤ w1.heap.size := hE1.size
 refine wp_seq ?_
 refine wp_seq ?_
 refine wp_plain _ [0,0,0,0,2,0,0,0,0,0,0] rfl ?_
 refine q_move (.int .i64 ((k :Nat):Int)) rfl zN ?_
 refine q_move ve rfl zN ?_
 refine q_nilP (hex.isPtr) rfl zN ?_
 obtain ⟨cs2,hr2,hl2⟩ := RN.at (good_rEx _) hex
 obtain ⟨dd2,ve2,hd2,rfl,hx2⟩ := RX.of hr2
 have hln2 := hx2.rn.lenle
 unfold maxLen at hln2
 refine q_fldL (p := ve) 4 fd94_4 rfl (hl2 _ (Chg.of_ext [] hE1)) zN ?_
 refine q_load (p := (padd ve 4)) (.inr rfl) ve2 one78 rfl ((hl2 _ (Chg.of_ext [] hE1)).ld (i := 4) (by simp [exC,fnC])) zN ?_
 refine q_len (v := ve2) u78 rfl hx2.rn.isSl zN ?_
 by_cases hc3 : ((k :Nat):Int) < ((ex.kids.length :Nat):Int)
 ·
  refine q_lss true rfl rfl (decide_eq_true hc3) zN ?_
  refine q_move (.bool true) rfl zN ?_
  refine q_move (.int .i64 x) rfl (zS (e := 15) rfl rfl rfl) ?_
  by_cases hc4 : ((0 :Nat):Int) ≤ x
  ·
   refine q_geq true rfl rfl (decide_eq_true hc4) (zS (e := 15) rfl rfl rfl) ?_
   refine q_pick true (.bool true) rfl rfl zN ?_
   refine lw_nil ?_
   refine c_cond_t rfl ?_
   refine wp_skip ?_
   refine wp_seq ?_
   refine wp_block ?_
   refine wp_plain _ [0,0,0,2,0,0,0,3,0] rfl ?_
   have hst := sizes_step (l := ex.kids) (k := k) (by omega)
   have hle := sizes_take ex.kids (k + 1)
   have hnx := lfts_step (l := ex.kids) (k := k) (x := left - 1) (by omega) (by omega)
   have hnr := lftE_rng (e := ex.kids.getD k Ex.zero) (x := x) (by omega)
   refine q_move ve rfl zN ?_
   refine q_nilP (hex.isPtr) rfl zN ?_
   refine q_fldL (p := ve) 4 fd94_4 rfl (hl2 _ (Chg.of_ext [] hE1)) zN ?_
   refine q_load (p := (padd ve 4)) (.inr rfl) ve2 one78 rfl ((hl2 _ (Chg.of_ext [] hE1)).ld (i := 4) (by simp [exC,fnC])) zN ?_
   refine q_move (.int .i64 ((k :Nat):Int)) rfl zN ?_
   refine q_idx (v := ve2) k u78 tiS94 rfl rfl hx2.rn.isSl rfl (by first | omega | assumption | (simp; done) | (simp; omega)) zN ?_
   refine q_move (.int .i64 x) rfl zN ?_
   refine lw_call 138 [] [] [(eptr ve2 k 5),(.int .i64 x)] rfl rfl cf138 zN (ih dd2 (by omega) _ (eptr ve2 k 5) (ex.kids.getD k Ex.zero) _ (RN.ptr (good_rEx dd2) (by decide) Ex.zero (hx2.rn.ext (good_rdS (good_rEx dd2)) hE1) (by first | omega | assumption | (simp; done) | (simp; omega))) (by omega) (by omega) (by omega)) ?_
   rintro e5 w5 ⟨rfl,hX5⟩
   refine ⟨_,rfl,hX5,?_⟩
   have hzs5:=hX5.size
   have hE5:=hE1.trans hX5
   refine q_assign (.int .i64 (lftE (ex.kids.getD k Ex.zero) x)) rfl zN ?_
   refine lw_nil ?_
   refine wp_plain _ [0,0,0] rfl ?_
   refine q_move (.int .i64 ((k :Nat):Int)) rfl zN ?_
   refine q_add ((k + 1 :Nat):Int) rfl rfl (w64n (by omega) (by first | omega | assumption | (simp; done) | (simp; omega))) zN ?_
   refine q_assign (.int .i64 ((k + 1 :Nat):Int)) rfl zN ?_
   refine lw_nil ?_
   exact ⟨((k + 1),(lftE (ex.kids.getD k Ex.zero) x)),_,rfl,⟨rfl,rfl,rfl,trivial⟩,⟨hE5,(by first | omega | assumption | (simp; done) | (simp; omega)),(by rw [hnx,hx]),(by omega)⟩,by first | omega | (dsimp only; omega)⟩
  ·
   refine q_geq false rfl rfl (decide_eq_false hc4) (zS (e := 15) rfl rfl rfl) ?_
   refine q_pick true (.bool false) rfl rfl zN ?_
   refine lw_nil ?_
   refine c_cond_f rfl ?_
   refine wp_exit ?_
   refine t_exit ?_
   refine t_exit ?_
   refine c_exit_here ?_
   refine wp_seq ?_
   refine wp_plain _ [0,0] rfl ?_
   refine q_move (.int .i64 x) rfl zN ?_
   refine q_assign (.int .i64 x) rfl zN ?_
   refine lw_nil ?_
   refine wp_ret ?_
   exact post_ret [4] rfl (.int .i64 x) rfl ⟨(ret_int (by rw [lftE_eq,hx]; first | rw [List.take_of_length_le (by omega)] | exact (lfts_stop (by omega)).symm)),hE1⟩
 ·
  refine q_lss false rfl rfl (decide_eq_false hc3) zN ?_
  refine q_move (.bool false) rfl zN ?_
  refine lw_skip (e := 15) (c := false) rfl rfl rfl rfl ?_
  refine lw_skip (e := 15) (c := false) rfl rfl rfl rfl ?_
  refine q_pick false (.bool false) rfl rfl zN ?_
  refine lw_nil ?_
  refine c_cond_f rfl ?_
  refine wp_exit ?_
  refine t_exit ?_
  refine t_exit ?_
  refine c_exit_here ?_
  refine wp_seq ?_
  refine wp_plain _ [0,0] rfl ?_
  refine q_move (.int .i64 x) rfl zN ?_
  refine q_assign (.int .i64 x) rfl zN ?_
  refine lw_nil ?_
  refine wp_ret ?_
  exact post_ret [4] rfl (.int .i64 x) rfl ⟨(ret_int (by rw [lftE_eq,hx]; first | rw [List.take_of_length_le (by omega)] | exact (lfts_stop (by omega)).symm)),hE1⟩
set_option maxHeartbeats 4000000 in
set_option maxRecDepth 100000 in
theorem c_spec_l02Depth (w : World) (dex : Nat) (ve : Value) (ex : Ex) (hex : RN [] (rP (rEx dex)) w.heap ve ex) (hs : ex.size ≤ 1000000000) :
  Calls Tryz.prog 164 #[ve] w (fun e w' => e = .returned (.int .i64 ((ex.deep :Nat):Int)) ∧ Ext w w') := by
 induction dex using Nat.strongRecOn generalizing w ve ex
 rename_i dex ih
 refine calls_mk [ve] 25 Tryz.func164 rfl rfl (by simp) ?_
 have hE0 : Ext w w := Ext.refl w
 have hsk := size_kids ex
 have hdk := deep_kids ex
 refine wp_seq ?_
 refine wp_plain _ [0] rfl ?_
 refine q_assign (.int .i64 ((0 :Nat):Int)) rfl zN ?_
 refine lw_nil ?_
 refine wp_seq ?_
 refine wp_plain _ [0] rfl ?_
 refine q_assign (.int .i64 ((0 :Nat):Int)) rfl zN ?_
 refine lw_nil ?_
 refine wp_seq ?_
 refine wp_seq ?_
 refine wp_plain _ [0] rfl ?_
 refine q_assign (.int .i64 ((0 :Nat):Int)) rfl zN ?_
 refine lw_nil ?_
 refine wp_block ?_
 refine c_loop (S := Nat × Int) (fun (⟨k,sz⟩ : Nat × Int) => ([(3,(.int .i64 sz)),(4,(.int .i64 ((k :Nat):Int))),(0,ve)] : List (Nat × Value))) (fun (⟨k,sz⟩ : Nat × Int) (W : World) => Ext w W ∧ k ≤ ex.kids.length ∧ sz = ((Ex.deeps (ex.kids.take k) :Nat):Int) ∧ (0 ≤ sz ∧ sz ≤ 1000000000)) (fun (⟨k,sz⟩ : Nat × Int) => ex.kids.length - k) (0,((0 :Nat):Int)) ⟨rfl,rfl,rfl,trivial⟩ ⟨hE0,(by first | omega | assumption | (simp; done) | (simp; omega)),(by rw [List.take_zero,deeps_nil] <;> rfl),(by omega)⟩ ?_
 clear hE0
 rintro ⟨k,sz⟩ ρ1 w1 ⟨hE1,hp1_0,hsz,hp1_2⟩
 have hzs1 : w.heap.size ≤ w1.heap.size := hE1.size
 refine wp_seq ?_
 refine wp_seq ?_
 refine wp_plain _ [0,0,0,0,2,0,0] rfl ?_
 refine q_move (.int .i64 ((k :Nat):Int)) rfl zN ?_
 refine q_move ve rfl zN ?_
 refine q_nilP (hex.isPtr) rfl zN ?_
 obtain ⟨cs2,hr2,hl2⟩ := RN.at (good_rEx _) hex
 obtain ⟨dd2,ve2,hd2,rfl,hx2⟩ := RX.of hr2
 have hln2 := hx2.rn.lenle
 unfold maxLen at hln2
 refine q_fldL (p := ve) 4 fd94_4 rfl (hl2 _ (Chg.of_ext [] hE1)) zN ?_
 refine q_load (p := (padd ve 4)) (.inr rfl) ve2 one78 rfl ((hl2 _ (Chg.of_ext [] hE1)).ld (i := 4) (by simp [exC,fnC])) zN ?_
 refine q_len (v := ve2) u78 rfl hx2.rn.isSl zN ?_
 by_cases hc3 : ((k :Nat):Int) < ((ex.kids.length :Nat):Int)
 ·
  refine q_lss true rfl rfl (decide_eq_true hc3) zN ?_
  refine lw_nil ?_
  refine c_cond_t rfl ?_
  refine wp_skip ?_
  refine wp_seq ?_
  refine wp_block ?_
  refine wp_plain _ [0,0,0,0,2,0,0,3,0,0] rfl ?_
  have hst := sizes_step (l := ex.kids) (k := k) (by omega)
  have hle := sizes_take ex.kids (k + 1)
  have hdt := deeps_step (l := ex.kids) (k := k) (by omega)
  have hda := deep_size (ex.kids.getD k Ex.zero)
  have hdz := deeps_size (ex.kids.take k)
  refine q_move (.int .i64 sz) rfl zN ?_
  refine q_move ve rfl zN ?_
  refine q_nilP (hex.isPtr) rfl zN ?_
  refine q_fldL (p := ve) 4 fd94_4 rfl (hl2 _ (Chg.of_ext [] hE1)) zN ?_
  refine q_load (p := (padd ve 4)) (.inr rfl) ve2 one78 rfl ((hl2 _ (Chg.of_ext [] hE1)).ld (i := 4) (by simp [exC,fnC])) zN ?_
  refine q_move (.int .i64 ((k :Nat):Int)) rfl zN ?_
  refine q_idx (v := ve2) k u78 tiS94 rfl rfl hx2.rn.isSl rfl (by first | omega | assumption | (simp; done) | (simp; omega)) zN ?_
  refine lw_call 164 [] [] [(eptr ve2 k 5)] rfl rfl cf164 zN (ih dd2 (by omega) _ (eptr ve2 k 5) (ex.kids.getD k Ex.zero) (RN.ptr (good_rEx dd2) (by decide) Ex.zero (hx2.rn.ext (good_rdS (good_rEx dd2)) hE1) (by first | omega | assumption | (simp; done) | (simp; omega))) (by omega)) ?_
  rintro e4 w4 ⟨rfl,hX4⟩
  refine ⟨_,rfl,hX4,?_⟩
  have hzs4:=hX4.size
  have hE4:=hE1.trans hX4
  refine lw_callq 170 [] [] [(.int .i64 sz),(.int .i64 (((ex.kids.getD k Ex.zero).deep :Nat):Int))] rfl rfl cf170 zN (.int .i64 (max sz (((ex.kids.getD k Ex.zero).deep :Nat):Int))) (fun wq => c_spec_l00Max wq _ _ (by omega) (by have := deep_size (ex.kids.getD k Ex.zero); omega)) ?_
  refine q_assign (.int .i64 (max sz (((ex.kids.getD k Ex.zero).deep :Nat):Int))) rfl zN ?_
  refine lw_nil ?_
  refine wp_plain _ [0,0,0] rfl ?_
  refine q_move (.int .i64 ((k :Nat):Int)) rfl zN ?_
  refine q_add ((k + 1 :Nat):Int) rfl rfl (w64n (by omega) (by first | omega | assumption | (simp; done) | (simp; omega))) zN ?_
  refine q_assign (.int .i64 ((k + 1 :Nat):Int)) rfl zN ?_
  refine lw_nil ?_
  exact ⟨((k + 1),(max sz (((ex.kids.getD k Ex.zero).deep :Nat):Int))),_,rfl,⟨rfl,rfl,rfl,trivial⟩,⟨hE4,(by first | omega | assumption | (simp; done) | (simp; omega)),(by omega),(by omega)⟩,by first | omega | (dsimp only; omega)⟩
 ·
  refine q_lss false rfl rfl (decide_eq_false hc3) zN ?_
  refine lw_nil ?_
  refine c_cond_f rfl ?_
  refine wp_exit ?_
  refine t_exit ?_
  refine t_exit ?_
  refine c_exit_here ?_
  refine wp_seq ?_
  refine wp_plain _ [0,0,0] rfl ?_
  have h8 := deeps_all (l := ex.kids) (k := k) (by omega)
  have h9 := deep_size ex
  refine q_move (.int .i64 sz) rfl zN ?_
  refine q_add (sz + 1) rfl rfl (w64 (by omega) (by omega)) zN ?_
  refine q_assign (.int .i64 (sz + 1)) rfl zN ?_
  refine lw_nil ?_
  refine wp_ret ?_
  exact post_ret [2] rfl (.int .i64 (sz + 1)) rfl ⟨(ret_int (by omega)),hE1⟩
set_option maxHeartbeats 4000000 in
set_option maxRecDepth 100000 in
theorem c_spec_l02Kids (w : World) (kind : Int) (_hkind : -9223372036854775808 ≤ kind ∧ kind ≤ 9223372036854775807)  :
  Calls Tryz.prog 110 #[.int .i64 kind] w (fun e w' => e = .returned (.int .i64 (kdN kind)) ∧ w' = w) := by
 refine calls_mk [.int .i64 kind] 17 Tryz.func110 rfl rfl (by simp) ?_
 have hE0 : w = w := rfl
 refine wp_seq ?_
 refine wp_plain _ [0] rfl ?_
 refine q_assign (.int .i64 ((0 :Nat):Int)) rfl zN ?_
 refine lw_nil ?_
 refine wp_seq ?_
 refine wp_seq ?_
 refine wp_plain _ [0] rfl ?_
 refine q_move (.int .i64 kind) rfl zN ?_
 refine lw_nil ?_
 refine wp_block ?_
 refine wp_seq ?_
 refine wp_seq ?_
 refine wp_plain _ [0,0] rfl ?_
 by_cases hc1 : kind = ((1 :Nat):Int)
 ·
  refine q_eql true rfl rfl (decide_eq_true hc1) zN ?_
  refine q_assign (.bool true) rfl zN ?_
  refine lw_nil ?_
  refine c_cond_t rfl ?_
  refine wp_skip ?_
  refine c_cond_t rfl ?_
  refine wp_seq ?_
  refine wp_plain _ [0] rfl ?_
  refine q_assign (.int .i64 ((0 :Nat):Int)) rfl zN ?_
  refine lw_nil ?_
  refine wp_ret ?_
  refine b_ret ?_
  refine t_ret ?_
  exact post_ret [2] rfl (.int .i64 ((0 :Nat):Int)) rfl ⟨(ret_int (by unfold kdN; repeat (first | rfl | (rw [if_pos (by omega)]) | (rw [if_neg (by omega)])))),hE0⟩
 ·
  refine q_eql false rfl rfl (decide_eq_false hc1) zN ?_
  refine q_assign (.bool false) rfl zN ?_
  refine lw_nil ?_
  refine c_cond_f rfl ?_
  refine wp_plain _ [0,0] rfl ?_
  by_cases hc2 : kind = ((2 :Nat):Int)
  ·
   refine q_eql true rfl rfl (decide_eq_true hc2) zN ?_
   refine q_assign (.bool true) rfl zN ?_
   refine lw_nil ?_
   refine c_cond_t rfl ?_
   refine wp_seq ?_
   refine wp_plain _ [0] rfl ?_
   refine q_assign (.int .i64 ((0 :Nat):Int)) rfl zN ?_
   refine lw_nil ?_
   refine wp_ret ?_
   refine b_ret ?_
   refine t_ret ?_
   exact post_ret [2] rfl (.int .i64 ((0 :Nat):Int)) rfl ⟨(ret_int (by unfold kdN; repeat (first | rfl | (rw [if_pos (by omega)]) | (rw [if_neg (by omega)])))),hE0⟩
  ·
   refine q_eql false rfl rfl (decide_eq_false hc2) zN ?_
   refine q_assign (.bool false) rfl zN ?_
   refine lw_nil ?_
   refine c_cond_f rfl ?_
   refine wp_seq ?_
   refine wp_seq ?_
   refine wp_plain _ [0,0] rfl ?_
   by_cases hc3 : kind = ((3 :Nat):Int)
   ·
    refine q_eql true rfl rfl (decide_eq_true hc3) zN ?_
    refine q_assign (.bool true) rfl zN ?_
    refine lw_nil ?_
    refine c_cond_t rfl ?_
    refine wp_skip ?_
    refine c_cond_t rfl ?_
    refine wp_seq ?_
    refine wp_plain _ [0] rfl ?_
    refine q_assign (.int .i64 ((2 :Nat):Int)) rfl zN ?_
    refine lw_nil ?_
    refine wp_ret ?_
    refine b_ret ?_
    refine t_ret ?_
    exact post_ret [2] rfl (.int .i64 ((2 :Nat):Int)) rfl ⟨(ret_int (by unfold kdN; repeat (first | rfl | (rw [if_pos (by omega)]) | (rw [if_neg (by omega)])))),hE0⟩
   ·
    refine q_eql false rfl rfl (decide_eq_false hc3) zN ?_
    refine q_assign (.bool false) rfl zN ?_
    refine lw_nil ?_
    refine c_cond_f rfl ?_
    refine wp_seq ?_
    refine wp_plain _ [0,0] rfl ?_
    by_cases hc4 : kind = ((4 :Nat):Int)
    ·
     refine q_eql true rfl rfl (decide_eq_true hc4) zN ?_
     refine q_assign (.bool true) rfl zN ?_
     refine lw_nil ?_
     refine c_cond_t rfl ?_
     refine wp_skip ?_
     refine c_cond_t rfl ?_
     refine wp_seq ?_
     refine wp_plain _ [0] rfl ?_
     refine q_assign (.int .i64 ((2 :Nat):Int)) rfl zN ?_
     refine lw_nil ?_
     refine wp_ret ?_
     refine b_ret ?_
     refine t_ret ?_
     exact post_ret [2] rfl (.int .i64 ((2 :Nat):Int)) rfl ⟨(ret_int (by unfold kdN; repeat (first | rfl | (rw [if_pos (by omega)]) | (rw [if_neg (by omega)])))),hE0⟩
    ·
     refine q_eql false rfl rfl (decide_eq_false hc4) zN ?_
     refine q_assign (.bool false) rfl zN ?_
     refine lw_nil ?_
     refine c_cond_f rfl ?_
     refine wp_seq ?_
     refine wp_plain _ [0,0] rfl ?_
     by_cases hc5 : kind = ((5 :Nat):Int)
     ·
      refine q_eql true rfl rfl (decide_eq_true hc5) zN ?_
      refine q_assign (.bool true) rfl zN ?_
      refine lw_nil ?_
      refine c_cond_t rfl ?_
      refine wp_skip ?_
      refine c_cond_t rfl ?_
      refine wp_seq ?_
      refine wp_plain _ [0] rfl ?_
      refine q_assign (.int .i64 ((2 :Nat):Int)) rfl zN ?_
      refine lw_nil ?_
      refine wp_ret ?_
      refine b_ret ?_
      refine t_ret ?_
      exact post_ret [2] rfl (.int .i64 ((2 :Nat):Int)) rfl ⟨(ret_int (by unfold kdN; repeat (first | rfl | (rw [if_pos (by omega)]) | (rw [if_neg (by omega)])))),hE0⟩
     ·
      refine q_eql false rfl rfl (decide_eq_false hc5) zN ?_
      refine q_assign (.bool false) rfl zN ?_
      refine lw_nil ?_
      refine c_cond_f rfl ?_
      refine wp_seq ?_
      refine wp_plain _ [0,0] rfl ?_
      by_cases hc6 : kind = ((6 :Nat):Int)
      ·
       refine q_eql true rfl rfl (decide_eq_true hc6) zN ?_
       refine q_assign (.bool true) rfl zN ?_
       refine lw_nil ?_
       refine c_cond_t rfl ?_
       refine wp_skip ?_
       refine c_cond_t rfl ?_
       refine wp_seq ?_
       refine wp_plain _ [0] rfl ?_
       refine q_assign (.int .i64 ((2 :Nat):Int)) rfl zN ?_
       refine lw_nil ?_
       refine wp_ret ?_
       refine b_ret ?_
       refine t_ret ?_
       exact post_ret [2] rfl (.int .i64 ((2 :Nat):Int)) rfl ⟨(ret_int (by unfold kdN; repeat (first | rfl | (rw [if_pos (by omega)]) | (rw [if_neg (by omega)])))),hE0⟩
      ·
       refine q_eql false rfl rfl (decide_eq_false hc6) zN ?_
       refine q_assign (.bool false) rfl zN ?_
       refine lw_nil ?_
       refine c_cond_f rfl ?_
       refine wp_plain _ [0,0] rfl ?_
       by_cases hc7 : kind = ((9 :Nat):Int)
       ·
        refine q_eql true rfl rfl (decide_eq_true hc7) zN ?_
        refine q_assign (.bool true) rfl zN ?_
        refine lw_nil ?_
        refine c_cond_t rfl ?_
        refine wp_seq ?_
        refine wp_plain _ [0] rfl ?_
        refine q_assign (.int .i64 ((2 :Nat):Int)) rfl zN ?_
        refine lw_nil ?_
        refine wp_ret ?_
        refine b_ret ?_
        refine t_ret ?_
        exact post_ret [2] rfl (.int .i64 ((2 :Nat):Int)) rfl ⟨(ret_int (by unfold kdN; repeat (first | rfl | (rw [if_pos (by omega)]) | (rw [if_neg (by omega)])))),hE0⟩
       ·
        refine q_eql false rfl rfl (decide_eq_false hc7) zN ?_
        refine q_assign (.bool false) rfl zN ?_
        refine lw_nil ?_
        refine c_cond_f rfl ?_
        refine wp_seq ?_
        refine wp_plain _ [0,0] rfl ?_
        by_cases hc8 : kind = ((7 :Nat):Int)
        ·
         refine q_eql true rfl rfl (decide_eq_true hc8) zN ?_
         refine q_assign (.bool true) rfl zN ?_
         refine lw_nil ?_
         refine c_cond_t rfl ?_
         refine wp_seq ?_
         refine wp_plain _ [0] rfl ?_
         refine q_assign (.int .i64 ((1 :Nat):Int)) rfl zN ?_
         refine lw_nil ?_
         refine wp_ret ?_
         refine b_ret ?_
         refine t_ret ?_
         exact post_ret [2] rfl (.int .i64 ((1 :Nat):Int)) rfl ⟨(ret_int (by unfold kdN; repeat (first | rfl | (rw [if_pos (by omega)]) | (rw [if_neg (by omega)])))),hE0⟩
        ·
         refine q_eql false rfl rfl (decide_eq_false hc8) zN ?_
         refine q_assign (.bool false) rfl zN ?_
         refine lw_nil ?_
         refine c_cond_f rfl ?_
         refine wp_seq ?_
         refine wp_plain _ [0,0] rfl ?_
         by_cases hc9 : kind = ((8 :Nat):Int)
         ·
          refine q_eql true rfl rfl (decide_eq_true hc9) zN ?_
          refine q_assign (.bool true) rfl zN ?_
          refine lw_nil ?_
          refine c_cond_t rfl ?_
          refine wp_seq ?_
          refine wp_plain _ [0] rfl ?_
          refine q_assign (.int .i64 ((3 :Nat):Int)) rfl zN ?_
          refine lw_nil ?_
          refine wp_ret ?_
          refine b_ret ?_
          refine t_ret ?_
          exact post_ret [2] rfl (.int .i64 ((3 :Nat):Int)) rfl ⟨(ret_int (by unfold kdN; repeat (first | rfl | (rw [if_pos (by omega)]) | (rw [if_neg (by omega)])))),hE0⟩
         ·
          refine q_eql false rfl rfl (decide_eq_false hc9) zN ?_
          refine q_assign (.bool false) rfl zN ?_
          refine lw_nil ?_
          refine c_cond_f rfl ?_
          refine wp_skip ?_
          refine wp_seq ?_
          refine wp_plain _ [0] rfl ?_
          refine q_assign (.int .i64 (-1)) rfl zN ?_
          refine lw_nil ?_
          refine wp_ret ?_
          exact post_ret [2] rfl (.int .i64 (-1)) rfl ⟨(ret_int (by unfold kdN; repeat (first | rfl | (rw [if_pos (by omega)]) | (rw [if_neg (by omega)])))),hE0⟩
set_option maxHeartbeats 4000000 in
set_option maxRecDepth 100000 in
theorem c_spec_l02Node (w : World) (dp : Nat) (vp : Value) (p : List Fn) (dex : Nat) (ve : Value) (ex : Ex) (vars : Int) (funcs : Int) (hp : RN [] (rP (rPr dp)) w.heap vp p) (hex : RN [] (rP (rEx dex)) w.heap ve ex) (_hvars : -9223372036854775808 ≤ vars ∧ vars ≤ 9223372036854775807) (_hfuncs : -9223372036854775808 ≤ funcs ∧ funcs ≤ 9223372036854775807) (hv : 0 ≤ vars ∧ vars ≤ 2000000000) (hf : 0 ≤ funcs ∧ funcs ≤ ((p.length :Nat):Int)) :
  Calls Tryz.prog 171 #[vp,ve,.int .i64 vars,.int .i64 funcs] w (fun e w' => e = .returned (.bool (wfN p funcs vars ex)) ∧ Ext w w') := by
 refine calls_mk [vp,ve,.int .i64 vars,.int .i64 funcs] 140 Tryz.func171 rfl rfl (by simp) ?_
 have hE0 : Ext w w := Ext.refl w
 refine wp_seq ?_
 refine wp_plain _ [0] rfl ?_
 refine q_assign (.bool false) rfl zN ?_
 refine lw_nil ?_
 refine wp_seq ?_
 refine wp_seq ?_
 refine wp_plain _ [0,0,0,2,0,0,0,0,0,2,0,0] rfl ?_
 refine q_move ve rfl zN ?_
 refine q_nilP (hex.isPtr) rfl zN ?_
 obtain ⟨cs1,hr1,hl1⟩ := RN.at (good_rEx _) hex
 obtain ⟨dd1,ve1,hd1,rfl,hx1⟩ := RX.of hr1
 have hln1 := hx1.rn.lenle
 unfold maxLen at hln1
 refine q_fldL (p := ve) 0 fd94_0 rfl (hl1 _ (Chg.of_ext [] hE0)) zN ?_
 refine q_load (p := (padd ve 0)) (.inr rfl) (.int .i64 ex.kind) one2 rfl ((hl1 _ (Chg.of_ext [] hE0)).ld (i := 0) (by simp [exC,fnC])) zN ?_
 by_cases hc2 : ex.kind = ((10 :Nat):Int)
 ·
  refine q_eql true rfl rfl (decide_eq_true hc2) zN ?_
  refine q_move (.bool true) rfl zN ?_
  refine lw_skip (e := 15) (c := true) rfl rfl rfl rfl ?_
  refine lw_skip (e := 15) (c := true) rfl rfl rfl rfl ?_
  refine lw_skip (e := 15) (c := true) rfl rfl rfl rfl ?_
  refine lw_skip (e := 15) (c := true) rfl rfl rfl rfl ?_
  refine lw_skip (e := 15) (c := true) rfl rfl rfl rfl ?_
  refine q_pick true (.bool true) rfl rfl zN ?_
  refine lw_nil ?_
  refine c_cond_t rfl ?_
  refine wp_seq ?_
  refine wp_seq ?_
  refine wp_plain _ [0,0,0,2,0,0,0,0] rfl ?_
  refine q_move ve rfl zN ?_
  refine q_nilP (hex.isPtr) rfl zN ?_
  refine q_fldL (p := ve) 1 fd94_1 rfl (hl1 _ (Chg.of_ext [] hE0)) zN ?_
  refine q_load (p := (padd ve 1)) (.inr rfl) (.int .i64 ex.num) one2 rfl ((hl1 _ (Chg.of_ext [] hE0)).ld (i := 1) (by simp [exC,fnC])) zN ?_
  refine q_move (.int .i64 funcs) rfl zN ?_
  refine q_sub (funcs - 1) rfl rfl (w64 (by omega) (by omega)) zN ?_
  refine lw_callq 63 [] [] [(.int .i64 ex.num),(.int .i64 ((0 :Nat):Int)),(.int .i64 (funcs - 1))] rfl rfl cf63 zN (.bool (decide (((0 :Nat):Int) ≤ ex.num) && decide (ex.num ≤ (funcs - 1)))) (fun wq => c_spec_l00In wq _ _ _ hx1.rng.num (by omega) (by omega)) ?_
  refine q_not (!(decide (((0 :Nat):Int) ≤ ex.num) && decide (ex.num ≤ (funcs - 1)))) rfl rfl zN ?_
  refine lw_nil ?_
  cases hb4 : (!(decide (((0 :Nat):Int) ≤ ex.num) && decide (ex.num ≤ (funcs - 1))))
  ·
   refine c_cond_f (by first | rfl | (show Value.bool _ = _; rw [hb4])) ?_
   refine wp_skip ?_
   refine wp_seq ?_
   refine wp_draw _ [0,0,0,1,0,0,0,1,0,0] mixed (by kernel_rfl) ?_
   have hnr := inB_e (bn_f (by assumption) : (decide (((0 :Nat):Int) ≤ ex.num) && decide (ex.num ≤ funcs - 1)) = true)
   refine q_move vp rfl zN ?_
   refine q_nilP (hp.isPtr) rfl zN ?_
   obtain ⟨cs5,hr5,hl5⟩ := RN.at (good_rPr _) hp
   obtain ⟨ve5,rfl,hx5⟩ := RPr.of hr5
   have hln5 := hx5.lenle
   unfold maxLen at hln5
   refine q_fldL (p := vp) 0 fd32_0 rfl (hl5 _ (Chg.of_ext [] hE0.drew)) zN ?_
   refine q_load (p := (padd vp 0)) (.inl rfl) ve5 one30 rfl ((hl5 _ (Chg.of_ext [] hE0.drew)).ld (i := 0) (by simp [exC,fnC])) zN ?_
   refine q_move ve rfl zN ?_
   refine q_nilP (hex.isPtr) rfl zN ?_
   refine q_fldL (p := ve) 1 fd94_1 rfl (hl1 _ (Chg.of_ext [] hE0.drew)) zN ?_
   refine q_load (p := (padd ve 1)) (.inl rfl) (.int .i64 ex.num) one2 rfl ((hl1 _ (Chg.of_ext [] hE0.drew)).ld (i := 1) (by simp [exC,fnC])) zN ?_
   refine q_idx (v := ve5) ((ex.num).toNat) u30 tiS80 rfl rfl hx5.isSl (by omega) (by first | omega | assumption | (simp; done) | (simp; omega)) zN ?_
   refine q_assign (eptr ve5 ((ex.num).toNat) 3) rfl zN ?_
   refine lw_nil ?_
   refine wp_seq ?_
   refine wp_seq ?_
   refine wp_draw _ [0,0,0,1,0,0,0,1,0,0,0,0,0,0,0,0,1,0,0,0,0,1,0,0] mixed (by kernel_rfl) ?_
   refine q_move ve rfl zN ?_
   refine q_nilP (hex.isPtr) rfl zN ?_
   refine q_fldL (p := ve) 2 fd94_2 rfl (hl1 _ (Chg.of_ext [] hE0.drew.drew)) zN ?_
   refine q_load (p := (padd ve 2)) (.inl rfl) (.int .i64 ex.pick) one2 rfl ((hl1 _ (Chg.of_ext [] hE0.drew.drew)).ld (i := 2) (by simp [exC,fnC])) zN ?_
   refine q_move (eptr ve5 ((ex.num).toNat) 3) rfl zN ?_
   refine q_nilP (RN.isPtr (RN.ptr (good_rFn dp) (by decide) Fn.zero hx5 (by first | omega | assumption | (simp; done) | (simp; omega)))) rfl zN ?_
   obtain ⟨cs6,hr6,hl6⟩ := hx5.get (good_rFn dp) Fn.zero (k := ((ex.num).toNat)) (by first | omega | assumption | (simp; done) | (simp; omega))
   obtain ⟨ve6,rfl,hx6⟩ := RF.of hr6
   have hln6 := hx6.rn.lenle
   unfold maxLen at hln6
   refine q_fldL (p := eptr ve5 ((ex.num).toNat) 3) 2 fd80_2 rfl (hl6 _ (Chg.of_ext [] hE0.drew.drew)) zN ?_
   refine q_load (p := (padd (eptr ve5 ((ex.num).toNat) 3) 2)) (.inl rfl) ve6 one78 rfl ((hl6 _ (Chg.of_ext [] hE0.drew.drew)).ld (i := 2) (by simp [exC,fnC])) zN ?_
   refine q_len (v := ve6) u78 rfl hx6.rn.isSl zN ?_
   refine q_sub ((((p.getD (ex.num).toNat Fn.zero).outs.length :Nat):Int) - 1) rfl rfl (w64 (by omega) (by omega)) zN ?_
   refine lw_callq 63 [] [] [(.int .i64 ex.pick),(.int .i64 ((0 :Nat):Int)),(.int .i64 ((((p.getD (ex.num).toNat Fn.zero).outs.length :Nat):Int) - 1))] rfl rfl cf63 zN (.bool (decide (((0 :Nat):Int) ≤ ex.pick) && decide (ex.pick ≤ ((((p.getD (ex.num).toNat Fn.zero).outs.length :Nat):Int) - 1)))) (fun wq => c_spec_l00In wq _ _ _ hx1.rng.pick (by omega) (by omega)) ?_
   refine q_not (!(decide (((0 :Nat):Int) ≤ ex.pick) && decide (ex.pick ≤ ((((p.getD (ex.num).toNat Fn.zero).outs.length :Nat):Int) - 1)))) rfl rfl zN ?_
   refine q_move (.bool (!(decide (((0 :Nat):Int) ≤ ex.pick) && decide (ex.pick ≤ ((((p.getD (ex.num).toNat Fn.zero).outs.length :Nat):Int) - 1))))) rfl zN ?_
   cases hb8 : (!(decide (((0 :Nat):Int) ≤ ex.pick) && decide (ex.pick ≤ ((((p.getD (ex.num).toNat Fn.zero).outs.length :Nat):Int) - 1))))
   ·
    refine q_move ve rfl (zS (e := 51) rfl rfl rfl) ?_
    refine q_nilP (hex.isPtr) rfl (zS (e := 51) rfl rfl rfl) ?_
    refine q_fldL (p := ve) 4 fd94_4 rfl (hl1 _ (Chg.of_ext [] hE0.drew.drew)) (zS (e := 51) rfl rfl rfl) ?_
    refine q_load (p := (padd ve 4)) (.inl rfl) ve1 one78 rfl ((hl1 _ (Chg.of_ext [] hE0.drew.drew)).ld (i := 4) (by simp [exC,fnC])) (zS (e := 51) rfl rfl rfl) ?_
    refine q_len (v := ve1) u78 rfl hx1.rn.isSl (zS (e := 51) rfl rfl rfl) ?_
    refine q_move (eptr ve5 ((ex.num).toNat) 3) rfl (zS (e := 51) rfl rfl rfl) ?_
    refine q_nilP (RN.isPtr (RN.ptr (good_rFn dp) (by decide) Fn.zero hx5 (by first | omega | assumption | (simp; done) | (simp; omega)))) rfl (zS (e := 51) rfl rfl rfl) ?_
    refine q_fldL (p := eptr ve5 ((ex.num).toNat) 3) 1 fd80_1 rfl (hl6 _ (Chg.of_ext [] hE0.drew.drew)) (zS (e := 51) rfl rfl rfl) ?_
    refine q_load (p := (padd (eptr ve5 ((ex.num).toNat) 3) 1)) (.inl rfl) (.int .i64 ((p.getD ((ex.num).toNat) Fn.zero).params)) one2 rfl ((hl6 _ (Chg.of_ext [] hE0.drew.drew)).ld (i := 1) (by simp [exC,fnC])) (zS (e := 51) rfl rfl rfl) ?_
    by_cases hc9 : ((ex.kids.length :Nat):Int) ≠ (p.getD ((ex.num).toNat) Fn.zero).params
    ·
     refine q_neq true rfl rfl (decide_eq_true hc9) (zS (e := 51) rfl rfl rfl) ?_
     refine q_pick false (.bool true) rfl rfl zN ?_
     refine lw_nil ?_
     refine c_cond_t rfl ?_
     refine wp_seq ?_
     refine wp_plain _ [0] rfl ?_
     refine q_assign (.bool false) rfl zN ?_
     refine lw_nil ?_
     refine wp_ret ?_
     refine t_ret ?_
     refine t_ret ?_
     exact post_ret [8] rfl (.bool false) rfl ⟨(by first | exact ret_bool (nd_bad (by omega) (by omega) (by omega)) | exact ret_bool (nd_1 (by omega) (by omega) (by omega) (by omega)) | exact ret_bool (nd_2 (by omega) (by omega) (by omega) (by omega)) | exact ret_bool ((decide_congr (by omega)).trans (nd_o (by omega) (by omega) (by omega) (by omega) (by omega) (by omega) (by omega))) | exact ret_bool (by unfold wfN plainB inB; first | (simp [*]; done) | (simp [*]; omega) | (simp [*] <;> intros <;> omega) | (simp_all; done) | (simp_all <;> omega))),hE0.drew.drew⟩
    ·
     refine q_neq false rfl rfl (decide_eq_false hc9) (zS (e := 51) rfl rfl rfl) ?_
     refine q_pick false (.bool false) rfl rfl zN ?_
     refine lw_nil ?_
     refine c_cond_f rfl ?_
     refine wp_skip ?_
     refine wp_seq ?_
     refine wp_seq ?_
     refine wp_plain _ [0,0,0,2,0] rfl ?_
     refine q_move ve rfl zN ?_
     refine q_nilP (hex.isPtr) rfl zN ?_
     refine q_fldL (p := ve) 0 fd94_0 rfl (hl1 _ (Chg.of_ext [] hE0.drew.drew)) zN ?_
     refine q_load (p := (padd ve 0)) (.inr rfl) (.int .i64 ex.kind) one2 rfl ((hl1 _ (Chg.of_ext [] hE0.drew.drew)).ld (i := 0) (by simp [exC,fnC])) zN ?_
     by_cases hc10 : ex.kind = ((10 :Nat):Int)
     ·
      refine q_eql true rfl rfl (decide_eq_true hc10) zN ?_
      refine lw_nil ?_
      refine c_cond_t rfl ?_
      refine wp_seq ?_
      refine wp_plain _ [0,0,0,2,0,0] rfl ?_
      refine q_move ve rfl zN ?_
      refine q_nilP (hex.isPtr) rfl zN ?_
      refine q_fldL (p := ve) 3 fd94_3 rfl (hl1 _ (Chg.of_ext [] hE0.drew.drew)) zN ?_
      refine q_load (p := (padd ve 3)) (.inr rfl) (.int .i64 ex.count) one2 rfl ((hl1 _ (Chg.of_ext [] hE0.drew.drew)).ld (i := 3) (by simp [exC,fnC])) zN ?_
      refine q_eql (decide (ex.count = ((0 :Nat):Int))) rfl rfl rfl zN ?_
      refine q_assign (.bool (decide (ex.count = ((0 :Nat):Int)))) rfl zN ?_
      refine lw_nil ?_
      refine wp_ret ?_
      refine t_ret ?_
      refine t_ret ?_
      exact post_ret [8] rfl (.bool (decide (ex.count = ((0 :Nat):Int)))) rfl ⟨(by first | exact ret_bool (nd_bad (by omega) (by omega) (by omega)) | exact ret_bool (nd_1 (by omega) (by omega) (by omega) (by omega)) | exact ret_bool (nd_2 (by omega) (by omega) (by omega) (by omega)) | exact ret_bool ((decide_congr (by omega)).trans (nd_o (by omega) (by omega) (by omega) (by omega) (by omega) (by omega) (by omega))) | exact ret_bool (by unfold wfN plainB inB; first | (simp [*]; done) | (simp [*]; omega) | (simp [*] <;> intros <;> omega) | (simp_all; done) | (simp_all <;> omega))),hE0.drew.drew⟩
     ·
      refine q_eql false rfl rfl (decide_eq_false hc10) zN ?_
      refine lw_nil ?_
      refine c_cond_f rfl ?_
      refine wp_skip ?_
      refine wp_seq ?_
      refine wp_draw _ [0,0,0,1,0,0,0,0,0,1,0,0,0,0,1,0,0,0] mixed (by kernel_rfl) ?_
      refine q_move ve rfl zN ?_
      refine q_nilP (hex.isPtr) rfl zN ?_
      refine q_fldL (p := ve) 3 fd94_3 rfl (hl1 _ (Chg.of_ext [] hE0.drew.drew.drew)) zN ?_
      refine q_load (p := (padd ve 3)) (.inl rfl) (.int .i64 ex.count) one2 rfl ((hl1 _ (Chg.of_ext [] hE0.drew.drew.drew)).ld (i := 3) (by simp [exC,fnC])) zN ?_
      refine lw_callq 63 [] [] [(.int .i64 ex.count),(.int .i64 ((0 :Nat):Int)),(.int .i64 ((8 :Nat):Int))] rfl rfl cf63 zN (.bool (decide (((0 :Nat):Int) ≤ ex.count) && decide (ex.count ≤ ((8 :Nat):Int)))) (fun wq => c_spec_l00In wq _ _ _ hx1.rng.count (by omega) (by omega)) ?_
      refine q_move (.bool (decide (((0 :Nat):Int) ≤ ex.count) && decide (ex.count ≤ ((8 :Nat):Int)))) rfl zN ?_
      cases hb12 : (decide (((0 :Nat):Int) ≤ ex.count) && decide (ex.count ≤ ((8 :Nat):Int)))
      ·
       refine lw_skip (e := 78) (c := false) rfl rfl rfl rfl ?_
       refine lw_skip (e := 78) (c := false) rfl rfl rfl rfl ?_
       refine lw_skip (e := 78) (c := false) rfl rfl rfl rfl ?_
       refine lw_skip (e := 78) (c := false) rfl rfl rfl rfl ?_
       refine lw_skip (e := 78) (c := false) rfl rfl rfl rfl ?_
       refine lw_skip (e := 78) (c := false) rfl rfl rfl rfl ?_
       refine lw_skip (e := 78) (c := false) rfl rfl rfl rfl ?_
       refine lw_skip (e := 78) (c := false) rfl rfl rfl rfl ?_
       refine lw_skip (e := 78) (c := false) rfl rfl rfl rfl ?_
       refine lw_skip (e := 78) (c := false) rfl rfl rfl rfl ?_
       refine q_pick false (.bool false) rfl rfl zN ?_
       refine q_assign (.bool false) rfl zN ?_
       refine lw_nil ?_
       refine wp_ret ?_
       refine t_ret ?_
       exact post_ret [8] rfl (.bool false) rfl ⟨(by first | exact ret_bool (nd_bad (by omega) (by omega) (by omega)) | exact ret_bool (nd_1 (by omega) (by omega) (by omega) (by omega)) | exact ret_bool (nd_2 (by omega) (by omega) (by omega) (by omega)) | exact ret_bool ((decide_congr (by omega)).trans (nd_o (by omega) (by omega) (by omega) (by omega) (by omega) (by omega) (by omega))) | exact ret_bool (by unfold wfN plainB inB; first | (simp [*]; done) | (simp [*]; omega) | (simp [*] <;> intros <;> omega) | (simp_all; done) | (simp_all <;> omega))),hE0.drew.drew.drew⟩
      ·
       refine q_move (eptr ve5 ((ex.num).toNat) 3) rfl (zS (e := 78) rfl rfl rfl) ?_
       refine q_nilP (RN.isPtr (RN.ptr (good_rFn dp) (by decide) Fn.zero hx5 (by first | omega | assumption | (simp; done) | (simp; omega)))) rfl (zS (e := 78) rfl rfl rfl) ?_
       refine q_fldL (p := eptr ve5 ((ex.num).toNat) 3) 2 fd80_2 rfl (hl6 _ (Chg.of_ext [] hE0.drew.drew.drew)) (zS (e := 78) rfl rfl rfl) ?_
       refine q_load (p := (padd (eptr ve5 ((ex.num).toNat) 3) 2)) (.inl rfl) ve6 one78 rfl ((hl6 _ (Chg.of_ext [] hE0.drew.drew.drew)).ld (i := 2) (by simp [exC,fnC])) (zS (e := 78) rfl rfl rfl) ?_
       refine q_len (v := ve6) u78 rfl hx6.rn.isSl (zS (e := 78) rfl rfl rfl) ?_
       refine q_move (eptr ve5 ((ex.num).toNat) 3) rfl (zS (e := 78) rfl rfl rfl) ?_
       refine q_nilP (RN.isPtr (RN.ptr (good_rFn dp) (by decide) Fn.zero hx5 (by first | omega | assumption | (simp; done) | (simp; omega)))) rfl (zS (e := 78) rfl rfl rfl) ?_
       refine q_fldL (p := eptr ve5 ((ex.num).toNat) 3) 1 fd80_1 rfl (hl6 _ (Chg.of_ext [] hE0.drew.drew.drew)) (zS (e := 78) rfl rfl rfl) ?_
       refine q_load (p := (padd (eptr ve5 ((ex.num).toNat) 3) 1)) (.inl rfl) (.int .i64 ((p.getD ((ex.num).toNat) Fn.zero).params)) one2 rfl ((hl6 _ (Chg.of_ext [] hE0.drew.drew.drew)).ld (i := 1) (by simp [exC,fnC])) (zS (e := 78) rfl rfl rfl) ?_
       refine q_eql (decide (((((p.getD ((ex.num).toNat) Fn.zero).outs).length :Nat):Int) = (p.getD ((ex.num).toNat) Fn.zero).params)) rfl rfl rfl (zS (e := 78) rfl rfl rfl) ?_
       refine q_pick true (.bool (decide (((((p.getD ((ex.num).toNat) Fn.zero).outs).length :Nat):Int) = (p.getD ((ex.num).toNat) Fn.zero).params))) rfl rfl zN ?_
       refine q_assign (.bool (decide (((((p.getD ((ex.num).toNat) Fn.zero).outs).length :Nat):Int) = (p.getD ((ex.num).toNat) Fn.zero).params))) rfl zN ?_
       refine lw_nil ?_
       refine wp_ret ?_
       refine t_ret ?_
       exact post_ret [8] rfl (.bool (decide (((((p.getD ((ex.num).toNat) Fn.zero).outs).length :Nat):Int) = (p.getD ((ex.num).toNat) Fn.zero).params))) rfl ⟨(by first | exact ret_bool (nd_bad (by omega) (by omega) (by omega)) | exact ret_bool (nd_1 (by omega) (by omega) (by omega) (by omega)) | exact ret_bool (nd_2 (by omega) (by omega) (by omega) (by omega)) | exact ret_bool ((decide_congr (by omega)).trans (nd_o (by omega) (by omega) (by omega) (by omega) (by omega) (by omega) (by omega))) | exact ret_bool (by unfold wfN plainB inB; first | (simp [*]; done) | (simp [*]; omega) | (simp [*] <;> intros <;> omega) | (simp_all; done) | (simp_all <;> omega))),hE0.drew.drew.drew⟩
   ·
    refine lw_skip (e := 51) (c := true) rfl rfl rfl rfl ?_
    refine lw_skip (e := 51) (c := true) rfl rfl rfl rfl ?_
    refine lw_skip (e := 51) (c := true) rfl rfl rfl rfl ?_
    refine lw_skip (e := 51) (c := true) rfl rfl rfl rfl ?_
    refine lw_skip (e := 51) (c := true) rfl rfl rfl rfl ?_
    refine lw_skip (e := 51) (c := true) rfl rfl rfl rfl ?_
    refine lw_skip (e := 51) (c := true) rfl rfl rfl rfl ?_
    refine lw_skip (e := 51) (c := true) rfl rfl rfl rfl ?_
    refine lw_skip (e := 51) (c := true) rfl rfl rfl rfl ?_
    refine lw_skip (e := 51) (c := true) rfl rfl rfl rfl ?_
    refine q_pick true (.bool true) rfl rfl zN ?_
    refine lw_nil ?_
    refine c_cond_t rfl ?_
    refine wp_seq ?_
    refine wp_plain _ [0] rfl ?_
    refine q_assign (.bool false) rfl zN ?_
    refine lw_nil ?_
    refine wp_ret ?_
    refine t_ret ?_
    refine t_ret ?_
    exact post_ret [8] rfl (.bool false) rfl ⟨(by first | exact ret_bool (nd_bad (by omega) (by omega) (by omega)) | exact ret_bool (nd_1 (by omega) (by omega) (by omega) (by omega)) | exact ret_bool (nd_2 (by omega) (by omega) (by omega) (by omega)) | exact ret_bool ((decide_congr (by omega)).trans (nd_o (by omega) (by omega) (by omega) (by omega) (by omega) (by omega) (by omega))) | exact ret_bool (by unfold wfN plainB inB; first | (simp [*]; done) | (simp [*]; omega) | (simp [*] <;> intros <;> omega) | (simp_all; done) | (simp_all <;> omega))),hE0.drew.drew⟩
  ·
   refine c_cond_t (by first | rfl | (show Value.bool _ = _; rw [hb4])) ?_
   refine wp_seq ?_
   refine wp_plain _ [0] rfl ?_
   refine q_assign (.bool false) rfl zN ?_
   refine lw_nil ?_
   refine wp_ret ?_
   refine t_ret ?_
   refine t_ret ?_
   exact post_ret [8] rfl (.bool false) rfl ⟨(by first | exact ret_bool (nd_bad (by omega) (by omega) (by omega)) | exact ret_bool (nd_1 (by omega) (by omega) (by omega) (by omega)) | exact ret_bool (nd_2 (by omega) (by omega) (by omega) (by omega)) | exact ret_bool ((decide_congr (by omega)).trans (nd_o (by omega) (by omega) (by omega) (by omega) (by omega) (by omega) (by omega))) | exact ret_bool (by unfold wfN plainB inB; first | (simp [*]; done) | (simp [*]; omega) | (simp [*] <;> intros <;> omega) | (simp_all; done) | (simp_all <;> omega))),hE0⟩
 ·
  refine q_eql false rfl rfl (decide_eq_false hc2) zN ?_
  refine q_move (.bool false) rfl zN ?_
  refine q_move ve rfl (zS (e := 15) rfl rfl rfl) ?_
  refine q_nilP (hex.isPtr) rfl (zS (e := 15) rfl rfl rfl) ?_
  refine q_fldL (p := ve) 0 fd94_0 rfl (hl1 _ (Chg.of_ext [] hE0)) (zS (e := 15) rfl rfl rfl) ?_
  refine q_load (p := (padd ve 0)) (.inr rfl) (.int .i64 ex.kind) one2 rfl ((hl1 _ (Chg.of_ext [] hE0)).ld (i := 0) (by simp [exC,fnC])) (zS (e := 15) rfl rfl rfl) ?_
  by_cases hc13 : ex.kind = ((11 :Nat):Int)
  ·
   refine q_eql true rfl rfl (decide_eq_true hc13) (zS (e := 15) rfl rfl rfl) ?_
   refine q_pick false (.bool true) rfl rfl zN ?_
   refine lw_nil ?_
   refine c_cond_t rfl ?_
   refine wp_seq ?_
   refine wp_seq ?_
   refine wp_plain _ [0,0,0,2,0,0,0,0] rfl ?_
   refine q_move ve rfl zN ?_
   refine q_nilP (hex.isPtr) rfl zN ?_
   refine q_fldL (p := ve) 1 fd94_1 rfl (hl1 _ (Chg.of_ext [] hE0)) zN ?_
   refine q_load (p := (padd ve 1)) (.inr rfl) (.int .i64 ex.num) one2 rfl ((hl1 _ (Chg.of_ext [] hE0)).ld (i := 1) (by simp [exC,fnC])) zN ?_
   refine q_move (.int .i64 funcs) rfl zN ?_
   refine q_sub (funcs - 1) rfl rfl (w64 (by omega) (by omega)) zN ?_
   refine lw_callq 63 [] [] [(.int .i64 ex.num),(.int .i64 ((0 :Nat):Int)),(.int .i64 (funcs - 1))] rfl rfl cf63 zN (.bool (decide (((0 :Nat):Int) ≤ ex.num) && decide (ex.num ≤ (funcs - 1)))) (fun wq => c_spec_l00In wq _ _ _ hx1.rng.num (by omega) (by omega)) ?_
   refine q_not (!(decide (((0 :Nat):Int) ≤ ex.num) && decide (ex.num ≤ (funcs - 1)))) rfl rfl zN ?_
   refine lw_nil ?_
   cases hb15 : (!(decide (((0 :Nat):Int) ≤ ex.num) && decide (ex.num ≤ (funcs - 1))))
   ·
    refine c_cond_f (by first | rfl | (show Value.bool _ = _; rw [hb15])) ?_
    refine wp_skip ?_
    refine wp_seq ?_
    refine wp_draw _ [0,0,0,1,0,0,0,1,0,0] mixed (by kernel_rfl) ?_
    have hnr := inB_e (bn_f (by assumption) : (decide (((0 :Nat):Int) ≤ ex.num) && decide (ex.num ≤ funcs - 1)) = true)
    refine q_move vp rfl zN ?_
    refine q_nilP (hp.isPtr) rfl zN ?_
    obtain ⟨cs16,hr16,hl16⟩ := RN.at (good_rPr _) hp
    obtain ⟨ve16,rfl,hx16⟩ := RPr.of hr16
    have hln16 := hx16.lenle
    unfold maxLen at hln16
    refine q_fldL (p := vp) 0 fd32_0 rfl (hl16 _ (Chg.of_ext [] hE0.drew)) zN ?_
    refine q_load (p := (padd vp 0)) (.inl rfl) ve16 one30 rfl ((hl16 _ (Chg.of_ext [] hE0.drew)).ld (i := 0) (by simp [exC,fnC])) zN ?_
    refine q_move ve rfl zN ?_
    refine q_nilP (hex.isPtr) rfl zN ?_
    refine q_fldL (p := ve) 1 fd94_1 rfl (hl1 _ (Chg.of_ext [] hE0.drew)) zN ?_
    refine q_load (p := (padd ve 1)) (.inl rfl) (.int .i64 ex.num) one2 rfl ((hl1 _ (Chg.of_ext [] hE0.drew)).ld (i := 1) (by simp [exC,fnC])) zN ?_
    refine q_idx (v := ve16) ((ex.num).toNat) u30 tiS80 rfl rfl hx16.isSl (by omega) (by first | omega | assumption | (simp; done) | (simp; omega)) zN ?_
    refine q_assign (eptr ve16 ((ex.num).toNat) 3) rfl zN ?_
    refine lw_nil ?_
    refine wp_seq ?_
    refine wp_seq ?_
    refine wp_draw _ [0,0,0,1,0,0,0,1,0,0,0,0,0,0,0,0,1,0,0,0,0,1,0,0] mixed (by kernel_rfl) ?_
    refine q_move ve rfl zN ?_
    refine q_nilP (hex.isPtr) rfl zN ?_
    refine q_fldL (p := ve) 2 fd94_2 rfl (hl1 _ (Chg.of_ext [] hE0.drew.drew)) zN ?_
    refine q_load (p := (padd ve 2)) (.inl rfl) (.int .i64 ex.pick) one2 rfl ((hl1 _ (Chg.of_ext [] hE0.drew.drew)).ld (i := 2) (by simp [exC,fnC])) zN ?_
    refine q_move (eptr ve16 ((ex.num).toNat) 3) rfl zN ?_
    refine q_nilP (RN.isPtr (RN.ptr (good_rFn dp) (by decide) Fn.zero hx16 (by first | omega | assumption | (simp; done) | (simp; omega)))) rfl zN ?_
    obtain ⟨cs17,hr17,hl17⟩ := hx16.get (good_rFn dp) Fn.zero (k := ((ex.num).toNat)) (by first | omega | assumption | (simp; done) | (simp; omega))
    obtain ⟨ve17,rfl,hx17⟩ := RF.of hr17
    have hln17 := hx17.rn.lenle
    unfold maxLen at hln17
    refine q_fldL (p := eptr ve16 ((ex.num).toNat) 3) 2 fd80_2 rfl (hl17 _ (Chg.of_ext [] hE0.drew.drew)) zN ?_
    refine q_load (p := (padd (eptr ve16 ((ex.num).toNat) 3) 2)) (.inl rfl) ve17 one78 rfl ((hl17 _ (Chg.of_ext [] hE0.drew.drew)).ld (i := 2) (by simp [exC,fnC])) zN ?_
    refine q_len (v := ve17) u78 rfl hx17.rn.isSl zN ?_
    refine q_sub ((((p.getD (ex.num).toNat Fn.zero).outs.length :Nat):Int) - 1) rfl rfl (w64 (by omega) (by omega)) zN ?_
    refine lw_callq 63 [] [] [(.int .i64 ex.pick),(.int .i64 ((0 :Nat):Int)),(.int .i64 ((((p.getD (ex.num).toNat Fn.zero).outs.length :Nat):Int) - 1))] rfl rfl cf63 zN (.bool (decide (((0 :Nat):Int) ≤ ex.pick) && decide (ex.pick ≤ ((((p.getD (ex.num).toNat Fn.zero).outs.length :Nat):Int) - 1)))) (fun wq => c_spec_l00In wq _ _ _ hx1.rng.pick (by omega) (by omega)) ?_
    refine q_not (!(decide (((0 :Nat):Int) ≤ ex.pick) && decide (ex.pick ≤ ((((p.getD (ex.num).toNat Fn.zero).outs.length :Nat):Int) - 1)))) rfl rfl zN ?_
    refine q_move (.bool (!(decide (((0 :Nat):Int) ≤ ex.pick) && decide (ex.pick ≤ ((((p.getD (ex.num).toNat Fn.zero).outs.length :Nat):Int) - 1))))) rfl zN ?_
    cases hb19 : (!(decide (((0 :Nat):Int) ≤ ex.pick) && decide (ex.pick ≤ ((((p.getD (ex.num).toNat Fn.zero).outs.length :Nat):Int) - 1))))
    ·
     refine q_move ve rfl (zS (e := 51) rfl rfl rfl) ?_
     refine q_nilP (hex.isPtr) rfl (zS (e := 51) rfl rfl rfl) ?_
     refine q_fldL (p := ve) 4 fd94_4 rfl (hl1 _ (Chg.of_ext [] hE0.drew.drew)) (zS (e := 51) rfl rfl rfl) ?_
     refine q_load (p := (padd ve 4)) (.inl rfl) ve1 one78 rfl ((hl1 _ (Chg.of_ext [] hE0.drew.drew)).ld (i := 4) (by simp [exC,fnC])) (zS (e := 51) rfl rfl rfl) ?_
     refine q_len (v := ve1) u78 rfl hx1.rn.isSl (zS (e := 51) rfl rfl rfl) ?_
     refine q_move (eptr ve16 ((ex.num).toNat) 3) rfl (zS (e := 51) rfl rfl rfl) ?_
     refine q_nilP (RN.isPtr (RN.ptr (good_rFn dp) (by decide) Fn.zero hx16 (by first | omega | assumption | (simp; done) | (simp; omega)))) rfl (zS (e := 51) rfl rfl rfl) ?_
     refine q_fldL (p := eptr ve16 ((ex.num).toNat) 3) 1 fd80_1 rfl (hl17 _ (Chg.of_ext [] hE0.drew.drew)) (zS (e := 51) rfl rfl rfl) ?_
     refine q_load (p := (padd (eptr ve16 ((ex.num).toNat) 3) 1)) (.inl rfl) (.int .i64 ((p.getD ((ex.num).toNat) Fn.zero).params)) one2 rfl ((hl17 _ (Chg.of_ext [] hE0.drew.drew)).ld (i := 1) (by simp [exC,fnC])) (zS (e := 51) rfl rfl rfl) ?_
     by_cases hc20 : ((ex.kids.length :Nat):Int) ≠ (p.getD ((ex.num).toNat) Fn.zero).params
     ·
      refine q_neq true rfl rfl (decide_eq_true hc20) (zS (e := 51) rfl rfl rfl) ?_
      refine q_pick false (.bool true) rfl rfl zN ?_
      refine lw_nil ?_
      refine c_cond_t rfl ?_
      refine wp_seq ?_
      refine wp_plain _ [0] rfl ?_
      refine q_assign (.bool false) rfl zN ?_
      refine lw_nil ?_
      refine wp_ret ?_
      refine t_ret ?_
      refine t_ret ?_
      exact post_ret [8] rfl (.bool false) rfl ⟨(by first | exact ret_bool (nd_bad (by omega) (by omega) (by omega)) | exact ret_bool (nd_1 (by omega) (by omega) (by omega) (by omega)) | exact ret_bool (nd_2 (by omega) (by omega) (by omega) (by omega)) | exact ret_bool ((decide_congr (by omega)).trans (nd_o (by omega) (by omega) (by omega) (by omega) (by omega) (by omega) (by omega))) | exact ret_bool (by unfold wfN plainB inB; first | (simp [*]; done) | (simp [*]; omega) | (simp [*] <;> intros <;> omega) | (simp_all; done) | (simp_all <;> omega))),hE0.drew.drew⟩
     ·
      refine q_neq false rfl rfl (decide_eq_false hc20) (zS (e := 51) rfl rfl rfl) ?_
      refine q_pick false (.bool false) rfl rfl zN ?_
      refine lw_nil ?_
      refine c_cond_f rfl ?_
      refine wp_skip ?_
      refine wp_seq ?_
      refine wp_seq ?_
      refine wp_plain _ [0,0,0,2,0] rfl ?_
      refine q_move ve rfl zN ?_
      refine q_nilP (hex.isPtr) rfl zN ?_
      refine q_fldL (p := ve) 0 fd94_0 rfl (hl1 _ (Chg.of_ext [] hE0.drew.drew)) zN ?_
      refine q_load (p := (padd ve 0)) (.inr rfl) (.int .i64 ex.kind) one2 rfl ((hl1 _ (Chg.of_ext [] hE0.drew.drew)).ld (i := 0) (by simp [exC,fnC])) zN ?_
      by_cases hc21 : ex.kind = ((10 :Nat):Int)
      ·
       refine q_eql true rfl rfl (decide_eq_true hc21) zN ?_
       refine lw_nil ?_
       refine c_cond_t rfl ?_
       refine wp_seq ?_
       refine wp_plain _ [0,0,0,2,0,0] rfl ?_
       refine q_move ve rfl zN ?_
       refine q_nilP (hex.isPtr) rfl zN ?_
       refine q_fldL (p := ve) 3 fd94_3 rfl (hl1 _ (Chg.of_ext [] hE0.drew.drew)) zN ?_
       refine q_load (p := (padd ve 3)) (.inr rfl) (.int .i64 ex.count) one2 rfl ((hl1 _ (Chg.of_ext [] hE0.drew.drew)).ld (i := 3) (by simp [exC,fnC])) zN ?_
       refine q_eql (decide (ex.count = ((0 :Nat):Int))) rfl rfl rfl zN ?_
       refine q_assign (.bool (decide (ex.count = ((0 :Nat):Int)))) rfl zN ?_
       refine lw_nil ?_
       refine wp_ret ?_
       refine t_ret ?_
       refine t_ret ?_
       exact post_ret [8] rfl (.bool (decide (ex.count = ((0 :Nat):Int)))) rfl ⟨(by first | exact ret_bool (nd_bad (by omega) (by omega) (by omega)) | exact ret_bool (nd_1 (by omega) (by omega) (by omega) (by omega)) | exact ret_bool (nd_2 (by omega) (by omega) (by omega) (by omega)) | exact ret_bool ((decide_congr (by omega)).trans (nd_o (by omega) (by omega) (by omega) (by omega) (by omega) (by omega) (by omega))) | exact ret_bool (by unfold wfN plainB inB; first | (simp [*]; done) | (simp [*]; omega) | (simp [*] <;> intros <;> omega) | (simp_all; done) | (simp_all <;> omega))),hE0.drew.drew⟩
      ·
       refine q_eql false rfl rfl (decide_eq_false hc21) zN ?_
       refine lw_nil ?_
       refine c_cond_f rfl ?_
       refine wp_skip ?_
       refine wp_seq ?_
       refine wp_draw _ [0,0,0,1,0,0,0,0,0,1,0,0,0,0,1,0,0,0] mixed (by kernel_rfl) ?_
       refine q_move ve rfl zN ?_
       refine q_nilP (hex.isPtr) rfl zN ?_
       refine q_fldL (p := ve) 3 fd94_3 rfl (hl1 _ (Chg.of_ext [] hE0.drew.drew.drew)) zN ?_
       refine q_load (p := (padd ve 3)) (.inl rfl) (.int .i64 ex.count) one2 rfl ((hl1 _ (Chg.of_ext [] hE0.drew.drew.drew)).ld (i := 3) (by simp [exC,fnC])) zN ?_
       refine lw_callq 63 [] [] [(.int .i64 ex.count),(.int .i64 ((0 :Nat):Int)),(.int .i64 ((8 :Nat):Int))] rfl rfl cf63 zN (.bool (decide (((0 :Nat):Int) ≤ ex.count) && decide (ex.count ≤ ((8 :Nat):Int)))) (fun wq => c_spec_l00In wq _ _ _ hx1.rng.count (by omega) (by omega)) ?_
       refine q_move (.bool (decide (((0 :Nat):Int) ≤ ex.count) && decide (ex.count ≤ ((8 :Nat):Int)))) rfl zN ?_
       cases hb23 : (decide (((0 :Nat):Int) ≤ ex.count) && decide (ex.count ≤ ((8 :Nat):Int)))
       ·
        refine lw_skip (e := 78) (c := false) rfl rfl rfl rfl ?_
        refine lw_skip (e := 78) (c := false) rfl rfl rfl rfl ?_
        refine lw_skip (e := 78) (c := false) rfl rfl rfl rfl ?_
        refine lw_skip (e := 78) (c := false) rfl rfl rfl rfl ?_
        refine lw_skip (e := 78) (c := false) rfl rfl rfl rfl ?_
        refine lw_skip (e := 78) (c := false) rfl rfl rfl rfl ?_
        refine lw_skip (e := 78) (c := false) rfl rfl rfl rfl ?_
        refine lw_skip (e := 78) (c := false) rfl rfl rfl rfl ?_
        refine lw_skip (e := 78) (c := false) rfl rfl rfl rfl ?_
        refine lw_skip (e := 78) (c := false) rfl rfl rfl rfl ?_
        refine q_pick false (.bool false) rfl rfl zN ?_
        refine q_assign (.bool false) rfl zN ?_
        refine lw_nil ?_
        refine wp_ret ?_
        refine t_ret ?_
        exact post_ret [8] rfl (.bool false) rfl ⟨(by first | exact ret_bool (nd_bad (by omega) (by omega) (by omega)) | exact ret_bool (nd_1 (by omega) (by omega) (by omega) (by omega)) | exact ret_bool (nd_2 (by omega) (by omega) (by omega) (by omega)) | exact ret_bool ((decide_congr (by omega)).trans (nd_o (by omega) (by omega) (by omega) (by omega) (by omega) (by omega) (by omega))) | exact ret_bool (by unfold wfN plainB inB; first | (simp [*]; done) | (simp [*]; omega) | (simp [*] <;> intros <;> omega) | (simp_all; done) | (simp_all <;> omega))),hE0.drew.drew.drew⟩
       ·
        refine q_move (eptr ve16 ((ex.num).toNat) 3) rfl (zS (e := 78) rfl rfl rfl) ?_
        refine q_nilP (RN.isPtr (RN.ptr (good_rFn dp) (by decide) Fn.zero hx16 (by first | omega | assumption | (simp; done) | (simp; omega)))) rfl (zS (e := 78) rfl rfl rfl) ?_
        refine q_fldL (p := eptr ve16 ((ex.num).toNat) 3) 2 fd80_2 rfl (hl17 _ (Chg.of_ext [] hE0.drew.drew.drew)) (zS (e := 78) rfl rfl rfl) ?_
        refine q_load (p := (padd (eptr ve16 ((ex.num).toNat) 3) 2)) (.inl rfl) ve17 one78 rfl ((hl17 _ (Chg.of_ext [] hE0.drew.drew.drew)).ld (i := 2) (by simp [exC,fnC])) (zS (e := 78) rfl rfl rfl) ?_
        refine q_len (v := ve17) u78 rfl hx17.rn.isSl (zS (e := 78) rfl rfl rfl) ?_
        refine q_move (eptr ve16 ((ex.num).toNat) 3) rfl (zS (e := 78) rfl rfl rfl) ?_
        refine q_nilP (RN.isPtr (RN.ptr (good_rFn dp) (by decide) Fn.zero hx16 (by first | omega | assumption | (simp; done) | (simp; omega)))) rfl (zS (e := 78) rfl rfl rfl) ?_
        refine q_fldL (p := eptr ve16 ((ex.num).toNat) 3) 1 fd80_1 rfl (hl17 _ (Chg.of_ext [] hE0.drew.drew.drew)) (zS (e := 78) rfl rfl rfl) ?_
        refine q_load (p := (padd (eptr ve16 ((ex.num).toNat) 3) 1)) (.inl rfl) (.int .i64 ((p.getD ((ex.num).toNat) Fn.zero).params)) one2 rfl ((hl17 _ (Chg.of_ext [] hE0.drew.drew.drew)).ld (i := 1) (by simp [exC,fnC])) (zS (e := 78) rfl rfl rfl) ?_
        refine q_eql (decide (((((p.getD ((ex.num).toNat) Fn.zero).outs).length :Nat):Int) = (p.getD ((ex.num).toNat) Fn.zero).params)) rfl rfl rfl (zS (e := 78) rfl rfl rfl) ?_
        refine q_pick true (.bool (decide (((((p.getD ((ex.num).toNat) Fn.zero).outs).length :Nat):Int) = (p.getD ((ex.num).toNat) Fn.zero).params))) rfl rfl zN ?_
        refine q_assign (.bool (decide (((((p.getD ((ex.num).toNat) Fn.zero).outs).length :Nat):Int) = (p.getD ((ex.num).toNat) Fn.zero).params))) rfl zN ?_
        refine lw_nil ?_
        refine wp_ret ?_
        refine t_ret ?_
        exact post_ret [8] rfl (.bool (decide (((((p.getD ((ex.num).toNat) Fn.zero).outs).length :Nat):Int) = (p.getD ((ex.num).toNat) Fn.zero).params))) rfl ⟨(by first | exact ret_bool (nd_bad (by omega) (by omega) (by omega)) | exact ret_bool (nd_1 (by omega) (by omega) (by omega) (by omega)) | exact ret_bool (nd_2 (by omega) (by omega) (by omega) (by omega)) | exact ret_bool ((decide_congr (by omega)).trans (nd_o (by omega) (by omega) (by omega) (by omega) (by omega) (by omega) (by omega))) | exact ret_bool (by unfold wfN plainB inB; first | (simp [*]; done) | (simp [*]; omega) | (simp [*] <;> intros <;> omega) | (simp_all; done) | (simp_all <;> omega))),hE0.drew.drew.drew⟩
    ·
     refine lw_skip (e := 51) (c := true) rfl rfl rfl rfl ?_
     refine lw_skip (e := 51) (c := true) rfl rfl rfl rfl ?_
     refine lw_skip (e := 51) (c := true) rfl rfl rfl rfl ?_
     refine lw_skip (e := 51) (c := true) rfl rfl rfl rfl ?_
     refine lw_skip (e := 51) (c := true) rfl rfl rfl rfl ?_
     refine lw_skip (e := 51) (c := true) rfl rfl rfl rfl ?_
     refine lw_skip (e := 51) (c := true) rfl rfl rfl rfl ?_
     refine lw_skip (e := 51) (c := true) rfl rfl rfl rfl ?_
     refine lw_skip (e := 51) (c := true) rfl rfl rfl rfl ?_
     refine lw_skip (e := 51) (c := true) rfl rfl rfl rfl ?_
     refine q_pick true (.bool true) rfl rfl zN ?_
     refine lw_nil ?_
     refine c_cond_t rfl ?_
     refine wp_seq ?_
     refine wp_plain _ [0] rfl ?_
     refine q_assign (.bool false) rfl zN ?_
     refine lw_nil ?_
     refine wp_ret ?_
     refine t_ret ?_
     refine t_ret ?_
     exact post_ret [8] rfl (.bool false) rfl ⟨(by first | exact ret_bool (nd_bad (by omega) (by omega) (by omega)) | exact ret_bool (nd_1 (by omega) (by omega) (by omega) (by omega)) | exact ret_bool (nd_2 (by omega) (by omega) (by omega) (by omega)) | exact ret_bool ((decide_congr (by omega)).trans (nd_o (by omega) (by omega) (by omega) (by omega) (by omega) (by omega) (by omega))) | exact ret_bool (by unfold wfN plainB inB; first | (simp [*]; done) | (simp [*]; omega) | (simp [*] <;> intros <;> omega) | (simp_all; done) | (simp_all <;> omega))),hE0.drew.drew⟩
   ·
    refine c_cond_t (by first | rfl | (show Value.bool _ = _; rw [hb15])) ?_
    refine wp_seq ?_
    refine wp_plain _ [0] rfl ?_
    refine q_assign (.bool false) rfl zN ?_
    refine lw_nil ?_
    refine wp_ret ?_
    refine t_ret ?_
    refine t_ret ?_
    exact post_ret [8] rfl (.bool false) rfl ⟨(by first | exact ret_bool (nd_bad (by omega) (by omega) (by omega)) | exact ret_bool (nd_1 (by omega) (by omega) (by omega) (by omega)) | exact ret_bool (nd_2 (by omega) (by omega) (by omega) (by omega)) | exact ret_bool ((decide_congr (by omega)).trans (nd_o (by omega) (by omega) (by omega) (by omega) (by omega) (by omega) (by omega))) | exact ret_bool (by unfold wfN plainB inB; first | (simp [*]; done) | (simp [*]; omega) | (simp [*] <;> intros <;> omega) | (simp_all; done) | (simp_all <;> omega))),hE0⟩
  ·
   refine q_eql false rfl rfl (decide_eq_false hc13) (zS (e := 15) rfl rfl rfl) ?_
   refine q_pick false (.bool false) rfl rfl zN ?_
   refine lw_nil ?_
   refine c_cond_f rfl ?_
   refine wp_skip ?_
   refine wp_seq ?_
   refine wp_seq ?_
   refine wp_draw _ [0,0,0,1,0,0,0,0,1,0,0,0,0,0,0,1,0,0,0,0,0,0,1,0,0] mixed (by kernel_rfl) ?_
   refine q_move ve rfl zN ?_
   refine q_nilP (hex.isPtr) rfl zN ?_
   refine q_fldL (p := ve) 0 fd94_0 rfl (hl1 _ (Chg.of_ext [] hE0.drew)) zN ?_
   refine q_load (p := (padd ve 0)) (.inl rfl) (.int .i64 ex.kind) one2 rfl ((hl1 _ (Chg.of_ext [] hE0.drew)).ld (i := 0) (by simp [exC,fnC])) zN ?_
   refine lw_callq 110 [] [] [(.int .i64 ex.kind)] rfl rfl cf110 zN (.int .i64 (kdN ex.kind)) (fun wq => c_spec_l02Kids wq _ hx1.rng.kind) ?_
   refine q_move ve rfl zN ?_
   refine q_nilP (hex.isPtr) rfl zN ?_
   refine q_fldL (p := ve) 4 fd94_4 rfl (hl1 _ (Chg.of_ext [] hE0.drew)) zN ?_
   refine q_load (p := (padd ve 4)) (.inl rfl) ve1 one78 rfl ((hl1 _ (Chg.of_ext [] hE0.drew)).ld (i := 4) (by simp [exC,fnC])) zN ?_
   refine q_len (v := ve1) u78 rfl hx1.rn.isSl zN ?_
   by_cases hc25 : kdN ex.kind ≠ ((ex.kids.length :Nat):Int)
   ·
    refine q_neq true rfl rfl (decide_eq_true hc25) zN ?_
    refine q_move (.bool true) rfl zN ?_
    refine lw_skip (e := 101) (c := true) rfl rfl rfl rfl ?_
    refine lw_skip (e := 101) (c := true) rfl rfl rfl rfl ?_
    refine lw_skip (e := 101) (c := true) rfl rfl rfl rfl ?_
    refine lw_skip (e := 101) (c := true) rfl rfl rfl rfl ?_
    refine lw_skip (e := 101) (c := true) rfl rfl rfl rfl ?_
    refine q_pick true (.bool true) rfl rfl zN ?_
    refine q_move (.bool true) rfl zN ?_
    refine lw_skip (e := 108) (c := true) rfl rfl rfl rfl ?_
    refine lw_skip (e := 108) (c := true) rfl rfl rfl rfl ?_
    refine lw_skip (e := 108) (c := true) rfl rfl rfl rfl ?_
    refine lw_skip (e := 108) (c := true) rfl rfl rfl rfl ?_
    refine lw_skip (e := 108) (c := true) rfl rfl rfl rfl ?_
    refine q_pick true (.bool true) rfl rfl zN ?_
    refine lw_nil ?_
    refine c_cond_t rfl ?_
    refine wp_seq ?_
    refine wp_plain _ [0] rfl ?_
    refine q_assign (.bool false) rfl zN ?_
    refine lw_nil ?_
    refine wp_ret ?_
    refine t_ret ?_
    exact post_ret [8] rfl (.bool false) rfl ⟨(by first | exact ret_bool (nd_bad (by omega) (by omega) (by omega)) | exact ret_bool (nd_1 (by omega) (by omega) (by omega) (by omega)) | exact ret_bool (nd_2 (by omega) (by omega) (by omega) (by omega)) | exact ret_bool ((decide_congr (by omega)).trans (nd_o (by omega) (by omega) (by omega) (by omega) (by omega) (by omega) (by omega))) | exact ret_bool (by unfold wfN plainB inB; first | (simp [*]; done) | (simp [*]; omega) | (simp [*] <;> intros <;> omega) | (simp_all; done) | (simp_all <;> omega))),hE0.drew⟩
   ·
    refine q_neq false rfl rfl (decide_eq_false hc25) zN ?_
    refine q_move (.bool false) rfl zN ?_
    refine q_move ve rfl (zS (e := 101) rfl rfl rfl) ?_
    refine q_nilP (hex.isPtr) rfl (zS (e := 101) rfl rfl rfl) ?_
    refine q_fldL (p := ve) 2 fd94_2 rfl (hl1 _ (Chg.of_ext [] hE0.drew)) (zS (e := 101) rfl rfl rfl) ?_
    refine q_load (p := (padd ve 2)) (.inl rfl) (.int .i64 ex.pick) one2 rfl ((hl1 _ (Chg.of_ext [] hE0.drew)).ld (i := 2) (by simp [exC,fnC])) (zS (e := 101) rfl rfl rfl) ?_
    by_cases hc26 : ex.pick ≠ ((0 :Nat):Int)
    ·
     refine q_neq true rfl rfl (decide_eq_true hc26) (zS (e := 101) rfl rfl rfl) ?_
     refine q_pick false (.bool true) rfl rfl zN ?_
     refine q_move (.bool true) rfl zN ?_
     refine lw_skip (e := 108) (c := true) rfl rfl rfl rfl ?_
     refine lw_skip (e := 108) (c := true) rfl rfl rfl rfl ?_
     refine lw_skip (e := 108) (c := true) rfl rfl rfl rfl ?_
     refine lw_skip (e := 108) (c := true) rfl rfl rfl rfl ?_
     refine lw_skip (e := 108) (c := true) rfl rfl rfl rfl ?_
     refine q_pick true (.bool true) rfl rfl zN ?_
     refine lw_nil ?_
     refine c_cond_t rfl ?_
     refine wp_seq ?_
     refine wp_plain _ [0] rfl ?_
     refine q_assign (.bool false) rfl zN ?_
     refine lw_nil ?_
     refine wp_ret ?_
     refine t_ret ?_
     exact post_ret [8] rfl (.bool false) rfl ⟨(by first | exact ret_bool (nd_bad (by omega) (by omega) (by omega)) | exact ret_bool (nd_1 (by omega) (by omega) (by omega) (by omega)) | exact ret_bool (nd_2 (by omega) (by omega) (by omega) (by omega)) | exact ret_bool ((decide_congr (by omega)).trans (nd_o (by omega) (by omega) (by omega) (by omega) (by omega) (by omega) (by omega))) | exact ret_bool (by unfold wfN plainB inB; first | (simp [*]; done) | (simp [*]; omega) | (simp [*] <;> intros <;> omega) | (simp_all; done) | (simp_all <;> omega))),hE0.drew⟩
    ·
     refine q_neq false rfl rfl (decide_eq_false hc26) (zS (e := 101) rfl rfl rfl) ?_
     refine q_pick false (.bool false) rfl rfl zN ?_
     refine q_move (.bool false) rfl zN ?_
     refine q_move ve rfl (zS (e := 108) rfl rfl rfl) ?_
     refine q_nilP (hex.isPtr) rfl (zS (e := 108) rfl rfl rfl) ?_
     refine q_fldL (p := ve) 3 fd94_3 rfl (hl1 _ (Chg.of_ext [] hE0.drew)) (zS (e := 108) rfl rfl rfl) ?_
     refine q_load (p := (padd ve 3)) (.inl rfl) (.int .i64 ex.count) one2 rfl ((hl1 _ (Chg.of_ext [] hE0.drew)).ld (i := 3) (by simp [exC,fnC])) (zS (e := 108) rfl rfl rfl) ?_
     by_cases hc27 : ex.count ≠ ((0 :Nat):Int)
     ·
      refine q_neq true rfl rfl (decide_eq_true hc27) (zS (e := 108) rfl rfl rfl) ?_
      refine q_pick false (.bool true) rfl rfl zN ?_
      refine lw_nil ?_
      refine c_cond_t rfl ?_
      refine wp_seq ?_
      refine wp_plain _ [0] rfl ?_
      refine q_assign (.bool false) rfl zN ?_
      refine lw_nil ?_
      refine wp_ret ?_
      refine t_ret ?_
      exact post_ret [8] rfl (.bool false) rfl ⟨(by first | exact ret_bool (nd_bad (by omega) (by omega) (by omega)) | exact ret_bool (nd_1 (by omega) (by omega) (by omega) (by omega)) | exact ret_bool (nd_2 (by omega) (by omega) (by omega) (by omega)) | exact ret_bool ((decide_congr (by omega)).trans (nd_o (by omega) (by omega) (by omega) (by omega) (by omega) (by omega) (by omega))) | exact ret_bool (by unfold wfN plainB inB; first | (simp [*]; done) | (simp [*]; omega) | (simp [*] <;> intros <;> omega) | (simp_all; done) | (simp_all <;> omega))),hE0.drew⟩
     ·
      refine q_neq false rfl rfl (decide_eq_false hc27) (zS (e := 108) rfl rfl rfl) ?_
      refine q_pick false (.bool false) rfl rfl zN ?_
      refine lw_nil ?_
      refine c_cond_f rfl ?_
      refine wp_skip ?_
      refine wp_seq ?_
      refine wp_seq ?_
      refine wp_plain _ [0,0,0,2] rfl ?_
      refine q_move ve rfl zN ?_
      refine q_nilP (hex.isPtr) rfl zN ?_
      refine q_fldL (p := ve) 0 fd94_0 rfl (hl1 _ (Chg.of_ext [] hE0.drew)) zN ?_
      refine q_load (p := (padd ve 0)) (.inr rfl) (.int .i64 ex.kind) one2 rfl ((hl1 _ (Chg.of_ext [] hE0.drew)).ld (i := 0) (by simp [exC,fnC])) zN ?_
      refine lw_nil ?_
      refine wp_block ?_
      refine wp_seq ?_
      refine wp_plain _ [0,0] rfl ?_
      by_cases hc28 : ex.kind = ((1 :Nat):Int)
      ·
       refine q_eql true rfl rfl (decide_eq_true hc28) zN ?_
       refine q_assign (.bool true) rfl zN ?_
       refine lw_nil ?_
       refine c_cond_t rfl ?_
       refine wp_seq ?_
       refine wp_plain _ [0,0,0,2,0,0] rfl ?_
       refine q_move ve rfl zN ?_
       refine q_nilP (hex.isPtr) rfl zN ?_
       refine q_fldL (p := ve) 1 fd94_1 rfl (hl1 _ (Chg.of_ext [] hE0.drew)) zN ?_
       refine q_load (p := (padd ve 1)) (.inr rfl) (.int .i64 ex.num) one2 rfl ((hl1 _ (Chg.of_ext [] hE0.drew)).ld (i := 1) (by simp [exC,fnC])) zN ?_
       refine lw_callq 114 [] [] [(.int .i64 ex.num)] rfl rfl cf114 zN (.bool (isN ex.num)) (fun wq => c_spec_l01Number wq _ hx1.rng.num) ?_
       refine q_assign (.bool (isN ex.num)) rfl zN ?_
       refine lw_nil ?_
       refine wp_ret ?_
       refine b_ret ?_
       refine t_ret ?_
       exact post_ret [8] rfl (.bool (isN ex.num)) rfl ⟨(by first | exact ret_bool (nd_bad (by omega) (by omega) (by omega)) | exact ret_bool (nd_1 (by omega) (by omega) (by omega) (by omega)) | exact ret_bool (nd_2 (by omega) (by omega) (by omega) (by omega)) | exact ret_bool ((decide_congr (by omega)).trans (nd_o (by omega) (by omega) (by omega) (by omega) (by omega) (by omega) (by omega))) | exact ret_bool (by unfold wfN plainB inB; first | (simp [*]; done) | (simp [*]; omega) | (simp [*] <;> intros <;> omega) | (simp_all; done) | (simp_all <;> omega))),hE0.drew⟩
      ·
       refine q_eql false rfl rfl (decide_eq_false hc28) zN ?_
       refine q_assign (.bool false) rfl zN ?_
       refine lw_nil ?_
       refine c_cond_f rfl ?_
       refine wp_seq ?_
       refine wp_plain _ [0,0] rfl ?_
       by_cases hc30 : ex.kind = ((2 :Nat):Int)
       ·
        refine q_eql true rfl rfl (decide_eq_true hc30) zN ?_
        refine q_assign (.bool true) rfl zN ?_
        refine lw_nil ?_
        refine c_cond_t rfl ?_
        refine wp_seq ?_
        refine wp_plain _ [0,0,0,2,0,0,0,0] rfl ?_
        refine q_move ve rfl zN ?_
        refine q_nilP (hex.isPtr) rfl zN ?_
        refine q_fldL (p := ve) 1 fd94_1 rfl (hl1 _ (Chg.of_ext [] hE0.drew)) zN ?_
        refine q_load (p := (padd ve 1)) (.inr rfl) (.int .i64 ex.num) one2 rfl ((hl1 _ (Chg.of_ext [] hE0.drew)).ld (i := 1) (by simp [exC,fnC])) zN ?_
        refine q_move (.int .i64 vars) rfl zN ?_
        refine q_sub (vars - 1) rfl rfl (w64 (by omega) (by omega)) zN ?_
        refine lw_callq 63 [] [] [(.int .i64 ex.num),(.int .i64 ((0 :Nat):Int)),(.int .i64 (vars - 1))] rfl rfl cf63 zN (.bool (decide (((0 :Nat):Int) ≤ ex.num) && decide (ex.num ≤ (vars - 1)))) (fun wq => c_spec_l00In wq _ _ _ hx1.rng.num (by omega) (by omega)) ?_
        refine q_assign (.bool (decide (((0 :Nat):Int) ≤ ex.num) && decide (ex.num ≤ (vars - 1)))) rfl zN ?_
        refine lw_nil ?_
        refine wp_ret ?_
        refine b_ret ?_
        refine t_ret ?_
        exact post_ret [8] rfl (.bool (decide (((0 :Nat):Int) ≤ ex.num) && decide (ex.num ≤ (vars - 1)))) rfl ⟨(by first | exact ret_bool (nd_bad (by omega) (by omega) (by omega)) | exact ret_bool (nd_1 (by omega) (by omega) (by omega) (by omega)) | exact ret_bool (nd_2 (by omega) (by omega) (by omega) (by omega)) | exact ret_bool ((decide_congr (by omega)).trans (nd_o (by omega) (by omega) (by omega) (by omega) (by omega) (by omega) (by omega))) | exact ret_bool (by unfold wfN plainB inB; first | (simp [*]; done) | (simp [*]; omega) | (simp [*] <;> intros <;> omega) | (simp_all; done) | (simp_all <;> omega))),hE0.drew⟩
       ·
        refine q_eql false rfl rfl (decide_eq_false hc30) zN ?_
        refine q_assign (.bool false) rfl zN ?_
        refine lw_nil ?_
        refine c_cond_f rfl ?_
        refine wp_skip ?_
        refine wp_seq ?_
        refine wp_plain _ [0,0,0,2,0,0] rfl ?_
        refine q_move ve rfl zN ?_
        refine q_nilP (hex.isPtr) rfl zN ?_
        refine q_fldL (p := ve) 1 fd94_1 rfl (hl1 _ (Chg.of_ext [] hE0.drew)) zN ?_
        refine q_load (p := (padd ve 1)) (.inr rfl) (.int .i64 ex.num) one2 rfl ((hl1 _ (Chg.of_ext [] hE0.drew)).ld (i := 1) (by simp [exC,fnC])) zN ?_
        refine q_eql (decide (ex.num = ((0 :Nat):Int))) rfl rfl rfl zN ?_
        refine q_assign (.bool (decide (ex.num = ((0 :Nat):Int)))) rfl zN ?_
        refine lw_nil ?_
        refine wp_ret ?_
        exact post_ret [8] rfl (.bool (decide (ex.num = ((0 :Nat):Int)))) rfl ⟨(by first | exact ret_bool (nd_bad (by omega) (by omega) (by omega)) | exact ret_bool (nd_1 (by omega) (by omega) (by omega) (by omega)) | exact ret_bool (nd_2 (by omega) (by omega) (by omega) (by omega)) | exact ret_bool ((decide_congr (by omega)).trans (nd_o (by omega) (by omega) (by omega) (by omega) (by omega) (by omega) (by omega))) | exact ret_bool (by unfold wfN plainB inB; first | (simp [*]; done) | (simp [*]; omega) | (simp [*] <;> intros <;> omega) | (simp_all; done) | (simp_all <;> omega))),hE0.drew⟩
set_option maxHeartbeats 4000000 in
set_option maxRecDepth 100000 in
theorem c_spec_l02Tree (w : World) (dp : Nat) (vp : Value) (p : List Fn) (dex : Nat) (ve : Value) (ex : Ex) (vars : Int) (funcs : Int) (hp : RN [] (rP (rPr dp)) w.heap vp p) (hex : RN [] (rP (rEx dex)) w.heap ve ex) (_hvars : -9223372036854775808 ≤ vars ∧ vars ≤ 9223372036854775807) (_hfuncs : -9223372036854775808 ≤ funcs ∧ funcs ≤ 9223372036854775807) (hs : 0 ≤ vars ∧ vars + (ex.deep : Int) ≤ 2000000000) (hf : 0 ≤ funcs ∧ funcs ≤ ((p.length :Nat):Int)) :
  Calls Tryz.prog 165 #[vp,ve,.int .i64 vars,.int .i64 funcs] w (fun e w' => e = .returned (.bool (wf p funcs ex vars)) ∧ Ext w w') := by
 induction dex using Nat.strongRecOn generalizing w dp vp p ve ex vars funcs
 rename_i dex ih
 refine calls_mk [vp,ve,.int .i64 vars,.int .i64 funcs] 49 Tryz.func165 rfl rfl (by simp) ?_
 have hE0 : Ext w w := Ext.refl w
 have hdk := deep_kids ex
 refine wp_seq ?_
 refine wp_plain _ [0] rfl ?_
 refine q_assign (.bool false) rfl zN ?_
 refine lw_nil ?_
 refine wp_seq ?_
 refine wp_seq ?_
 refine wp_plain _ [0,0,0,0,3,0] rfl ?_
 refine q_move vp rfl zN ?_
 refine q_move ve rfl zN ?_
 refine q_move (.int .i64 vars) rfl zN ?_
 refine q_move (.int .i64 funcs) rfl zN ?_
 refine lw_call 171 [] [] [vp,ve,(.int .i64 vars),(.int .i64 funcs)] rfl rfl cf171 zN (c_spec_l02Node _ dp vp (p) dex ve (ex) _ _ (hp.ext (good_rP (good_rPr dp)) hE0) (hex.ext (good_rP (good_rEx dex)) hE0) _hvars _hfuncs (by omega) (by omega)) ?_
 rintro e1 w1 ⟨rfl,hX1⟩
 refine ⟨_,rfl,hX1,?_⟩
 have hzs1:=hX1.size
 have hE1:=hE0.trans hX1
 refine q_not (!(wfN p funcs vars ex)) rfl rfl zN ?_
 refine lw_nil ?_
 cases hb2 : (!(wfN p funcs vars ex))
 ·
  refine c_cond_f (by first | rfl | (show Value.bool _ = _; rw [hb2])) ?_
  refine wp_skip ?_
  refine wp_seq ?_
  refine wp_seq ?_
  refine wp_plain _ [0] rfl ?_
  refine q_assign (.int .i64 ((0 :Nat):Int)) rfl zN ?_
  refine lw_nil ?_
  refine wp_block ?_
  refine c_loop (S := Nat) (fun (k : Nat) => ([(9,(.int .i64 ((k :Nat):Int))),(0,vp),(1,ve),(2,(.int .i64 vars)),(3,(.int .i64 funcs))] : List (Nat × Value))) (fun (k : Nat) (W : World) => Ext w W ∧ k ≤ ex.kids.length ∧ (∀ j,j < k → wf p funcs (ex.kids.getD j Ex.zero) (if ex.kind = 9 ∧ j = 1 then vars + 1 else vars) = true)) (fun (k : Nat) => ex.kids.length - k) 0 ⟨rfl,rfl,rfl,rfl,rfl,trivial⟩ ⟨hE1,(by first | omega | assumption | (simp; done) | (simp; omega)),(by intro j hj; omega)⟩ ?_
  clear hE0 hX1 hzs1 hE1
  rintro k ρ3 w3 ⟨hE3,hp3_0,hall⟩
  have hzs3 : w.heap.size ≤ w3.heap.size := hE3.size
  refine wp_seq ?_
  refine wp_seq ?_
  refine wp_plain _ [0,0,0,0,2,0,0] rfl ?_
  refine q_move (.int .i64 ((k :Nat):Int)) rfl zN ?_
  refine q_move ve rfl zN ?_
  refine q_nilP (hex.isPtr) rfl zN ?_
  obtain ⟨cs4,hr4,hl4⟩ := RN.at (good_rEx _) hex
  obtain ⟨dd4,ve4,hd4,rfl,hx4⟩ := RX.of hr4
  have hln4 := hx4.rn.lenle
  unfold maxLen at hln4
  refine q_fldL (p := ve) 4 fd94_4 rfl (hl4 _ (Chg.of_ext [] hE3)) zN ?_
  refine q_load (p := (padd ve 4)) (.inr rfl) ve4 one78 rfl ((hl4 _ (Chg.of_ext [] hE3)).ld (i := 4) (by simp [exC,fnC])) zN ?_
  refine q_len (v := ve4) u78 rfl hx4.rn.isSl zN ?_
  by_cases hc5 : ((k :Nat):Int) < ((ex.kids.length :Nat):Int)
  ·
   refine q_lss true rfl rfl (decide_eq_true hc5) zN ?_
   refine lw_nil ?_
   refine c_cond_t rfl ?_
   refine wp_skip ?_
   refine wp_seq ?_
   refine wp_block ?_
   refine wp_seq ?_
   refine wp_plain _ [0,0] rfl ?_
   have hkd := kd_at (l := ex.kids) (k := k) (by omega)
   refine q_move (.int .i64 vars) rfl zN ?_
   refine q_assign (.int .i64 vars) rfl zN ?_
   refine lw_nil ?_
   refine wp_seq ?_
   refine wp_seq ?_
   refine wp_plain _ [0,0,0,2,0,0,0,0,0] rfl ?_
   refine q_move ve rfl zN ?_
   refine q_nilP (hex.isPtr) rfl zN ?_
   refine q_fldL (p := ve) 0 fd94_0 rfl (hl4 _ (Chg.of_ext [] hE3)) zN ?_
   refine q_load (p := (padd ve 0)) (.inr rfl) (.int .i64 ex.kind) one2 rfl ((hl4 _ (Chg.of_ext [] hE3)).ld (i := 0) (by simp [exC,fnC])) zN ?_
   by_cases hc6 : ex.kind = ((9 :Nat):Int)
   ·
    refine q_eql true rfl rfl (decide_eq_true hc6) zN ?_
    refine q_move (.bool true) rfl zN ?_
    refine q_move (.int .i64 ((k :Nat):Int)) rfl (zS (e := 32) rfl rfl rfl) ?_
    by_cases hc7 : ((k :Nat):Int) = ((1 :Nat):Int)
    ·
     refine q_eql true rfl rfl (decide_eq_true hc7) (zS (e := 32) rfl rfl rfl) ?_
     refine q_pick true (.bool true) rfl rfl zN ?_
     refine lw_nil ?_
     refine c_cond_t rfl ?_
     refine wp_plain _ [0,0,0] rfl ?_
     refine q_move (.int .i64 vars) rfl zN ?_
     refine q_add (vars + 1) rfl rfl (w64 (by omega) (by omega)) zN ?_
     refine q_assign (.int .i64 (vars + 1)) rfl zN ?_
     refine lw_nil ?_
     refine wp_seq ?_
     refine wp_plain _ [0,0,0,0,2,0,0,0,0,3,0] rfl ?_
     refine q_move vp rfl zN ?_
     refine q_move ve rfl zN ?_
     refine q_nilP (hex.isPtr) rfl zN ?_
     refine q_fldL (p := ve) 4 fd94_4 rfl (hl4 _ (Chg.of_ext [] hE3)) zN ?_
     refine q_load (p := (padd ve 4)) (.inr rfl) ve4 one78 rfl ((hl4 _ (Chg.of_ext [] hE3)).ld (i := 4) (by simp [exC,fnC])) zN ?_
     refine q_move (.int .i64 ((k :Nat):Int)) rfl zN ?_
     refine q_idx (v := ve4) k u78 tiS94 rfl rfl hx4.rn.isSl rfl (by first | omega | assumption | (simp; done) | (simp; omega)) zN ?_
     refine q_move (.int .i64 (vars + 1)) rfl zN ?_
     refine q_move (.int .i64 funcs) rfl zN ?_
     refine lw_call 165 [] [] [vp,(eptr ve4 k 5),(.int .i64 (vars + 1)),(.int .i64 funcs)] rfl rfl cf165 zN (ih dd4 (by omega) _ dp vp (p) (eptr ve4 k 5) (ex.kids.getD k Ex.zero) _ _ (hp.ext (good_rP (good_rPr dp)) hE3) (RN.ptr (good_rEx dd4) (by decide) Ex.zero (hx4.rn.ext (good_rdS (good_rEx dd4)) hE3) (by first | omega | assumption | (simp; done) | (simp; omega))) (by omega) _hfuncs (by omega) (by omega)) ?_
     rintro e8 w8 ⟨rfl,hX8⟩
     refine ⟨_,rfl,hX8,?_⟩
     have hzs8:=hX8.size
     have hE8:=hE3.trans hX8
     refine q_not (!(wf p funcs (ex.kids.getD k Ex.zero) (vars + 1))) rfl rfl zN ?_
     refine lw_nil ?_
     cases hb9 : (!(wf p funcs (ex.kids.getD k Ex.zero) (vars + 1)))
     ·
      refine c_cond_f (by first | rfl | (show Value.bool _ = _; rw [hb9])) ?_
      refine wp_skip ?_
      refine wp_plain _ [0,0,0] rfl ?_
      refine q_move (.int .i64 ((k :Nat):Int)) rfl zN ?_
      refine q_add ((k + 1 :Nat):Int) rfl rfl (w64n (by omega) (by first | omega | assumption | (simp; done) | (simp; omega))) zN ?_
      refine q_assign (.int .i64 ((k + 1 :Nat):Int)) rfl zN ?_
      refine lw_nil ?_
      exact ⟨(k + 1),_,rfl,⟨rfl,rfl,rfl,rfl,rfl,trivial⟩,⟨hE8,(by first | omega | assumption | (simp; done) | (simp; omega)),(by intro j hj; by_cases e9 : j = k; (rw [e9]; first | (rw [if_pos (by omega)]; exact bn_f (by assumption)) | (rw [if_neg (by omega)]; exact bn_f (by assumption))); exact hall j (by omega))⟩,by first | omega | (dsimp only; omega)⟩
     ·
      refine c_cond_t (by first | rfl | (show Value.bool _ = _; rw [hb9])) ?_
      refine wp_seq ?_
      refine wp_plain _ [0] rfl ?_
      refine q_assign (.bool false) rfl zN ?_
      refine lw_nil ?_
      refine wp_ret ?_
      refine b_ret ?_
      refine t_ret ?_
      refine t_ret ?_
      refine b_ret ?_
      refine t_ret ?_
      exact post_ret [8] rfl (.bool false) rfl ⟨(by first | exact ret_bool (wf_bad (bn_t (by assumption))) | exact ret_bool (wf_good (bn_f (by assumption)) fun j hj => hall j (by omega)) | exact ret_bool (wf_kid (k := k) (by omega) (by first | (rw [if_pos (by omega)]) | (rw [if_neg (by omega)])) (bn_t (by assumption)))),hE8⟩
    ·
     refine q_eql false rfl rfl (decide_eq_false hc7) (zS (e := 32) rfl rfl rfl) ?_
     refine q_pick true (.bool false) rfl rfl zN ?_
     refine lw_nil ?_
     refine c_cond_f rfl ?_
     refine wp_skip ?_
     refine wp_seq ?_
     refine wp_plain _ [0,0,0,0,2,0,0,0,0,3,0] rfl ?_
     refine q_move vp rfl zN ?_
     refine q_move ve rfl zN ?_
     refine q_nilP (hex.isPtr) rfl zN ?_
     refine q_fldL (p := ve) 4 fd94_4 rfl (hl4 _ (Chg.of_ext [] hE3)) zN ?_
     refine q_load (p := (padd ve 4)) (.inr rfl) ve4 one78 rfl ((hl4 _ (Chg.of_ext [] hE3)).ld (i := 4) (by simp [exC,fnC])) zN ?_
     refine q_move (.int .i64 ((k :Nat):Int)) rfl zN ?_
     refine q_idx (v := ve4) k u78 tiS94 rfl rfl hx4.rn.isSl rfl (by first | omega | assumption | (simp; done) | (simp; omega)) zN ?_
     refine q_move (.int .i64 vars) rfl zN ?_
     refine q_move (.int .i64 funcs) rfl zN ?_
     refine lw_call 165 [] [] [vp,(eptr ve4 k 5),(.int .i64 vars),(.int .i64 funcs)] rfl rfl cf165 zN (ih dd4 (by omega) _ dp vp (p) (eptr ve4 k 5) (ex.kids.getD k Ex.zero) _ _ (hp.ext (good_rP (good_rPr dp)) hE3) (RN.ptr (good_rEx dd4) (by decide) Ex.zero (hx4.rn.ext (good_rdS (good_rEx dd4)) hE3) (by first | omega | assumption | (simp; done) | (simp; omega))) _hvars _hfuncs (by omega) (by omega)) ?_
     rintro e10 w10 ⟨rfl,hX10⟩
     refine ⟨_,rfl,hX10,?_⟩
     have hzs10:=hX10.size
     have hE10:=hE3.trans hX10
     refine q_not (!(wf p funcs (ex.kids.getD k Ex.zero) vars)) rfl rfl zN ?_
     refine lw_nil ?_
     cases hb11 : (!(wf p funcs (ex.kids.getD k Ex.zero) vars))
     ·
      refine c_cond_f (by first | rfl | (show Value.bool _ = _; rw [hb11])) ?_
      refine wp_skip ?_
      refine wp_plain _ [0,0,0] rfl ?_
      refine q_move (.int .i64 ((k :Nat):Int)) rfl zN ?_
      refine q_add ((k + 1 :Nat):Int) rfl rfl (w64n (by omega) (by first | omega | assumption | (simp; done) | (simp; omega))) zN ?_
      refine q_assign (.int .i64 ((k + 1 :Nat):Int)) rfl zN ?_
      refine lw_nil ?_
      exact ⟨(k + 1),_,rfl,⟨rfl,rfl,rfl,rfl,rfl,trivial⟩,⟨hE10,(by first | omega | assumption | (simp; done) | (simp; omega)),(by intro j hj; by_cases e9 : j = k; (rw [e9]; first | (rw [if_pos (by omega)]; exact bn_f (by assumption)) | (rw [if_neg (by omega)]; exact bn_f (by assumption))); exact hall j (by omega))⟩,by first | omega | (dsimp only; omega)⟩
     ·
      refine c_cond_t (by first | rfl | (show Value.bool _ = _; rw [hb11])) ?_
      refine wp_seq ?_
      refine wp_plain _ [0] rfl ?_
      refine q_assign (.bool false) rfl zN ?_
      refine lw_nil ?_
      refine wp_ret ?_
      refine b_ret ?_
      refine t_ret ?_
      refine t_ret ?_
      refine b_ret ?_
      refine t_ret ?_
      exact post_ret [8] rfl (.bool false) rfl ⟨(by first | exact ret_bool (wf_bad (bn_t (by assumption))) | exact ret_bool (wf_good (bn_f (by assumption)) fun j hj => hall j (by omega)) | exact ret_bool (wf_kid (k := k) (by omega) (by first | (rw [if_pos (by omega)]) | (rw [if_neg (by omega)])) (bn_t (by assumption)))),hE10⟩
   ·
    refine q_eql false rfl rfl (decide_eq_false hc6) zN ?_
    refine q_move (.bool false) rfl zN ?_
    refine lw_skip (e := 32) (c := false) rfl rfl rfl rfl ?_
    refine lw_skip (e := 32) (c := false) rfl rfl rfl rfl ?_
    refine q_pick false (.bool false) rfl rfl zN ?_
    refine lw_nil ?_
    refine c_cond_f rfl ?_
    refine wp_skip ?_
    refine wp_seq ?_
    refine wp_plain _ [0,0,0,0,2,0,0,0,0,3,0] rfl ?_
    refine q_move vp rfl zN ?_
    refine q_move ve rfl zN ?_
    refine q_nilP (hex.isPtr) rfl zN ?_
    refine q_fldL (p := ve) 4 fd94_4 rfl (hl4 _ (Chg.of_ext [] hE3)) zN ?_
    refine q_load (p := (padd ve 4)) (.inr rfl) ve4 one78 rfl ((hl4 _ (Chg.of_ext [] hE3)).ld (i := 4) (by simp [exC,fnC])) zN ?_
    refine q_move (.int .i64 ((k :Nat):Int)) rfl zN ?_
    refine q_idx (v := ve4) k u78 tiS94 rfl rfl hx4.rn.isSl rfl (by first | omega | assumption | (simp; done) | (simp; omega)) zN ?_
    refine q_move (.int .i64 vars) rfl zN ?_
    refine q_move (.int .i64 funcs) rfl zN ?_
    refine lw_call 165 [] [] [vp,(eptr ve4 k 5),(.int .i64 vars),(.int .i64 funcs)] rfl rfl cf165 zN (ih dd4 (by omega) _ dp vp (p) (eptr ve4 k 5) (ex.kids.getD k Ex.zero) _ _ (hp.ext (good_rP (good_rPr dp)) hE3) (RN.ptr (good_rEx dd4) (by decide) Ex.zero (hx4.rn.ext (good_rdS (good_rEx dd4)) hE3) (by first | omega | assumption | (simp; done) | (simp; omega))) _hvars _hfuncs (by omega) (by omega)) ?_
    rintro e12 w12 ⟨rfl,hX12⟩
    refine ⟨_,rfl,hX12,?_⟩
    have hzs12:=hX12.size
    have hE12:=hE3.trans hX12
    refine q_not (!(wf p funcs (ex.kids.getD k Ex.zero) vars)) rfl rfl zN ?_
    refine lw_nil ?_
    cases hb13 : (!(wf p funcs (ex.kids.getD k Ex.zero) vars))
    ·
     refine c_cond_f (by first | rfl | (show Value.bool _ = _; rw [hb13])) ?_
     refine wp_skip ?_
     refine wp_plain _ [0,0,0] rfl ?_
     refine q_move (.int .i64 ((k :Nat):Int)) rfl zN ?_
     refine q_add ((k + 1 :Nat):Int) rfl rfl (w64n (by omega) (by first | omega | assumption | (simp; done) | (simp; omega))) zN ?_
     refine q_assign (.int .i64 ((k + 1 :Nat):Int)) rfl zN ?_
     refine lw_nil ?_
     exact ⟨(k + 1),_,rfl,⟨rfl,rfl,rfl,rfl,rfl,trivial⟩,⟨hE12,(by first | omega | assumption | (simp; done) | (simp; omega)),(by intro j hj; by_cases e9 : j = k; (rw [e9]; first | (rw [if_pos (by omega)]; exact bn_f (by assumption)) | (rw [if_neg (by omega)]; exact bn_f (by assumption))); exact hall j (by omega))⟩,by first | omega | (dsimp only; omega)⟩
    ·
     refine c_cond_t (by first | rfl | (show Value.bool _ = _; rw [hb13])) ?_
     refine wp_seq ?_
     refine wp_plain _ [0] rfl ?_
     refine q_assign (.bool false) rfl zN ?_
     refine lw_nil ?_
     refine wp_ret ?_
     refine b_ret ?_
     refine t_ret ?_
     refine t_ret ?_
     refine b_ret ?_
     refine t_ret ?_
     exact post_ret [8] rfl (.bool false) rfl ⟨(by first | exact ret_bool (wf_bad (bn_t (by assumption))) | exact ret_bool (wf_good (bn_f (by assumption)) fun j hj => hall j (by omega)) | exact ret_bool (wf_kid (k := k) (by omega) (by first | (rw [if_pos (by omega)]) | (rw [if_neg (by omega)])) (bn_t (by assumption)))),hE12⟩
  ·
   refine q_lss false rfl rfl (decide_eq_false hc5) zN ?_
   refine lw_nil ?_
   refine c_cond_f rfl ?_
   refine wp_exit ?_
   refine t_exit ?_
   refine t_exit ?_
   refine c_exit_here ?_
   refine wp_seq ?_
   refine wp_plain _ [0] rfl ?_
   refine q_assign (.bool true) rfl zN ?_
   refine lw_nil ?_
   refine wp_ret ?_
   exact post_ret [8] rfl (.bool true) rfl ⟨(by first | exact ret_bool (wf_bad (bn_t (by assumption))) | exact ret_bool (wf_good (bn_f (by assumption)) fun j hj => hall j (by omega)) | exact ret_bool (wf_kid (k := k) (by omega) (by first | (rw [if_pos (by omega)]) | (rw [if_neg (by omega)])) (bn_t (by assumption)))),hE3⟩
 ·
  refine c_cond_t (by first | rfl | (show Value.bool _ = _; rw [hb2])) ?_
  refine wp_seq ?_
  refine wp_plain _ [0] rfl ?_
  refine q_assign (.bool false) rfl zN ?_
  refine lw_nil ?_
  refine wp_ret ?_
  refine t_ret ?_
  exact post_ret [8] rfl (.bool false) rfl ⟨(by first | exact ret_bool (wf_bad (bn_t (by assumption))) | exact ret_bool (wf_good (bn_f (by assumption)) fun j hj => hall j (by omega)) | exact ret_bool (wf_kid (k := k) (by omega) (by first | (rw [if_pos (by omega)]) | (rw [if_neg (by omega)])) (bn_t (by assumption)))),hE1⟩
set_option maxHeartbeats 4000000 in
set_option maxRecDepth 100000 in
theorem c_spec_l02Vars (w : World) (vars : Int) (_hvars : -9223372036854775808 ≤ vars ∧ vars ≤ 9223372036854775807)  :
  Calls Tryz.prog 163 #[.int .i64 vars] w (fun e w' => e = .returned (.bool (inB vars 0 412)) ∧ w' = w) := by
 refine calls_mk [.int .i64 vars] 5 Tryz.func163 rfl rfl (by simp) ?_
 have hE0 : w = w := rfl
 refine wp_seq ?_
 refine wp_plain _ [0] rfl ?_
 refine q_assign (.bool false) rfl zN ?_
 refine lw_nil ?_
 refine wp_seq ?_
 refine wp_plain _ [0,0,0] rfl ?_
 refine q_move (.int .i64 vars) rfl zN ?_
 refine lw_callq 63 [] [] [(.int .i64 vars),(.int .i64 ((0 :Nat):Int)),(.int .i64 ((412 :Nat):Int))] rfl rfl cf63 zN (.bool (decide (((0 :Nat):Int) ≤ vars) && decide (vars ≤ ((412 :Nat):Int)))) (fun wq => c_spec_l00In wq _ _ _ _hvars (by omega) (by omega)) ?_
 refine q_assign (.bool (decide (((0 :Nat):Int) ≤ vars) && decide (vars ≤ ((412 :Nat):Int)))) rfl zN ?_
 refine lw_nil ?_
 refine wp_ret ?_
 exact post_ret [2] rfl (.bool (decide (((0 :Nat):Int) ≤ vars) && decide (vars ≤ ((412 :Nat):Int)))) rfl ⟨rfl,hE0⟩
set_option maxHeartbeats 4000000 in
set_option maxRecDepth 100000 in
theorem c_spec_l02Expr (w : World) (dp : Nat) (vp : Value) (p : List Fn) (dex : Nat) (ve : Value) (ex : Ex) (vars : Int) (funcs : Int) (hp : RN [] (rP (rPr dp)) w.heap vp p) (hex : RN [] (rP (rEx dex)) w.heap ve ex) (_hvars : -9223372036854775808 ≤ vars ∧ vars ≤ 9223372036854775807) (_hfuncs : -9223372036854775808 ≤ funcs ∧ funcs ≤ 9223372036854775807) (hs : ex.size ≤ 1000000000) :
  Calls Tryz.prog 139 #[vp,ve,.int .i64 vars,.int .i64 funcs] w (fun e w' => e = .returned (.bool (exB p ex vars funcs)) ∧ Ext w w') := by
 refine calls_mk [vp,ve,.int .i64 vars,.int .i64 funcs] 37 Tryz.func139 rfl rfl (by simp) ?_
 have hE0 : Ext w w := Ext.refl w
 have hlp := lftE_pos (e := ex) (x := ((400 :Nat):Int)) (by omega)
 refine wp_seq ?_
 refine wp_plain _ [0] rfl ?_
 refine q_assign (.bool false) rfl zN ?_
 refine lw_nil ?_
 refine wp_seq ?_
 refine wp_plain _ [0,0,0,0,0,0,0,2,0,0,0,0,0,3,0,0,0,0,3,0,0,0,0,0,0,0,3,0,0] rfl ?_
 refine q_move (.int .i64 vars) rfl zN ?_
 refine lw_callq 163 [] [] [(.int .i64 vars)] rfl rfl cf163 zN (.bool (inB vars 0 412)) (fun wq => c_spec_l02Vars wq _ _hvars) ?_
 refine q_move (.bool (inB vars 0 412)) rfl zN ?_
 cases hb2 : (inB vars 0 412)
 ·
  refine lw_skip (e := 11) (c := false) rfl rfl rfl rfl ?_
  refine lw_skip (e := 11) (c := false) rfl rfl rfl rfl ?_
  refine lw_skip (e := 11) (c := false) rfl rfl rfl rfl ?_
  refine lw_skip (e := 11) (c := false) rfl rfl rfl rfl ?_
  refine lw_skip (e := 11) (c := false) rfl rfl rfl rfl ?_
  refine lw_skip (e := 11) (c := false) rfl rfl rfl rfl ?_
  refine lw_skip (e := 11) (c := false) rfl rfl rfl rfl ?_
  refine q_pick false (.bool false) rfl rfl zN ?_
  refine q_move (.bool false) rfl zN ?_
  refine lw_skip (e := 20) (c := false) rfl rfl rfl rfl ?_
  refine lw_skip (e := 20) (c := false) rfl rfl rfl rfl ?_
  refine lw_skip (e := 20) (c := false) rfl rfl rfl rfl ?_
  refine q_pick false (.bool false) rfl rfl zN ?_
  refine q_move (.bool false) rfl zN ?_
  refine lw_skip (e := 25) (c := false) rfl rfl rfl rfl ?_
  refine lw_skip (e := 25) (c := false) rfl rfl rfl rfl ?_
  refine lw_skip (e := 25) (c := false) rfl rfl rfl rfl ?_
  refine q_pick false (.bool false) rfl rfl zN ?_
  refine q_move (.bool false) rfl zN ?_
  refine lw_skip (e := 30) (c := false) rfl rfl rfl rfl ?_
  refine lw_skip (e := 30) (c := false) rfl rfl rfl rfl ?_
  refine lw_skip (e := 30) (c := false) rfl rfl rfl rfl ?_
  refine lw_skip (e := 30) (c := false) rfl rfl rfl rfl ?_
  refine lw_skip (e := 30) (c := false) rfl rfl rfl rfl ?_
  refine q_pick false (.bool false) rfl rfl zN ?_
  refine q_assign (.bool false) rfl zN ?_
  refine lw_nil ?_
  refine wp_ret ?_
  exact post_ret [8] rfl (.bool false) rfl ⟨(by first | exact ret_bool (exB_w (by assumption)) | exact ret_bool (exB_t ⟨inB_iff.1 (by assumption),inB_e (by assumption),by omega,by omega⟩) | exact ret_bool ((by assumption : wf p funcs ex vars = true).symm.trans (exB_t ⟨inB_iff.1 (by assumption),inB_e (by assumption),by omega,by omega⟩)) | exact ret_bool (exB_f fun hh => inB_f (by assumption) hh.1) | exact ret_bool (exB_f fun hh => inB_d (by assumption) hh.2.1) | exact ret_bool (exB_f (by omega))),hE0⟩
 ·
  refine q_move (.int .i64 funcs) rfl (zS (e := 11) rfl rfl rfl) ?_
  refine q_move vp rfl (zS (e := 11) rfl rfl rfl) ?_
  refine q_nilP (hp.isPtr) rfl (zS (e := 11) rfl rfl rfl) ?_
  obtain ⟨cs3,hr3,hl3⟩ := RN.at (good_rPr _) hp
  obtain ⟨ve3,rfl,hx3⟩ := RPr.of hr3
  have hln3 := hx3.lenle
  unfold maxLen at hln3
  refine q_fldL (p := vp) 0 fd32_0 rfl (hl3 _ (Chg.of_ext [] hE0)) (zS (e := 11) rfl rfl rfl) ?_
  refine q_load (p := (padd vp 0)) (.inr rfl) ve3 one30 rfl ((hl3 _ (Chg.of_ext [] hE0)).ld (i := 0) (by simp [exC,fnC])) (zS (e := 11) rfl rfl rfl) ?_
  refine q_len (v := ve3) u30 rfl hx3.isSl (zS (e := 11) rfl rfl rfl) ?_
  refine lw_callq 63 [] [] [(.int .i64 funcs),(.int .i64 ((0 :Nat):Int)),(.int .i64 ((p.length :Nat):Int))] rfl rfl cf63 (zS (e := 11) rfl rfl rfl) (.bool (decide (((0 :Nat):Int) ≤ funcs) && decide (funcs ≤ ((p.length :Nat):Int)))) (fun wq => c_spec_l00In wq _ _ _ _hfuncs (by omega) (by omega)) ?_
  refine q_pick true (.bool (decide (((0 :Nat):Int) ≤ funcs) && decide (funcs ≤ ((p.length :Nat):Int)))) rfl rfl zN ?_
  refine q_move (.bool (decide (((0 :Nat):Int) ≤ funcs) && decide (funcs ≤ ((p.length :Nat):Int)))) rfl zN ?_
  cases hb5 : (decide (((0 :Nat):Int) ≤ funcs) && decide (funcs ≤ ((p.length :Nat):Int)))
  ·
   refine lw_skip (e := 20) (c := false) rfl rfl rfl rfl ?_
   refine lw_skip (e := 20) (c := false) rfl rfl rfl rfl ?_
   refine lw_skip (e := 20) (c := false) rfl rfl rfl rfl ?_
   refine q_pick false (.bool false) rfl rfl zN ?_
   refine q_move (.bool false) rfl zN ?_
   refine lw_skip (e := 25) (c := false) rfl rfl rfl rfl ?_
   refine lw_skip (e := 25) (c := false) rfl rfl rfl rfl ?_
   refine lw_skip (e := 25) (c := false) rfl rfl rfl rfl ?_
   refine q_pick false (.bool false) rfl rfl zN ?_
   refine q_move (.bool false) rfl zN ?_
   refine lw_skip (e := 30) (c := false) rfl rfl rfl rfl ?_
   refine lw_skip (e := 30) (c := false) rfl rfl rfl rfl ?_
   refine lw_skip (e := 30) (c := false) rfl rfl rfl rfl ?_
   refine lw_skip (e := 30) (c := false) rfl rfl rfl rfl ?_
   refine lw_skip (e := 30) (c := false) rfl rfl rfl rfl ?_
   refine q_pick false (.bool false) rfl rfl zN ?_
   refine q_assign (.bool false) rfl zN ?_
   refine lw_nil ?_
   refine wp_ret ?_
   exact post_ret [8] rfl (.bool false) rfl ⟨(by first | exact ret_bool (exB_w (by assumption)) | exact ret_bool (exB_t ⟨inB_iff.1 (by assumption),inB_e (by assumption),by omega,by omega⟩) | exact ret_bool ((by assumption : wf p funcs ex vars = true).symm.trans (exB_t ⟨inB_iff.1 (by assumption),inB_e (by assumption),by omega,by omega⟩)) | exact ret_bool (exB_f fun hh => inB_f (by assumption) hh.1) | exact ret_bool (exB_f fun hh => inB_d (by assumption) hh.2.1) | exact ret_bool (exB_f (by omega))),hE0⟩
  ·
   refine q_move ve rfl (zS (e := 20) rfl rfl rfl) ?_
   refine lw_call 138 [] [] [ve,(.int .i64 ((400 :Nat):Int))] rfl rfl cf138 (zS (e := 20) rfl rfl rfl) (c_spec_l02Left _ dex ve (ex) _ (hex.ext (good_rP (good_rEx dex)) hE0) (by omega) (by omega) (by omega)) ?_
   rintro e6 w6 ⟨rfl,hX6⟩
   refine ⟨_,rfl,hX6,?_⟩
   have hzs6:=hX6.size
   have hE6:=hE0.trans hX6
   by_cases hc7 : ((0 :Nat):Int) ≤ lftE ex ((400 :Nat):Int)
   ·
    refine q_geq true rfl rfl (decide_eq_true hc7) (zS (e := 20) rfl rfl rfl) ?_
    refine q_pick true (.bool true) rfl rfl zN ?_
    refine q_move (.bool true) rfl zN ?_
    refine q_move ve rfl (zS (e := 25) rfl rfl rfl) ?_
    refine lw_call 164 [] [] [ve] rfl rfl cf164 (zS (e := 25) rfl rfl rfl) (c_spec_l02Depth _ dex ve (ex) (hex.ext (good_rP (good_rEx dex)) hE6) (by omega)) ?_
    rintro e8 w8 ⟨rfl,hX8⟩
    refine ⟨_,rfl,hX8,?_⟩
    have hzs8:=hX8.size
    have hE8:=hE6.trans hX8
    by_cases hc9 : ((ex.deep :Nat):Int) ≤ ((60 :Nat):Int)
    ·
     refine q_leq true rfl rfl (decide_eq_true hc9) (zS (e := 25) rfl rfl rfl) ?_
     refine q_pick true (.bool true) rfl rfl zN ?_
     refine q_move (.bool true) rfl zN ?_
     refine q_move vp rfl (zS (e := 30) rfl rfl rfl) ?_
     refine q_move ve rfl (zS (e := 30) rfl rfl rfl) ?_
     refine q_move (.int .i64 vars) rfl (zS (e := 30) rfl rfl rfl) ?_
     refine q_move (.int .i64 funcs) rfl (zS (e := 30) rfl rfl rfl) ?_
     refine lw_call 165 [] [] [vp,ve,(.int .i64 vars),(.int .i64 funcs)] rfl rfl cf165 (zS (e := 30) rfl rfl rfl) (c_spec_l02Tree _ dp vp (p) dex ve (ex) _ _ (hp.ext (good_rP (good_rPr dp)) hE8) (hex.ext (good_rP (good_rEx dex)) hE8) _hvars _hfuncs (by have h1 := inB_iff.1 (by assumption : inB vars 0 412 = true); omega) (by have h2 := inB_e (by assumption : (decide (((0 :Nat):Int) ≤ funcs) && decide (funcs ≤ ((p.length :Nat):Int))) = true); omega)) ?_
     rintro e10 w10 ⟨rfl,hX10⟩
     refine ⟨_,rfl,hX10,?_⟩
     have hzs10:=hX10.size
     have hE10:=hE8.trans hX10
     refine q_pick true (.bool (wf p funcs ex vars)) rfl rfl zN ?_
     refine q_assign (.bool (wf p funcs ex vars)) rfl zN ?_
     refine lw_nil ?_
     refine wp_ret ?_
     exact post_ret [8] rfl (.bool (wf p funcs ex vars)) rfl ⟨(by first | exact ret_bool (exB_w (by assumption)) | exact ret_bool (exB_t ⟨inB_iff.1 (by assumption),inB_e (by assumption),by omega,by omega⟩) | exact ret_bool ((by assumption : wf p funcs ex vars = true).symm.trans (exB_t ⟨inB_iff.1 (by assumption),inB_e (by assumption),by omega,by omega⟩)) | exact ret_bool (exB_f fun hh => inB_f (by assumption) hh.1) | exact ret_bool (exB_f fun hh => inB_d (by assumption) hh.2.1) | exact ret_bool (exB_f (by omega))),hE10⟩
    ·
     refine q_leq false rfl rfl (decide_eq_false hc9) (zS (e := 25) rfl rfl rfl) ?_
     refine q_pick true (.bool false) rfl rfl zN ?_
     refine q_move (.bool false) rfl zN ?_
     refine lw_skip (e := 30) (c := false) rfl rfl rfl rfl ?_
     refine lw_skip (e := 30) (c := false) rfl rfl rfl rfl ?_
     refine lw_skip (e := 30) (c := false) rfl rfl rfl rfl ?_
     refine lw_skip (e := 30) (c := false) rfl rfl rfl rfl ?_
     refine lw_skip (e := 30) (c := false) rfl rfl rfl rfl ?_
     refine q_pick false (.bool false) rfl rfl zN ?_
     refine q_assign (.bool false) rfl zN ?_
     refine lw_nil ?_
     refine wp_ret ?_
     exact post_ret [8] rfl (.bool false) rfl ⟨(by first | exact ret_bool (exB_w (by assumption)) | exact ret_bool (exB_t ⟨inB_iff.1 (by assumption),inB_e (by assumption),by omega,by omega⟩) | exact ret_bool ((by assumption : wf p funcs ex vars = true).symm.trans (exB_t ⟨inB_iff.1 (by assumption),inB_e (by assumption),by omega,by omega⟩)) | exact ret_bool (exB_f fun hh => inB_f (by assumption) hh.1) | exact ret_bool (exB_f fun hh => inB_d (by assumption) hh.2.1) | exact ret_bool (exB_f (by omega))),hE8⟩
   ·
    refine q_geq false rfl rfl (decide_eq_false hc7) (zS (e := 20) rfl rfl rfl) ?_
    refine q_pick true (.bool false) rfl rfl zN ?_
    refine q_move (.bool false) rfl zN ?_
    refine lw_skip (e := 25) (c := false) rfl rfl rfl rfl ?_
    refine lw_skip (e := 25) (c := false) rfl rfl rfl rfl ?_
    refine lw_skip (e := 25) (c := false) rfl rfl rfl rfl ?_
    refine q_pick false (.bool false) rfl rfl zN ?_
    refine q_move (.bool false) rfl zN ?_
    refine lw_skip (e := 30) (c := false) rfl rfl rfl rfl ?_
    refine lw_skip (e := 30) (c := false) rfl rfl rfl rfl ?_
    refine lw_skip (e := 30) (c := false) rfl rfl rfl rfl ?_
    refine lw_skip (e := 30) (c := false) rfl rfl rfl rfl ?_
    refine lw_skip (e := 30) (c := false) rfl rfl rfl rfl ?_
    refine q_pick false (.bool false) rfl rfl zN ?_
    refine q_assign (.bool false) rfl zN ?_
    refine lw_nil ?_
    refine wp_ret ?_
    exact post_ret [8] rfl (.bool false) rfl ⟨(by first | exact ret_bool (exB_w (by assumption)) | exact ret_bool (exB_t ⟨inB_iff.1 (by assumption),inB_e (by assumption),by omega,by omega⟩) | exact ret_bool ((by assumption : wf p funcs ex vars = true).symm.trans (exB_t ⟨inB_iff.1 (by assumption),inB_e (by assumption),by omega,by omega⟩)) | exact ret_bool (exB_f fun hh => inB_f (by assumption) hh.1) | exact ret_bool (exB_f fun hh => inB_d (by assumption) hh.2.1) | exact ret_bool (exB_f (by omega))),hE6⟩
theorem nm_len {s : ByteArray} (h : ¬ (1 ≤ s.size ∧ s.size ≤ 12)) : false = nmB s := by
  cases hh : nmB s with
  | false => rfl
  | true => unfold nmB at hh; simp only [Bool.and_eq_true, decide_eq_true_eq] at hh; exact absurd hh.1 h
set_option maxHeartbeats 4000000 in
set_option maxRecDepth 100000 in
theorem c_spec_IsName (w : World) (s : ByteArray)  (hl : s.size ≤ 1000000000) :
  Calls Tryz.prog 137 #[.string s] w (fun e w' => e = .returned (.bool (nmB s)) ∧ w' = w) := by
 refine calls_mk [.string s] 46 Tryz.func137 rfl rfl (by simp) ?_
 have hE0 : w = w := rfl
 refine wp_seq ?_
 refine wp_plain _ [0] rfl ?_
 refine q_assign (.bool false) rfl zN ?_
 refine lw_nil ?_
 refine wp_seq ?_
 refine wp_seq ?_
 refine wp_plain _ [0,0,0,0,0,0,0,0,0,0,0,0,0,0] rfl ?_
 refine q_move (.string s) rfl zN ?_
 refine q_lens (s := s) u9 rfl zN ?_
 refine lw_callq 63 [] [] [(.int .i64 ((s.size :Nat):Int)),(.int .i64 ((1 :Nat):Int)),(.int .i64 ((12 :Nat):Int))] rfl rfl cf63 zN (.bool (decide (((1 :Nat):Int) ≤ ((s.size :Nat):Int)) && decide (((s.size :Nat):Int) ≤ ((12 :Nat):Int)))) (fun wq => c_spec_l00In wq _ _ _ (by omega) (by omega) (by omega)) ?_
 refine q_not (!(decide (((1 :Nat):Int) ≤ ((s.size :Nat):Int)) && decide (((s.size :Nat):Int) ≤ ((12 :Nat):Int)))) rfl rfl zN ?_
 refine q_move (.bool (!(decide (((1 :Nat):Int) ≤ ((s.size :Nat):Int)) && decide (((s.size :Nat):Int) ≤ ((12 :Nat):Int))))) rfl zN ?_
 cases hb2 : (!(decide (((1 :Nat):Int) ≤ ((s.size :Nat):Int)) && decide (((s.size :Nat):Int) ≤ ((12 :Nat):Int))))
 ·
  refine q_move (.string s) rfl (zS (e := 8) rfl rfl rfl) ?_
  have hsz := inB_e (bn_f (by assumption) : (decide (((1 :Nat):Int) ≤ ((s.size :Nat):Int)) && decide (((s.size :Nat):Int) ≤ ((12 :Nat):Int))) = true)
  refine q_index (s := s) 0 u9 rfl rfl rfl (by first | omega | assumption | (simp; done) | (simp; omega)) (zS (e := 8) rfl rfl rfl) ?_
  by_cases hc3 : ((sAt s 0 :Nat):Int) < 97
  ·
   refine q_lss true rfl rfl (decide_eq_true hc3) (zS (e := 8) rfl rfl rfl) ?_
   refine q_pick false (.bool true) rfl rfl zN ?_
   refine q_move (.bool true) rfl zN ?_
   refine lw_skip (e := 13) (c := true) rfl rfl rfl rfl ?_
   refine lw_skip (e := 13) (c := true) rfl rfl rfl rfl ?_
   refine lw_skip (e := 13) (c := true) rfl rfl rfl rfl ?_
   refine q_pick true (.bool true) rfl rfl zN ?_
   refine lw_nil ?_
   refine c_cond_t rfl ?_
   refine wp_seq ?_
   refine wp_plain _ [0] rfl ?_
   refine q_assign (.bool false) rfl zN ?_
   refine lw_nil ?_
   refine wp_ret ?_
   refine t_ret ?_
   exact post_ret [2] rfl (.bool false) rfl ⟨(by first | exact ret_bool (nm_len (fun hh => inB_d (bn_t (by assumption)) ⟨by omega,by omega⟩)) | exact ret_bool (nm_bad (k := 0) (by omega) (by omega)) | exact ret_bool (nm_bad (k := k) (by omega) (by omega)) | exact ret_bool (nm_end hq (by omega) (by rw [decide_eq_true (show 1 ≤ s.size by omega),decide_eq_true (show s.size ≤ 12 by omega)]; rfl))),hE0⟩
  ·
   refine q_lss false rfl rfl (decide_eq_false hc3) (zS (e := 8) rfl rfl rfl) ?_
   refine q_pick false (.bool false) rfl rfl zN ?_
   refine q_move (.bool false) rfl zN ?_
   refine q_move (.string s) rfl (zS (e := 13) rfl rfl rfl) ?_
   refine q_index (s := s) 0 u9 rfl rfl rfl (by first | omega | assumption | (simp; done) | (simp; omega)) (zS (e := 13) rfl rfl rfl) ?_
   by_cases hc4 : 122 < ((sAt s 0 :Nat):Int)
   ·
    refine q_gtr true rfl rfl (decide_eq_true hc4) (zS (e := 13) rfl rfl rfl) ?_
    refine q_pick false (.bool true) rfl rfl zN ?_
    refine lw_nil ?_
    refine c_cond_t rfl ?_
    refine wp_seq ?_
    refine wp_plain _ [0] rfl ?_
    refine q_assign (.bool false) rfl zN ?_
    refine lw_nil ?_
    refine wp_ret ?_
    refine t_ret ?_
    exact post_ret [2] rfl (.bool false) rfl ⟨(by first | exact ret_bool (nm_len (fun hh => inB_d (bn_t (by assumption)) ⟨by omega,by omega⟩)) | exact ret_bool (nm_bad (k := 0) (by omega) (by omega)) | exact ret_bool (nm_bad (k := k) (by omega) (by omega)) | exact ret_bool (nm_end hq (by omega) (by rw [decide_eq_true (show 1 ≤ s.size by omega),decide_eq_true (show s.size ≤ 12 by omega)]; rfl))),hE0⟩
   ·
    refine q_gtr false rfl rfl (decide_eq_false hc4) (zS (e := 13) rfl rfl rfl) ?_
    refine q_pick false (.bool false) rfl rfl zN ?_
    refine lw_nil ?_
    refine c_cond_f rfl ?_
    refine wp_skip ?_
    refine wp_seq ?_
    refine wp_seq ?_
    refine wp_plain _ [0] rfl ?_
    refine q_assign (.int .i64 ((0 :Nat):Int)) rfl zN ?_
    refine lw_nil ?_
    refine wp_block ?_
    refine c_loop (S := Nat) (fun (k : Nat) => ([(3,(.int .i64 ((k :Nat):Int))),(0,(.string s))] : List (Nat × Value))) (fun (k : Nat) (W : World) => W = w ∧ k ≤ s.size ∧ (List.range k).all (chB s) = true) (fun (k : Nat) => s.size - k) 0 ⟨rfl,rfl,trivial⟩ ⟨hE0,(by first | omega | assumption | (simp; done) | (simp; omega)),(by rfl)⟩ ?_
    clear hE0
    rintro k ρ5 w5 ⟨hE5,hp5_0,hq⟩
    refine wp_seq ?_
    refine wp_seq ?_
    refine wp_plain _ [0,0,0,0] rfl ?_
    refine q_move (.int .i64 ((k :Nat):Int)) rfl zN ?_
    refine q_move (.string s) rfl zN ?_
    refine q_lens (s := s) u9 rfl zN ?_
    by_cases hc6 : ((k :Nat):Int) < ((s.size :Nat):Int)
    ·
     refine q_lss true rfl rfl (decide_eq_true hc6) zN ?_
     refine lw_nil ?_
     refine c_cond_t rfl ?_
     refine wp_skip ?_
     refine wp_seq ?_
     refine wp_block ?_
     refine wp_seq ?_
     refine wp_plain _ [0,0,0,0,0,0,0,0,0,0,0,0,0,0,0,0,0,0,0,0,0,0] rfl ?_
     refine q_move (.string s) rfl zN ?_
     refine q_move (.int .i64 ((k :Nat):Int)) rfl zN ?_
     refine q_index (s := s) k u9 rfl rfl rfl (by first | omega | assumption | (simp; done) | (simp; omega)) zN ?_
     by_cases hc7 : ((sAt s k :Nat):Int) < 97
     ·
      refine q_lss true rfl rfl (decide_eq_true hc7) zN ?_
      refine q_move (.bool true) rfl zN ?_
      refine lw_skip (e := 28) (c := true) rfl rfl rfl rfl ?_
      refine lw_skip (e := 28) (c := true) rfl rfl rfl rfl ?_
      refine lw_skip (e := 28) (c := true) rfl rfl rfl rfl ?_
      refine lw_skip (e := 28) (c := true) rfl rfl rfl rfl ?_
      refine q_pick true (.bool true) rfl rfl zN ?_
      refine q_move (.bool true) rfl zN ?_
      refine q_move (.string s) rfl (zS (e := 34) rfl rfl rfl) ?_
      refine q_move (.int .i64 ((k :Nat):Int)) rfl (zS (e := 34) rfl rfl rfl) ?_
      refine q_index (s := s) k u9 rfl rfl rfl (by first | omega | assumption | (simp; done) | (simp; omega)) (zS (e := 34) rfl rfl rfl) ?_
      by_cases hc8 : ((sAt s k :Nat):Int) < 48
      ·
       refine q_lss true rfl rfl (decide_eq_true hc8) (zS (e := 34) rfl rfl rfl) ?_
       refine q_move (.bool true) rfl (zS (e := 34) rfl rfl rfl) ?_
       refine lw_skip (e := 39) (c := true) rfl rfl rfl rfl ?_
       refine lw_skip (e := 39) (c := true) rfl rfl rfl rfl ?_
       refine lw_skip (e := 39) (c := true) rfl rfl rfl rfl ?_
       refine lw_skip (e := 39) (c := true) rfl rfl rfl rfl ?_
       refine q_pick true (.bool true) rfl rfl (zS (e := 34) rfl rfl rfl) ?_
       refine q_pick true (.bool true) rfl rfl zN ?_
       refine lw_nil ?_
       refine c_cond_t rfl ?_
       refine wp_seq ?_
       refine wp_plain _ [0] rfl ?_
       refine q_assign (.bool false) rfl zN ?_
       refine lw_nil ?_
       refine wp_ret ?_
       refine b_ret ?_
       refine t_ret ?_
       refine t_ret ?_
       refine b_ret ?_
       refine t_ret ?_
       exact post_ret [2] rfl (.bool false) rfl ⟨(by first | exact ret_bool (nm_len (fun hh => inB_d (bn_t (by assumption)) ⟨by omega,by omega⟩)) | exact ret_bool (nm_bad (k := 0) (by omega) (by omega)) | exact ret_bool (nm_bad (k := k) (by omega) (by omega)) | exact ret_bool (nm_end hq (by omega) (by rw [decide_eq_true (show 1 ≤ s.size by omega),decide_eq_true (show s.size ≤ 12 by omega)]; rfl))),hE5⟩
      ·
       refine q_lss false rfl rfl (decide_eq_false hc8) (zS (e := 34) rfl rfl rfl) ?_
       refine q_move (.bool false) rfl (zS (e := 34) rfl rfl rfl) ?_
       refine q_move (.string s) rfl (zS (e := 39) rfl rfl rfl) ?_
       refine q_move (.int .i64 ((k :Nat):Int)) rfl (zS (e := 39) rfl rfl rfl) ?_
       refine q_index (s := s) k u9 rfl rfl rfl (by first | omega | assumption | (simp; done) | (simp; omega)) (zS (e := 39) rfl rfl rfl) ?_
       by_cases hc9 : 57 < ((sAt s k :Nat):Int)
       ·
        refine q_gtr true rfl rfl (decide_eq_true hc9) (zS (e := 39) rfl rfl rfl) ?_
        refine q_pick false (.bool true) rfl rfl (zS (e := 34) rfl rfl rfl) ?_
        refine q_pick true (.bool true) rfl rfl zN ?_
        refine lw_nil ?_
        refine c_cond_t rfl ?_
        refine wp_seq ?_
        refine wp_plain _ [0] rfl ?_
        refine q_assign (.bool false) rfl zN ?_
        refine lw_nil ?_
        refine wp_ret ?_
        refine b_ret ?_
        refine t_ret ?_
        refine t_ret ?_
        refine b_ret ?_
        refine t_ret ?_
        exact post_ret [2] rfl (.bool false) rfl ⟨(by first | exact ret_bool (nm_len (fun hh => inB_d (bn_t (by assumption)) ⟨by omega,by omega⟩)) | exact ret_bool (nm_bad (k := 0) (by omega) (by omega)) | exact ret_bool (nm_bad (k := k) (by omega) (by omega)) | exact ret_bool (nm_end hq (by omega) (by rw [decide_eq_true (show 1 ≤ s.size by omega),decide_eq_true (show s.size ≤ 12 by omega)]; rfl))),hE5⟩
       ·
        refine q_gtr false rfl rfl (decide_eq_false hc9) (zS (e := 39) rfl rfl rfl) ?_
        refine q_pick false (.bool false) rfl rfl (zS (e := 34) rfl rfl rfl) ?_
        refine q_pick true (.bool false) rfl rfl zN ?_
        refine lw_nil ?_
        refine c_cond_f rfl ?_
        refine wp_skip ?_
        refine wp_plain _ [0,0,0] rfl ?_
        refine q_move (.int .i64 ((k :Nat):Int)) rfl zN ?_
        refine q_add ((k + 1 :Nat):Int) rfl rfl (w64n (by omega) (by first | omega | assumption | (simp; done) | (simp; omega))) zN ?_
        refine q_assign (.int .i64 ((k + 1 :Nat):Int)) rfl zN ?_
        refine lw_nil ?_
        exact ⟨(k + 1),_,rfl,⟨rfl,rfl,trivial⟩,⟨hE5,(by first | omega | assumption | (simp; done) | (simp; omega)),(by exact allR_succ hq (ch_ok (by (by_cases h0 : k = 0; (rw [h0]; left; omega); omega))))⟩,by first | omega | (dsimp only; omega)⟩
     ·
      refine q_lss false rfl rfl (decide_eq_false hc7) zN ?_
      refine q_move (.bool false) rfl zN ?_
      refine q_move (.string s) rfl (zS (e := 28) rfl rfl rfl) ?_
      refine q_move (.int .i64 ((k :Nat):Int)) rfl (zS (e := 28) rfl rfl rfl) ?_
      refine q_index (s := s) k u9 rfl rfl rfl (by first | omega | assumption | (simp; done) | (simp; omega)) (zS (e := 28) rfl rfl rfl) ?_
      by_cases hc10 : 122 < ((sAt s k :Nat):Int)
      ·
       refine q_gtr true rfl rfl (decide_eq_true hc10) (zS (e := 28) rfl rfl rfl) ?_
       refine q_pick false (.bool true) rfl rfl zN ?_
       refine q_move (.bool true) rfl zN ?_
       refine q_move (.string s) rfl (zS (e := 34) rfl rfl rfl) ?_
       refine q_move (.int .i64 ((k :Nat):Int)) rfl (zS (e := 34) rfl rfl rfl) ?_
       refine q_index (s := s) k u9 rfl rfl rfl (by first | omega | assumption | (simp; done) | (simp; omega)) (zS (e := 34) rfl rfl rfl) ?_
       by_cases hc11 : ((sAt s k :Nat):Int) < 48
       ·
        refine q_lss true rfl rfl (decide_eq_true hc11) (zS (e := 34) rfl rfl rfl) ?_
        refine q_move (.bool true) rfl (zS (e := 34) rfl rfl rfl) ?_
        refine lw_skip (e := 39) (c := true) rfl rfl rfl rfl ?_
        refine lw_skip (e := 39) (c := true) rfl rfl rfl rfl ?_
        refine lw_skip (e := 39) (c := true) rfl rfl rfl rfl ?_
        refine lw_skip (e := 39) (c := true) rfl rfl rfl rfl ?_
        refine q_pick true (.bool true) rfl rfl (zS (e := 34) rfl rfl rfl) ?_
        refine q_pick true (.bool true) rfl rfl zN ?_
        refine lw_nil ?_
        refine c_cond_t rfl ?_
        refine wp_seq ?_
        refine wp_plain _ [0] rfl ?_
        refine q_assign (.bool false) rfl zN ?_
        refine lw_nil ?_
        refine wp_ret ?_
        refine b_ret ?_
        refine t_ret ?_
        refine t_ret ?_
        refine b_ret ?_
        refine t_ret ?_
        exact post_ret [2] rfl (.bool false) rfl ⟨(by first | exact ret_bool (nm_len (fun hh => inB_d (bn_t (by assumption)) ⟨by omega,by omega⟩)) | exact ret_bool (nm_bad (k := 0) (by omega) (by omega)) | exact ret_bool (nm_bad (k := k) (by omega) (by omega)) | exact ret_bool (nm_end hq (by omega) (by rw [decide_eq_true (show 1 ≤ s.size by omega),decide_eq_true (show s.size ≤ 12 by omega)]; rfl))),hE5⟩
       ·
        refine q_lss false rfl rfl (decide_eq_false hc11) (zS (e := 34) rfl rfl rfl) ?_
        refine q_move (.bool false) rfl (zS (e := 34) rfl rfl rfl) ?_
        refine q_move (.string s) rfl (zS (e := 39) rfl rfl rfl) ?_
        refine q_move (.int .i64 ((k :Nat):Int)) rfl (zS (e := 39) rfl rfl rfl) ?_
        refine q_index (s := s) k u9 rfl rfl rfl (by first | omega | assumption | (simp; done) | (simp; omega)) (zS (e := 39) rfl rfl rfl) ?_
        by_cases hc12 : 57 < ((sAt s k :Nat):Int)
        ·
         refine q_gtr true rfl rfl (decide_eq_true hc12) (zS (e := 39) rfl rfl rfl) ?_
         refine q_pick false (.bool true) rfl rfl (zS (e := 34) rfl rfl rfl) ?_
         refine q_pick true (.bool true) rfl rfl zN ?_
         refine lw_nil ?_
         refine c_cond_t rfl ?_
         refine wp_seq ?_
         refine wp_plain _ [0] rfl ?_
         refine q_assign (.bool false) rfl zN ?_
         refine lw_nil ?_
         refine wp_ret ?_
         refine b_ret ?_
         refine t_ret ?_
         refine t_ret ?_
         refine b_ret ?_
         refine t_ret ?_
         exact post_ret [2] rfl (.bool false) rfl ⟨(by first | exact ret_bool (nm_len (fun hh => inB_d (bn_t (by assumption)) ⟨by omega,by omega⟩)) | exact ret_bool (nm_bad (k := 0) (by omega) (by omega)) | exact ret_bool (nm_bad (k := k) (by omega) (by omega)) | exact ret_bool (nm_end hq (by omega) (by rw [decide_eq_true (show 1 ≤ s.size by omega),decide_eq_true (show s.size ≤ 12 by omega)]; rfl))),hE5⟩
        ·
         refine q_gtr false rfl rfl (decide_eq_false hc12) (zS (e := 39) rfl rfl rfl) ?_
         refine q_pick false (.bool false) rfl rfl (zS (e := 34) rfl rfl rfl) ?_
         refine q_pick true (.bool false) rfl rfl zN ?_
         refine lw_nil ?_
         refine c_cond_f rfl ?_
         refine wp_skip ?_
         refine wp_plain _ [0,0,0] rfl ?_
         refine q_move (.int .i64 ((k :Nat):Int)) rfl zN ?_
         refine q_add ((k + 1 :Nat):Int) rfl rfl (w64n (by omega) (by first | omega | assumption | (simp; done) | (simp; omega))) zN ?_
         refine q_assign (.int .i64 ((k + 1 :Nat):Int)) rfl zN ?_
         refine lw_nil ?_
         exact ⟨(k + 1),_,rfl,⟨rfl,rfl,trivial⟩,⟨hE5,(by first | omega | assumption | (simp; done) | (simp; omega)),(by exact allR_succ hq (ch_ok (by (by_cases h0 : k = 0; (rw [h0]; left; omega); omega))))⟩,by first | omega | (dsimp only; omega)⟩
      ·
       refine q_gtr false rfl rfl (decide_eq_false hc10) (zS (e := 28) rfl rfl rfl) ?_
       refine q_pick false (.bool false) rfl rfl zN ?_
       refine q_move (.bool false) rfl zN ?_
       refine lw_skip (e := 34) (c := false) rfl rfl rfl rfl ?_
       refine lw_skip (e := 34) (c := false) rfl rfl rfl rfl ?_
       refine lw_skip (e := 34) (c := false) rfl rfl rfl rfl ?_
       refine lw_skip (e := 34) (c := false) rfl rfl rfl rfl ?_
       refine lw_skip (e := 34) (c := false) rfl rfl rfl rfl ?_
       refine lw_skipU (e := 39) rfl rfl rfl ?_
       refine lw_skipU (e := 39) rfl rfl rfl ?_
       refine lw_skipU (e := 39) rfl rfl rfl ?_
       refine lw_skipU (e := 39) rfl rfl rfl ?_
       refine lw_skip (e := 34) (c := false) rfl rfl rfl rfl ?_
       refine q_pick false (.bool false) rfl rfl zN ?_
       refine lw_nil ?_
       refine c_cond_f rfl ?_
       refine wp_skip ?_
       refine wp_plain _ [0,0,0] rfl ?_
       refine q_move (.int .i64 ((k :Nat):Int)) rfl zN ?_
       refine q_add ((k + 1 :Nat):Int) rfl rfl (w64n (by omega) (by first | omega | assumption | (simp; done) | (simp; omega))) zN ?_
       refine q_assign (.int .i64 ((k + 1 :Nat):Int)) rfl zN ?_
       refine lw_nil ?_
       exact ⟨(k + 1),_,rfl,⟨rfl,rfl,trivial⟩,⟨hE5,(by first | omega | assumption | (simp; done) | (simp; omega)),(by exact allR_succ hq (ch_ok (by (by_cases h0 : k = 0; (rw [h0]; left; omega); omega))))⟩,by first | omega | (dsimp only; omega)⟩
    ·
     refine q_lss false rfl rfl (decide_eq_false hc6) zN ?_
     refine lw_nil ?_
     refine c_cond_f rfl ?_
     refine wp_exit ?_
     refine t_exit ?_
     refine t_exit ?_
     refine c_exit_here ?_
     refine wp_seq ?_
     refine wp_plain _ [0] rfl ?_
     refine q_assign (.bool true) rfl zN ?_
     refine lw_nil ?_
     refine wp_ret ?_
     exact post_ret [2] rfl (.bool true) rfl ⟨(by first | exact ret_bool (nm_len (fun hh => inB_d (bn_t (by assumption)) ⟨by omega,by omega⟩)) | exact ret_bool (nm_bad (k := 0) (by omega) (by omega)) | exact ret_bool (nm_bad (k := k) (by omega) (by omega)) | exact ret_bool (nm_end hq (by omega) (by rw [decide_eq_true (show 1 ≤ s.size by omega),decide_eq_true (show s.size ≤ 12 by omega)]; rfl))),hE5⟩
 ·
  refine lw_skip (e := 8) (c := true) rfl rfl rfl rfl ?_
  refine lw_skip (e := 8) (c := true) rfl rfl rfl rfl ?_
  refine lw_skip (e := 8) (c := true) rfl rfl rfl rfl ?_
  refine q_pick true (.bool true) rfl rfl zN ?_
  refine q_move (.bool true) rfl zN ?_
  refine lw_skip (e := 13) (c := true) rfl rfl rfl rfl ?_
  refine lw_skip (e := 13) (c := true) rfl rfl rfl rfl ?_
  refine lw_skip (e := 13) (c := true) rfl rfl rfl rfl ?_
  refine q_pick true (.bool true) rfl rfl zN ?_
  refine lw_nil ?_
  refine c_cond_t rfl ?_
  refine wp_seq ?_
  refine wp_plain _ [0] rfl ?_
  refine q_assign (.bool false) rfl zN ?_
  refine lw_nil ?_
  refine wp_ret ?_
  refine t_ret ?_
  exact post_ret [2] rfl (.bool false) rfl ⟨(by first | exact ret_bool (nm_len (fun hh => inB_d (bn_t (by assumption)) ⟨by omega,by omega⟩)) | exact ret_bool (nm_bad (k := 0) (by omega) (by omega)) | exact ret_bool (nm_bad (k := k) (by omega) (by omega)) | exact ret_bool (nm_end hq (by omega) (by rw [decide_eq_true (show 1 ≤ s.size by omega),decide_eq_true (show s.size ≤ 12 by omega)]; rfl))),hE0⟩
end Go.Proofs.YtnofbmdpabcjaaaGreat
namespace Go.Proofs.YtnofbmdpabcjaaaGreat
open Go Go.RowKit
set_option linter.unusedVariables false
set_option linter.unusedSimpArgs false
attribute [local irreducible] LW
theorem any_step {α : Type} {l : List α} {f : α → Bool} {k : Nat} (d : α) (hk : k < l.length) (h : (l.take k).any f = false) (h2 : f (l.getD k d) = false) : (l.take (k + 1)).any f = false := by
  rw [List.take_succ_eq_append_getElem hk, List.any_append, h]
  have : l.getD k d = l[k] := by simp [hk]
  rw [this] at h2
  simp [h2]
theorem any_hit {α : Type} {l : List α} {f : α → Bool} {k n : Nat} (d : α) (hk : k < n) (hn : n ≤ l.length) (h : f (l.getD k d) = true) : (l.take n).any f = true := by
  rw [List.any_eq_true]
  have hkl : k < l.length := by omega
  have e : l.getD k d = l[k] := by simp [hkl]
  refine ⟨l[k], ?_, by rw [← e]; exact h⟩
  rw [List.mem_take_iff_getElem]
  exact ⟨k, by omega, rfl⟩
theorem left_ok {p : List Fn} {a j : Nat} {x : Int} (hx : x = lfts ((p.getD a Fn.zero).outs.take j) ((400 : Nat) : Int)) (h : 0 ≤ x) (hj : (p.getD a Fn.zero).outs.length ≤ j) : Ex.sizes (p.getD a Fn.zero).outs ≤ 400 := by
  rw [List.take_of_length_le hj] at hx
  rcases lfts_spec (p.getD a Fn.zero).outs ((400 : Nat) : Int) (Int.natCast_nonneg _) with h2 | h2
  · have := h2.2; omega
  · have := h2.1; omega
theorem left_neg {p : List Fn} {a j : Nat} (h : lfts ((p.getD a Fn.zero).outs.take j) ((400 : Nat) : Int) < 0) : fnB p a = false := fn_6 (by
  have h1 := lfts_stop h
  rcases lfts_spec (p.getD a Fn.zero).outs ((400 : Nat) : Int) (Int.natCast_nonneg _) with h2 | h2
  · have := h2.1; have := h2.2; omega
  · have := h2.2; omega)
set_option maxHeartbeats 4000000 in
set_option maxRecDepth 100000 in
theorem c_spec_l02Func (w : World) (dp : Nat) (vp : Value) (p : List Fn) (a : Nat) (hp : RN [] (rP (rPr dp)) w.heap vp p) (ha : a < p.length) (hpl : p.length ≤ 1000000) (hz : SzP p) :
  Calls Tryz.prog 113 #[vp,.int .i64 ((a :Nat):Int)] w (fun e w' => e = .returned (.bool (fnB p a)) ∧ Ext w w') := by
 refine calls_mk [vp,.int .i64 ((a :Nat):Int)] 91 Tryz.func113 rfl rfl (by simp) ?_
 have hE0 : Ext w w := Ext.refl w
 have hza := hz a ha
 refine wp_seq ?_
 refine wp_plain _ [0] rfl ?_
 refine q_assign (.bool false) rfl zN ?_
 refine lw_nil ?_
 refine wp_seq ?_
 refine wp_plain _ [0,0,0,2,0,0,0] rfl ?_
 refine q_move vp rfl zN ?_
 refine q_nilP (hp.isPtr) rfl zN ?_
 obtain ⟨cs1,hr1,hl1⟩ := RN.at (good_rPr _) hp
 obtain ⟨ve1,rfl,hx1⟩ := RPr.of hr1
 have hln1 := hx1.lenle
 unfold maxLen at hln1
 refine q_fldL (p := vp) 0 fd32_0 rfl (hl1 _ (Chg.of_ext [] hE0)) zN ?_
 refine q_load (p := (padd vp 0)) (.inr rfl) ve1 one30 rfl ((hl1 _ (Chg.of_ext [] hE0)).ld (i := 0) (by simp [exC,fnC])) zN ?_
 refine q_move (.int .i64 ((a :Nat):Int)) rfl zN ?_
 refine q_idx (v := ve1) a u30 tiS80 rfl rfl hx1.isSl rfl (by first | omega | assumption | (simp; done) | (simp; omega)) zN ?_
 refine q_assign (eptr ve1 a 3) rfl zN ?_
 refine lw_nil ?_
 refine wp_seq ?_
 refine wp_seq ?_
 refine wp_plain _ [0,0,0,2,0,0,0,0,0,0,2,0,0,0,0,0,0,0,2,0,0,0,0] rfl ?_
 refine q_move (eptr ve1 a 3) rfl zN ?_
 refine q_nilP (RN.isPtr (RN.ptr (good_rFn dp) (by decide) Fn.zero hx1 (by first | omega | assumption | (simp; done) | (simp; omega)))) rfl zN ?_
 obtain ⟨cs2,hr2,hl2⟩ := hx1.get (good_rFn dp) Fn.zero (k := a) (by first | omega | assumption | (simp; done) | (simp; omega))
 obtain ⟨ve2,rfl,hx2⟩ := RF.of hr2
 have hln2 := hx2.rn.lenle
 unfold maxLen at hln2
 refine q_fldL (p := eptr ve1 a 3) 0 fd80_0 rfl (hl2 _ (Chg.of_ext [] hE0)) zN ?_
 refine q_load (p := (padd (eptr ve1 a 3) 0)) (.inr rfl) (.string ((p.getD a Fn.zero).name)) one9 rfl ((hl2 _ (Chg.of_ext [] hE0)).ld (i := 0) (by simp [exC,fnC])) zN ?_
 refine lw_callq 137 [] [] [(.string ((p.getD a Fn.zero).name))] rfl rfl cf137 zN (.bool (nmB ((p.getD a Fn.zero).name))) (fun wq => c_spec_IsName wq ((p.getD a Fn.zero).name) (by omega)) ?_
 refine q_not (!(nmB ((p.getD a Fn.zero).name))) rfl rfl zN ?_
 refine q_move (.bool (!(nmB ((p.getD a Fn.zero).name)))) rfl zN ?_
 cases hb4 : (!(nmB ((p.getD a Fn.zero).name)))
 ·
  refine q_move (eptr ve1 a 3) rfl (zS (e := 21) rfl rfl rfl) ?_
  refine q_nilP (RN.isPtr (RN.ptr (good_rFn dp) (by decide) Fn.zero hx1 (by first | omega | assumption | (simp; done) | (simp; omega)))) rfl (zS (e := 21) rfl rfl rfl) ?_
  refine q_fldL (p := eptr ve1 a 3) 1 fd80_1 rfl (hl2 _ (Chg.of_ext [] hE0)) (zS (e := 21) rfl rfl rfl) ?_
  refine q_load (p := (padd (eptr ve1 a 3) 1)) (.inr rfl) (.int .i64 ((p.getD a Fn.zero).params)) one2 rfl ((hl2 _ (Chg.of_ext [] hE0)).ld (i := 1) (by simp [exC,fnC])) (zS (e := 21) rfl rfl rfl) ?_
  refine lw_callq 63 [] [] [(.int .i64 ((p.getD a Fn.zero).params)),(.int .i64 ((0 :Nat):Int)),(.int .i64 ((12 :Nat):Int))] rfl rfl cf63 (zS (e := 21) rfl rfl rfl) (.bool (decide (((0 :Nat):Int) ≤ ((p.getD a Fn.zero).params)) && decide (((p.getD a Fn.zero).params) ≤ ((12 :Nat):Int)))) (fun wq => c_spec_l00In wq _ _ _ hx2.rng (by omega) (by omega)) ?_
  refine q_not (!(decide (((0 :Nat):Int) ≤ ((p.getD a Fn.zero).params)) && decide (((p.getD a Fn.zero).params) ≤ ((12 :Nat):Int)))) rfl rfl (zS (e := 21) rfl rfl rfl) ?_
  refine q_pick false (.bool (!(decide (((0 :Nat):Int) ≤ ((p.getD a Fn.zero).params)) && decide (((p.getD a Fn.zero).params) ≤ ((12 :Nat):Int))))) rfl rfl zN ?_
  refine q_move (.bool (!(decide (((0 :Nat):Int) ≤ ((p.getD a Fn.zero).params)) && decide (((p.getD a Fn.zero).params) ≤ ((12 :Nat):Int))))) rfl zN ?_
  cases hb6 : (!(decide (((0 :Nat):Int) ≤ ((p.getD a Fn.zero).params)) && decide (((p.getD a Fn.zero).params) ≤ ((12 :Nat):Int))))
  ·
   refine q_move (eptr ve1 a 3) rfl (zS (e := 29) rfl rfl rfl) ?_
   refine q_nilP (RN.isPtr (RN.ptr (good_rFn dp) (by decide) Fn.zero hx1 (by first | omega | assumption | (simp; done) | (simp; omega)))) rfl (zS (e := 29) rfl rfl rfl) ?_
   refine q_fldL (p := eptr ve1 a 3) 2 fd80_2 rfl (hl2 _ (Chg.of_ext [] hE0)) (zS (e := 29) rfl rfl rfl) ?_
   refine q_load (p := (padd (eptr ve1 a 3) 2)) (.inr rfl) ve2 one78 rfl ((hl2 _ (Chg.of_ext [] hE0)).ld (i := 2) (by simp [exC,fnC])) (zS (e := 29) rfl rfl rfl) ?_
   refine q_len (v := ve2) u78 rfl hx2.rn.isSl (zS (e := 29) rfl rfl rfl) ?_
   refine lw_callq 63 [] [] [(.int .i64 ((((p.getD a Fn.zero).outs).length :Nat):Int)),(.int .i64 ((1 :Nat):Int)),(.int .i64 ((12 :Nat):Int))] rfl rfl cf63 (zS (e := 29) rfl rfl rfl) (.bool (decide (((1 :Nat):Int) ≤ ((((p.getD a Fn.zero).outs).length :Nat):Int)) && decide (((((p.getD a Fn.zero).outs).length :Nat):Int) ≤ ((12 :Nat):Int)))) (fun wq => c_spec_l00In wq _ _ _ (by omega) (by omega) (by omega)) ?_
   refine q_not (!(decide (((1 :Nat):Int) ≤ ((((p.getD a Fn.zero).outs).length :Nat):Int)) && decide (((((p.getD a Fn.zero).outs).length :Nat):Int) ≤ ((12 :Nat):Int)))) rfl rfl (zS (e := 29) rfl rfl rfl) ?_
   refine q_pick false (.bool (!(decide (((1 :Nat):Int) ≤ ((((p.getD a Fn.zero).outs).length :Nat):Int)) && decide (((((p.getD a Fn.zero).outs).length :Nat):Int) ≤ ((12 :Nat):Int))))) rfl rfl zN ?_
   refine lw_nil ?_
   cases hb8 : (!(decide (((1 :Nat):Int) ≤ ((((p.getD a Fn.zero).outs).length :Nat):Int)) && decide (((((p.getD a Fn.zero).outs).length :Nat):Int) ≤ ((12 :Nat):Int))))
   ·
    refine c_cond_f (by first | rfl | (show Value.bool _ = _; rw [hb8])) ?_
    refine wp_skip ?_
    refine wp_seq ?_
    refine wp_seq ?_
    refine wp_plain _ [0] rfl ?_
    refine q_assign (.int .i64 ((0 :Nat):Int)) rfl zN ?_
    refine lw_nil ?_
    refine wp_block ?_
    refine c_loop (S := Nat) (fun (k : Nat) => ([(6,(.int .i64 ((k :Nat):Int))),(0,vp),(1,(.int .i64 ((a :Nat):Int))),(5,(eptr ve1 a 3))] : List (Nat × Value))) (fun (k : Nat) (W : World) => Ext w W ∧ k ≤ a ∧ (p.take k).any (fun g => strE g.name (p.getD a Fn.zero).name) = false) (fun (k : Nat) => a - k) 0 ⟨rfl,rfl,rfl,rfl,trivial⟩ ⟨hE0,(by first | omega | assumption | (simp; done) | (simp; omega)),(by rfl)⟩ ?_
    clear hE0 hln1 hln2
    rintro k ρ9 w9 ⟨hE9,hp9_0,hq⟩
    have hzs9 : w.heap.size ≤ w9.heap.size := hE9.size
    refine wp_seq ?_
    refine wp_seq ?_
    refine wp_plain _ [0,0,0] rfl ?_
    refine q_move (.int .i64 ((k :Nat):Int)) rfl zN ?_
    refine q_move (.int .i64 ((a :Nat):Int)) rfl zN ?_
    by_cases hc10 : ((k :Nat):Int) < ((a :Nat):Int)
    ·
     refine q_lss true rfl rfl (decide_eq_true hc10) zN ?_
     refine lw_nil ?_
     refine c_cond_t rfl ?_
     refine wp_skip ?_
     refine wp_seq ?_
     refine wp_block ?_
     refine wp_seq ?_
     refine wp_draw _ [0,0,0,1,0,0,0,1,0,0,0,1,0] mixed (by kernel_rfl) ?_
     refine q_move vp rfl zN ?_
     refine q_nilP (hp.isPtr) rfl zN ?_
     refine q_fldL (p := vp) 0 fd32_0 rfl (hl1 _ (Chg.of_ext [] hE9.drew)) zN ?_
     refine q_load (p := (padd vp 0)) (.inl rfl) ve1 one30 rfl ((hl1 _ (Chg.of_ext [] hE9.drew)).ld (i := 0) (by simp [exC,fnC])) zN ?_
     refine q_move (.int .i64 ((k :Nat):Int)) rfl zN ?_
     refine q_idx (v := ve1) k u30 tiS80 rfl rfl hx1.isSl rfl (by first | omega | assumption | (simp; done) | (simp; omega)) zN ?_
     obtain ⟨cs11,hr11,hl11⟩ := hx1.get (good_rFn dp) Fn.zero (k := k) (by first | omega | assumption | (simp; done) | (simp; omega))
     obtain ⟨ve11,rfl,hx11⟩ := RF.of hr11
     have hln11 := hx11.rn.lenle
     unfold maxLen at hln11
     refine q_fldL (p := eptr ve1 k 3) 0 fd80_0 rfl (hl11 _ (Chg.of_ext [] hE9.drew)) zN ?_
     refine q_load (p := (padd (eptr ve1 k 3) 0)) (.inl rfl) (.string ((p.getD k Fn.zero).name)) one9 rfl ((hl11 _ (Chg.of_ext [] hE9.drew)).ld (i := 0) (by simp [exC,fnC])) zN ?_
     refine q_move (eptr ve1 a 3) rfl zN ?_
     refine q_nilP (RN.isPtr (RN.ptr (good_rFn dp) (by decide) Fn.zero hx1 (by first | omega | assumption | (simp; done) | (simp; omega)))) rfl zN ?_
     refine q_fldL (p := eptr ve1 a 3) 0 fd80_0 rfl (hl2 _ (Chg.of_ext [] hE9.drew)) zN ?_
     refine q_load (p := (padd (eptr ve1 a 3) 0)) (.inl rfl) (.string ((p.getD a Fn.zero).name)) one9 rfl ((hl2 _ (Chg.of_ext [] hE9.drew)).ld (i := 0) (by simp [exC,fnC])) zN ?_
     cases hc12 : strE ((p.getD k Fn.zero).name) ((p.getD a Fn.zero).name)
     ·
      refine q_eqls false u9 rfl rfl hc12 zN ?_
      refine lw_nil ?_
      refine c_cond_f rfl ?_
      refine wp_skip ?_
      refine wp_plain _ [0,0,0] rfl ?_
      refine q_move (.int .i64 ((k :Nat):Int)) rfl zN ?_
      refine q_add ((k + 1 :Nat):Int) rfl rfl (w64n (by omega) (by first | omega | assumption | (simp; done) | (simp; omega))) zN ?_
      refine q_assign (.int .i64 ((k + 1 :Nat):Int)) rfl zN ?_
      refine lw_nil ?_
      exact ⟨(k + 1),_,rfl,⟨rfl,rfl,rfl,rfl,trivial⟩,⟨hE9.drew,(by first | omega | assumption | (simp; done) | (simp; omega)),(by exact any_step Fn.zero (by omega) hq (by assumption))⟩,by first | omega | (dsimp only; omega)⟩
     ·
      refine q_eqls true u9 rfl rfl hc12 zN ?_
      refine lw_nil ?_
      refine c_cond_t rfl ?_
      refine wp_seq ?_
      refine wp_plain _ [0] rfl ?_
      refine q_assign (.bool false) rfl zN ?_
      refine lw_nil ?_
      refine wp_ret ?_
      refine b_ret ?_
      refine t_ret ?_
      refine t_ret ?_
      refine b_ret ?_
      refine t_ret ?_
      exact post_ret [4] rfl (.bool false) rfl ⟨(by first | exact ret_bool (fn_1 (bn_t (by assumption))).symm | exact ret_bool (fn_3 (bn_t (by assumption))).symm | exact ret_bool (fn_4 (bn_t (by assumption))).symm | exact ret_bool (fn_2 (any_hit (k := k) Fn.zero (by omega) (by omega) (by assumption))).symm | exact ret_bool (left_neg (j := j + 1) (by rw [hnx,← hx]; omega)).symm | exact ret_bool (fn_5 (j := j) (by omega) (bn_t (by assumption))).symm | exact ret_bool (fn_ok (bn_f (by assumption)) hqa (bn_f (by assumption)) (bn_f (by assumption)) hqe (by omega) (left_ok hx (by omega) (by omega))).symm),hE9.drew⟩
    ·
     refine q_lss false rfl rfl (decide_eq_false hc10) zN ?_
     refine lw_nil ?_
     refine c_cond_f rfl ?_
     refine wp_exit ?_
     refine t_exit ?_
     refine t_exit ?_
     refine c_exit_here ?_
     refine wp_seq ?_
     refine wp_plain _ [0] rfl ?_
     have hka : k = a := by omega
     rw [hka] at hq
     have hqa := hq
     refine q_assign (.int .i64 ((400 :Nat):Int)) rfl zN ?_
     refine lw_nil ?_
     refine wp_seq ?_
     refine wp_seq ?_
     refine wp_plain _ [0] rfl ?_
     refine q_assign (.int .i64 ((0 :Nat):Int)) rfl zN ?_
     refine lw_nil ?_
     refine wp_block ?_
     refine c_loop (S := Nat × Int) (fun (⟨j,x⟩ : Nat × Int) => ([(7,(.int .i64 x)),(8,(.int .i64 ((j :Nat):Int))),(0,vp),(1,(.int .i64 ((a :Nat):Int))),(5,(eptr ve1 a 3))] : List (Nat × Value))) (fun (⟨j,x⟩ : Nat × Int) (W : World) => Ext w W ∧ j ≤ (p.getD a Fn.zero).outs.length ∧ x = lfts ((p.getD a Fn.zero).outs.take j) ((400 :Nat):Int) ∧ (0 ≤ x ∧ x ≤ 400) ∧ (List.range j).all (fun j => exB p ((p.getD a Fn.zero).outs.getD j Ex.zero) (p.getD a Fn.zero).params ((a :Nat):Int)) = true) (fun (⟨j,x⟩ : Nat × Int) => (p.getD a Fn.zero).outs.length - j) (0,((400 :Nat):Int)) ⟨rfl,rfl,rfl,rfl,rfl,trivial⟩ ⟨hE9,(by first | omega | assumption | (simp; done) | (simp; omega)),(by rw [List.take_zero,lfts]),(by omega),(by rfl)⟩ ?_
     clear hE9 hzs9
     rintro ⟨j,x⟩ ρ13 w13 ⟨hE13,hp13_0,hx,hp13_2,hqe⟩
     have hzs13 : w.heap.size ≤ w13.heap.size := hE13.size
     refine wp_seq ?_
     refine wp_seq ?_
     refine wp_plain _ [0,0,0,0,2,0,0] rfl ?_
     refine q_move (.int .i64 ((j :Nat):Int)) rfl zN ?_
     refine q_move (eptr ve1 a 3) rfl zN ?_
     refine q_nilP (RN.isPtr (RN.ptr (good_rFn dp) (by decide) Fn.zero hx1 (by first | omega | assumption | (simp; done) | (simp; omega)))) rfl zN ?_
     refine q_fldL (p := eptr ve1 a 3) 2 fd80_2 rfl (hl2 _ (Chg.of_ext [] hE13)) zN ?_
     refine q_load (p := (padd (eptr ve1 a 3) 2)) (.inr rfl) ve2 one78 rfl ((hl2 _ (Chg.of_ext [] hE13)).ld (i := 2) (by simp [exC,fnC])) zN ?_
     refine q_len (v := ve2) u78 rfl hx2.rn.isSl zN ?_
     by_cases hc14 : ((j :Nat):Int) < ((((p.getD a Fn.zero).outs).length :Nat):Int)
     ·
      refine q_lss true rfl rfl (decide_eq_true hc14) zN ?_
      refine lw_nil ?_
      refine c_cond_t rfl ?_
      refine wp_skip ?_
      refine wp_seq ?_
      refine wp_block ?_
      refine wp_seq ?_
      refine wp_plain _ [0,0,0,2,0,0,0,3,0] rfl ?_
      have hst := sizes_step (l := (p.getD a Fn.zero).outs) (k := j) (by omega)
      have hle := sizes_take (p.getD a Fn.zero).outs (j + 1)
      have hnx := lfts_step (l := (p.getD a Fn.zero).outs) (k := j) (x := ((400 :Nat):Int)) (by omega) (by omega)
      have hnr := lftE_rng (e := (p.getD a Fn.zero).outs.getD j Ex.zero) (x := x) (by omega)
      refine q_move (eptr ve1 a 3) rfl zN ?_
      refine q_nilP (RN.isPtr (RN.ptr (good_rFn dp) (by decide) Fn.zero hx1 (by first | omega | assumption | (simp; done) | (simp; omega)))) rfl zN ?_
      refine q_fldL (p := eptr ve1 a 3) 2 fd80_2 rfl (hl2 _ (Chg.of_ext [] hE13)) zN ?_
      refine q_load (p := (padd (eptr ve1 a 3) 2)) (.inr rfl) ve2 one78 rfl ((hl2 _ (Chg.of_ext [] hE13)).ld (i := 2) (by simp [exC,fnC])) zN ?_
      refine q_move (.int .i64 ((j :Nat):Int)) rfl zN ?_
      refine q_idx (v := ve2) j u78 tiS94 rfl rfl hx2.rn.isSl rfl (by first | omega | assumption | (simp; done) | (simp; omega)) zN ?_
      refine q_move (.int .i64 x) rfl zN ?_
      refine lw_call 138 [] [] [(eptr ve2 j 5),(.int .i64 x)] rfl rfl cf138 zN (c_spec_l02Left _ dp (eptr ve2 j 5) (((p.getD a Fn.zero).outs).getD j Ex.zero) _ (RN.ptr (good_rEx dp) (by decide) Ex.zero (hx2.rn.ext (good_rdS (good_rEx dp)) hE13) (by first | omega | assumption | (simp; done) | (simp; omega))) (by omega) (by omega) (by omega)) ?_
      rintro e15 w15 ⟨rfl,hX15⟩
      refine ⟨_,rfl,hX15,?_⟩
      have hzs15:=hX15.size
      have hE15:=hE13.trans hX15
      refine q_assign (.int .i64 (lftE (((p.getD a Fn.zero).outs).getD j Ex.zero) x)) rfl zN ?_
      refine lw_nil ?_
      refine wp_seq ?_
      refine wp_draw _ [0,0,0,0,0,0,0,1,0,0,0,0,0,1,0,3,0,0] mixed (by kernel_rfl) ?_
      refine q_move (.int .i64 (lftE (((p.getD a Fn.zero).outs).getD j Ex.zero) x)) rfl zN ?_
      by_cases hc16 : lftE (((p.getD a Fn.zero).outs).getD j Ex.zero) x < ((0 :Nat):Int)
      ·
       refine q_lss true rfl rfl (decide_eq_true hc16) zN ?_
       refine q_move (.bool true) rfl zN ?_
       refine lw_skip (e := 75) (c := true) rfl rfl rfl rfl ?_
       refine lw_skip (e := 75) (c := true) rfl rfl rfl rfl ?_
       refine lw_skip (e := 75) (c := true) rfl rfl rfl rfl ?_
       refine lw_skip (e := 75) (c := true) rfl rfl rfl rfl ?_
       refine lw_skip (e := 75) (c := true) rfl rfl rfl rfl ?_
       refine lw_skip (e := 75) (c := true) rfl rfl rfl rfl ?_
       refine lw_skip (e := 75) (c := true) rfl rfl rfl rfl ?_
       refine lw_skip (e := 75) (c := true) rfl rfl rfl rfl ?_
       refine lw_skip (e := 75) (c := true) rfl rfl rfl rfl ?_
       refine lw_skip (e := 75) (c := true) rfl rfl rfl rfl ?_
       refine lw_skip (e := 75) (c := true) rfl rfl rfl rfl ?_
       refine lw_skip (e := 75) (c := true) rfl rfl rfl rfl ?_
       refine lw_skip (e := 75) (c := true) rfl rfl rfl rfl ?_
       refine lw_skip (e := 75) (c := true) rfl rfl rfl rfl ?_
       refine q_pick true (.bool true) rfl rfl zN ?_
       refine lw_nil ?_
       refine c_cond_t rfl ?_
       refine wp_seq ?_
       refine wp_plain _ [0] rfl ?_
       refine q_assign (.bool false) rfl zN ?_
       refine lw_nil ?_
       refine wp_ret ?_
       refine b_ret ?_
       refine t_ret ?_
       refine t_ret ?_
       refine b_ret ?_
       refine t_ret ?_
       exact post_ret [4] rfl (.bool false) rfl ⟨(by first | exact ret_bool (fn_1 (bn_t (by assumption))).symm | exact ret_bool (fn_3 (bn_t (by assumption))).symm | exact ret_bool (fn_4 (bn_t (by assumption))).symm | exact ret_bool (fn_2 (any_hit (k := k) Fn.zero (by omega) (by omega) (by assumption))).symm | exact ret_bool (left_neg (j := j + 1) (by rw [hnx,← hx]; omega)).symm | exact ret_bool (fn_5 (j := j) (by omega) (bn_t (by assumption))).symm | exact ret_bool (fn_ok (bn_f (by assumption)) hqa (bn_f (by assumption)) (bn_f (by assumption)) hqe (by omega) (left_ok hx (by omega) (by omega))).symm),hE15.drew⟩
      ·
       refine q_lss false rfl rfl (decide_eq_false hc16) zN ?_
       refine q_move (.bool false) rfl zN ?_
       refine q_move vp rfl (zS (e := 75) rfl rfl rfl) ?_
       refine q_move (eptr ve1 a 3) rfl (zS (e := 75) rfl rfl rfl) ?_
       refine q_nilP (RN.isPtr (RN.ptr (good_rFn dp) (by decide) Fn.zero hx1 (by first | omega | assumption | (simp; done) | (simp; omega)))) rfl (zS (e := 75) rfl rfl rfl) ?_
       refine q_fldL (p := eptr ve1 a 3) 2 fd80_2 rfl (hl2 _ (Chg.of_ext [] hE15.drew)) (zS (e := 75) rfl rfl rfl) ?_
       refine q_load (p := (padd (eptr ve1 a 3) 2)) (.inl rfl) ve2 one78 rfl ((hl2 _ (Chg.of_ext [] hE15.drew)).ld (i := 2) (by simp [exC,fnC])) (zS (e := 75) rfl rfl rfl) ?_
       refine q_move (.int .i64 ((j :Nat):Int)) rfl (zS (e := 75) rfl rfl rfl) ?_
       refine q_idx (v := ve2) j u78 tiS94 rfl rfl hx2.rn.isSl rfl (by first | omega | assumption | (simp; done) | (simp; omega)) (zS (e := 75) rfl rfl rfl) ?_
       refine q_move (eptr ve1 a 3) rfl (zS (e := 75) rfl rfl rfl) ?_
       refine q_nilP (RN.isPtr (RN.ptr (good_rFn dp) (by decide) Fn.zero hx1 (by first | omega | assumption | (simp; done) | (simp; omega)))) rfl (zS (e := 75) rfl rfl rfl) ?_
       refine q_fldL (p := eptr ve1 a 3) 1 fd80_1 rfl (hl2 _ (Chg.of_ext [] hE15.drew)) (zS (e := 75) rfl rfl rfl) ?_
       refine q_load (p := (padd (eptr ve1 a 3) 1)) (.inl rfl) (.int .i64 ((p.getD a Fn.zero).params)) one2 rfl ((hl2 _ (Chg.of_ext [] hE15.drew)).ld (i := 1) (by simp [exC,fnC])) (zS (e := 75) rfl rfl rfl) ?_
       refine q_move (.int .i64 ((a :Nat):Int)) rfl (zS (e := 75) rfl rfl rfl) ?_
       refine lw_call 139 [] [] [vp,(eptr ve2 j 5),(.int .i64 ((p.getD a Fn.zero).params)),(.int .i64 ((a :Nat):Int))] rfl rfl cf139 (zS (e := 75) rfl rfl rfl) (c_spec_l02Expr _ dp vp (p) dp (eptr ve2 j 5) (((p.getD a Fn.zero).outs).getD j Ex.zero) _ _ (hp.ext (good_rP (good_rPr dp)) hE15.drew) (RN.ptr (good_rEx dp) (by decide) Ex.zero (hx2.rn.ext (good_rdS (good_rEx dp)) hE15.drew) (by first | omega | assumption | (simp; done) | (simp; omega))) hx2.rng (by omega) (by omega)) ?_
       rintro e17 w17 ⟨rfl,hX17⟩
       refine ⟨_,rfl,hX17,?_⟩
       replace hX17 := hX17.of_drew
       have hzs17:=hX17.size
       have hE17:=hE15.trans hX17
       refine q_not (!(exB p (((p.getD a Fn.zero).outs).getD j Ex.zero) ((p.getD a Fn.zero).params) ((a :Nat):Int))) rfl rfl (zS (e := 75) rfl rfl rfl) ?_
       refine q_pick false (.bool (!(exB p (((p.getD a Fn.zero).outs).getD j Ex.zero) ((p.getD a Fn.zero).params) ((a :Nat):Int)))) rfl rfl zN ?_
       refine lw_nil ?_
       cases hb18 : (!(exB p (((p.getD a Fn.zero).outs).getD j Ex.zero) ((p.getD a Fn.zero).params) ((a :Nat):Int)))
       ·
        refine c_cond_f (by first | rfl | (show Value.bool _ = _; rw [hb18])) ?_
        refine wp_skip ?_
        refine wp_plain _ [0,0,0] rfl ?_
        refine q_move (.int .i64 ((j :Nat):Int)) rfl zN ?_
        refine q_add ((j + 1 :Nat):Int) rfl rfl (w64n (by omega) (by first | omega | assumption | (simp; done) | (simp; omega))) zN ?_
        refine q_assign (.int .i64 ((j + 1 :Nat):Int)) rfl zN ?_
        refine lw_nil ?_
        exact ⟨((j + 1),(lftE (((p.getD a Fn.zero).outs).getD j Ex.zero) x)),_,rfl,⟨rfl,rfl,rfl,rfl,rfl,trivial⟩,⟨hE17,(by first | omega | assumption | (simp; done) | (simp; omega)),(by rw [hnx,← hx]),(by omega),(by exact allR_succ hqe (bn_f (by assumption)))⟩,by first | omega | (dsimp only; omega)⟩
       ·
        refine c_cond_t (by first | rfl | (show Value.bool _ = _; rw [hb18])) ?_
        refine wp_seq ?_
        refine wp_plain _ [0] rfl ?_
        refine q_assign (.bool false) rfl zN ?_
        refine lw_nil ?_
        refine wp_ret ?_
        refine b_ret ?_
        refine t_ret ?_
        refine t_ret ?_
        refine b_ret ?_
        refine t_ret ?_
        exact post_ret [4] rfl (.bool false) rfl ⟨(by first | exact ret_bool (fn_1 (bn_t (by assumption))).symm | exact ret_bool (fn_3 (bn_t (by assumption))).symm | exact ret_bool (fn_4 (bn_t (by assumption))).symm | exact ret_bool (fn_2 (any_hit (k := k) Fn.zero (by omega) (by omega) (by assumption))).symm | exact ret_bool (left_neg (j := j + 1) (by rw [hnx,← hx]; omega)).symm | exact ret_bool (fn_5 (j := j) (by omega) (bn_t (by assumption))).symm | exact ret_bool (fn_ok (bn_f (by assumption)) hqa (bn_f (by assumption)) (bn_f (by assumption)) hqe (by omega) (left_ok hx (by omega) (by omega))).symm),hE17⟩
     ·
      refine q_lss false rfl rfl (decide_eq_false hc14) zN ?_
      refine lw_nil ?_
      refine c_cond_f rfl ?_
      refine wp_exit ?_
      refine t_exit ?_
      refine t_exit ?_
      refine c_exit_here ?_
      refine wp_seq ?_
      refine wp_plain _ [0] rfl ?_
      refine q_assign (.bool true) rfl zN ?_
      refine lw_nil ?_
      refine wp_ret ?_
      exact post_ret [4] rfl (.bool true) rfl ⟨(by first | exact ret_bool (fn_1 (bn_t (by assumption))).symm | exact ret_bool (fn_3 (bn_t (by assumption))).symm | exact ret_bool (fn_4 (bn_t (by assumption))).symm | exact ret_bool (fn_2 (any_hit (k := k) Fn.zero (by omega) (by omega) (by assumption))).symm | exact ret_bool (left_neg (j := j + 1) (by rw [hnx,← hx]; omega)).symm | exact ret_bool (fn_5 (j := j) (by omega) (bn_t (by assumption))).symm | exact ret_bool (fn_ok (bn_f (by assumption)) hqa (bn_f (by assumption)) (bn_f (by assumption)) hqe (by omega) (left_ok hx (by omega) (by omega))).symm),hE13⟩
   ·
    refine c_cond_t (by first | rfl | (show Value.bool _ = _; rw [hb8])) ?_
    refine wp_seq ?_
    refine wp_plain _ [0] rfl ?_
    refine q_assign (.bool false) rfl zN ?_
    refine lw_nil ?_
    refine wp_ret ?_
    refine t_ret ?_
    exact post_ret [4] rfl (.bool false) rfl ⟨(by first | exact ret_bool (fn_1 (bn_t (by assumption))).symm | exact ret_bool (fn_3 (bn_t (by assumption))).symm | exact ret_bool (fn_4 (bn_t (by assumption))).symm | exact ret_bool (fn_2 (any_hit (k := k) Fn.zero (by omega) (by omega) (by assumption))).symm | exact ret_bool (left_neg (j := j + 1) (by rw [hnx,← hx]; omega)).symm | exact ret_bool (fn_5 (j := j) (by omega) (bn_t (by assumption))).symm | exact ret_bool (fn_ok (bn_f (by assumption)) hqa (bn_f (by assumption)) (bn_f (by assumption)) hqe (by omega) (left_ok hx (by omega) (by omega))).symm),hE0⟩
  ·
   refine lw_skip (e := 29) (c := true) rfl rfl rfl rfl ?_
   refine lw_skip (e := 29) (c := true) rfl rfl rfl rfl ?_
   refine lw_skip (e := 29) (c := true) rfl rfl rfl rfl ?_
   refine lw_skip (e := 29) (c := true) rfl rfl rfl rfl ?_
   refine lw_skip (e := 29) (c := true) rfl rfl rfl rfl ?_
   refine lw_skip (e := 29) (c := true) rfl rfl rfl rfl ?_
   refine lw_skip (e := 29) (c := true) rfl rfl rfl rfl ?_
   refine q_pick true (.bool true) rfl rfl zN ?_
   refine lw_nil ?_
   refine c_cond_t rfl ?_
   refine wp_seq ?_
   refine wp_plain _ [0] rfl ?_
   refine q_assign (.bool false) rfl zN ?_
   refine lw_nil ?_
   refine wp_ret ?_
   refine t_ret ?_
   exact post_ret [4] rfl (.bool false) rfl ⟨(by first | exact ret_bool (fn_1 (bn_t (by assumption))).symm | exact ret_bool (fn_3 (bn_t (by assumption))).symm | exact ret_bool (fn_4 (bn_t (by assumption))).symm | exact ret_bool (fn_2 (any_hit (k := k) Fn.zero (by omega) (by omega) (by assumption))).symm | exact ret_bool (left_neg (j := j + 1) (by rw [hnx,← hx]; omega)).symm | exact ret_bool (fn_5 (j := j) (by omega) (bn_t (by assumption))).symm | exact ret_bool (fn_ok (bn_f (by assumption)) hqa (bn_f (by assumption)) (bn_f (by assumption)) hqe (by omega) (left_ok hx (by omega) (by omega))).symm),hE0⟩
 ·
  refine lw_skip (e := 21) (c := true) rfl rfl rfl rfl ?_
  refine lw_skip (e := 21) (c := true) rfl rfl rfl rfl ?_
  refine lw_skip (e := 21) (c := true) rfl rfl rfl rfl ?_
  refine lw_skip (e := 21) (c := true) rfl rfl rfl rfl ?_
  refine lw_skip (e := 21) (c := true) rfl rfl rfl rfl ?_
  refine lw_skip (e := 21) (c := true) rfl rfl rfl rfl ?_
  refine q_pick true (.bool true) rfl rfl zN ?_
  refine q_move (.bool true) rfl zN ?_
  refine lw_skip (e := 29) (c := true) rfl rfl rfl rfl ?_
  refine lw_skip (e := 29) (c := true) rfl rfl rfl rfl ?_
  refine lw_skip (e := 29) (c := true) rfl rfl rfl rfl ?_
  refine lw_skip (e := 29) (c := true) rfl rfl rfl rfl ?_
  refine lw_skip (e := 29) (c := true) rfl rfl rfl rfl ?_
  refine lw_skip (e := 29) (c := true) rfl rfl rfl rfl ?_
  refine lw_skip (e := 29) (c := true) rfl rfl rfl rfl ?_
  refine q_pick true (.bool true) rfl rfl zN ?_
  refine lw_nil ?_
  refine c_cond_t rfl ?_
  refine wp_seq ?_
  refine wp_plain _ [0] rfl ?_
  refine q_assign (.bool false) rfl zN ?_
  refine lw_nil ?_
  refine wp_ret ?_
  refine t_ret ?_
  exact post_ret [4] rfl (.bool false) rfl ⟨(by first | exact ret_bool (fn_1 (bn_t (by assumption))).symm | exact ret_bool (fn_3 (bn_t (by assumption))).symm | exact ret_bool (fn_4 (bn_t (by assumption))).symm | exact ret_bool (fn_2 (any_hit (k := k) Fn.zero (by omega) (by omega) (by assumption))).symm | exact ret_bool (left_neg (j := j + 1) (by rw [hnx,← hx]; omega)).symm | exact ret_bool (fn_5 (j := j) (by omega) (bn_t (by assumption))).symm | exact ret_bool (fn_ok (bn_f (by assumption)) hqa (bn_f (by assumption)) (bn_f (by assumption)) hqe (by omega) (left_ok hx (by omega) (by omega))).symm),hE0⟩
set_option maxHeartbeats 4000000 in
set_option maxRecDepth 100000 in
theorem c_spec_l02Ok (w : World) (dp : Nat) (vp : Value) (p : List Fn) (hp : RN [] (rP (rPr dp)) w.heap vp p) (hz : SzP p) :
  Calls Tryz.prog 77 #[vp] w (fun e w' => e = .returned (.bool (okP p)) ∧ Ext w w') := by
 refine calls_mk [vp] 23 Tryz.func77 rfl rfl (by simp) ?_
 have hE0 : Ext w w := Ext.refl w
 refine wp_seq ?_
 refine wp_plain _ [0] rfl ?_
 refine q_assign (.bool false) rfl zN ?_
 refine lw_nil ?_
 refine wp_seq ?_
 refine wp_seq ?_
 refine wp_plain _ [0,0,0,2,0,0] rfl ?_
 refine q_move vp rfl zN ?_
 refine q_nilP (hp.isPtr) rfl zN ?_
 obtain ⟨cs1,hr1,hl1⟩ := RN.at (good_rPr _) hp
 obtain ⟨ve1,rfl,hx1⟩ := RPr.of hr1
 have hln1 := hx1.lenle
 unfold maxLen at hln1
 refine q_fldL (p := vp) 0 fd32_0 rfl (hl1 _ (Chg.of_ext [] hE0)) zN ?_
 refine q_load (p := (padd vp 0)) (.inr rfl) ve1 one30 rfl ((hl1 _ (Chg.of_ext [] hE0)).ld (i := 0) (by simp [exC,fnC])) zN ?_
 refine q_len (v := ve1) u30 rfl hx1.isSl zN ?_
 by_cases hc2 : ((16 :Nat):Int) < ((p.length :Nat):Int)
 ·
  refine q_gtr true rfl rfl (decide_eq_true hc2) zN ?_
  refine lw_nil ?_
  refine c_cond_t rfl ?_
  refine wp_seq ?_
  refine wp_plain _ [0] rfl ?_
  refine q_assign (.bool false) rfl zN ?_
  refine lw_nil ?_
  refine wp_ret ?_
  refine t_ret ?_
  exact post_ret [2] rfl (.bool false) rfl ⟨(by first | exact ret_bool (ok_big (by omega)) | exact ret_bool (ok_end (by omega) (by omega) (by omega) hq) | exact ret_bool (ok_bad (k := k) (by omega) (bn_t (by assumption)))),hE0⟩
 ·
  refine q_gtr false rfl rfl (decide_eq_false hc2) zN ?_
  refine lw_nil ?_
  refine c_cond_f rfl ?_
  refine wp_skip ?_
  refine wp_seq ?_
  refine wp_seq ?_
  refine wp_plain _ [0] rfl ?_
  refine q_assign (.int .i64 ((0 :Nat):Int)) rfl zN ?_
  refine lw_nil ?_
  refine wp_block ?_
  refine c_loop (S := Nat) (fun (k : Nat) => ([(3,(.int .i64 ((k :Nat):Int))),(0,vp)] : List (Nat × Value))) (fun (k : Nat) (W : World) => Ext w W ∧ k ≤ p.length ∧ (List.range k).all (fnB p) = true) (fun (k : Nat) => p.length - k) 0 ⟨rfl,rfl,trivial⟩ ⟨hE0,(by first | omega | assumption | (simp; done) | (simp; omega)),(by rfl)⟩ ?_
  clear hE0 hln1
  rintro k ρ3 w3 ⟨hE3,hp3_0,hq⟩
  have hzs3 : w.heap.size ≤ w3.heap.size := hE3.size
  refine wp_seq ?_
  refine wp_seq ?_
  refine wp_plain _ [0,0,0,0,2,0,0] rfl ?_
  refine q_move (.int .i64 ((k :Nat):Int)) rfl zN ?_
  refine q_move vp rfl zN ?_
  refine q_nilP (hp.isPtr) rfl zN ?_
  refine q_fldL (p := vp) 0 fd32_0 rfl (hl1 _ (Chg.of_ext [] hE3)) zN ?_
  refine q_load (p := (padd vp 0)) (.inr rfl) ve1 one30 rfl ((hl1 _ (Chg.of_ext [] hE3)).ld (i := 0) (by simp [exC,fnC])) zN ?_
  refine q_len (v := ve1) u30 rfl hx1.isSl zN ?_
  by_cases hc4 : ((k :Nat):Int) < ((p.length :Nat):Int)
  ·
   refine q_lss true rfl rfl (decide_eq_true hc4) zN ?_
   refine lw_nil ?_
   refine c_cond_t rfl ?_
   refine wp_skip ?_
   refine wp_seq ?_
   refine wp_block ?_
   refine wp_seq ?_
   refine wp_plain _ [0,0,3,0] rfl ?_
   refine q_move vp rfl zN ?_
   refine q_move (.int .i64 ((k :Nat):Int)) rfl zN ?_
   refine lw_call 113 [] [] [vp,(.int .i64 ((k :Nat):Int))] rfl rfl cf113 zN (c_spec_l02Func _ dp vp (p) (k) (hp.ext (good_rP (good_rPr dp)) hE3) (by omega) (by omega) (by exact hz)) ?_
   rintro e5 w5 ⟨rfl,hX5⟩
   refine ⟨_,rfl,hX5,?_⟩
   have hzs5:=hX5.size
   have hE5:=hE3.trans hX5
   refine q_not (!(fnB p k)) rfl rfl zN ?_
   refine lw_nil ?_
   cases hb6 : (!(fnB p k))
   ·
    refine c_cond_f (by first | rfl | (show Value.bool _ = _; rw [hb6])) ?_
    refine wp_skip ?_
    refine wp_plain _ [0,0,0] rfl ?_
    refine q_move (.int .i64 ((k :Nat):Int)) rfl zN ?_
    refine q_add ((k + 1 :Nat):Int) rfl rfl (w64n (by omega) (by first | omega | assumption | (simp; done) | (simp; omega))) zN ?_
    refine q_assign (.int .i64 ((k + 1 :Nat):Int)) rfl zN ?_
    refine lw_nil ?_
    exact ⟨(k + 1),_,rfl,⟨rfl,rfl,trivial⟩,⟨hE5,(by first | omega | assumption | (simp; done) | (simp; omega)),(by exact allR_succ hq (bn_f (by assumption)))⟩,by first | omega | (dsimp only; omega)⟩
   ·
    refine c_cond_t (by first | rfl | (show Value.bool _ = _; rw [hb6])) ?_
    refine wp_seq ?_
    refine wp_plain _ [0] rfl ?_
    refine q_assign (.bool false) rfl zN ?_
    refine lw_nil ?_
    refine wp_ret ?_
    refine b_ret ?_
    refine t_ret ?_
    refine t_ret ?_
    refine b_ret ?_
    refine t_ret ?_
    exact post_ret [2] rfl (.bool false) rfl ⟨(by first | exact ret_bool (ok_big (by omega)) | exact ret_bool (ok_end (by omega) (by omega) (by omega) hq) | exact ret_bool (ok_bad (k := k) (by omega) (bn_t (by assumption)))),hE5⟩
  ·
   refine q_lss false rfl rfl (decide_eq_false hc4) zN ?_
   refine lw_nil ?_
   refine c_cond_f rfl ?_
   refine wp_exit ?_
   refine t_exit ?_
   refine t_exit ?_
   refine c_exit_here ?_
   refine wp_seq ?_
   refine wp_plain _ [0] rfl ?_
   refine q_assign (.bool true) rfl zN ?_
   refine lw_nil ?_
   refine wp_ret ?_
   exact post_ret [2] rfl (.bool true) rfl ⟨(by first | exact ret_bool (ok_big (by omega)) | exact ret_bool (ok_end (by omega) (by omega) (by omega) hq) | exact ret_bool (ok_bad (k := k) (by omega) (bn_t (by assumption)))),hE3⟩
end Go.Proofs.YtnofbmdpabcjaaaGreat
namespace Go.Proofs.YtnofbmdpabcjaaaGreat
open Go Go.RowKit
set_option linter.unusedVariables false
set_option linter.unusedSimpArgs false
attribute [local irreducible] LW
set_option maxHeartbeats 4000000 in
set_option maxRecDepth 100000 in
theorem c_spec_l01Const (w : World) (x : Int) (K : Nat) (_hx : -9223372036854775808 ≤ x ∧ x ≤ 9223372036854775807) (_hK : K ≤ 1000000000000) (hK : K ≤ 1000000000) :
  Calls Tryz.prog 93 #[.int .i64 x,.int .i64 ((K :Nat):Int)] w (fun e w' => ∃ v0 : Value,e = .returned (v0) ∧ Ext w w' ∧ Fr (owL rI 2) w.heap.size w'.heap.size w'.heap v0 (cst K x)) := by
 refine calls_mk [.int .i64 x,.int .i64 ((K :Nat):Int)] 14 Tryz.func93 rfl rfl (by simp) ?_
 have hE0 : Ext w w := Ext.refl w
 refine wp_seq ?_
 refine wp_plain _ [0] rfl ?_
 refine q_assign (.slice none 0 0) rfl zN ?_
 refine lw_nil ?_
 refine wp_seq ?_
 refine wp_plain _ [0,3,0] rfl ?_
 refine q_move (.int .i64 ((K :Nat):Int)) rfl zN ?_
 refine r_make (n := K) u25 ti2 rfl rfl rfl (by first | omega | assumption | (simp; done) | (simp; omega)) zN ?_
 intro v1 w1 hX1 hz1 hO1
 have hzs1:=hX1.size
 have hE1:=hE0.trans hX1
 refine q_assign v1 rfl zN ?_
 refine lw_nil ?_
 refine wp_seq ?_
 refine wp_seq ?_
 refine wp_plain _ [0,0] rfl ?_
 refine q_move (.int .i64 ((K :Nat):Int)) rfl zN ?_
 by_cases hc2 : ((0 :Nat):Int) < ((K :Nat):Int)
 ·
  refine q_gtr true rfl rfl (decide_eq_true hc2) zN ?_
  refine lw_nil ?_
  refine c_cond_t rfl ?_
  refine wp_plain _ [0,0,0,4] rfl ?_
  refine q_move v1 rfl zN ?_
  refine q_move (.int .i64 x) rfl zN ?_
  refine q_idx (v := v1) 0 u25 ti2 rfl rfl hO1.isSl rfl (by first | omega | assumption | (simp; done) | (simp; omega)) zN ?_
  refine e_setI (v := v1) (w := w1) sz2 rfl rfl _hx hO1 (by first | omega | assumption | (simp; done) | (simp; omega)) zN ?_
  intro w3 F3 hC3 hz3 hF3 hO3
  have hE3 : Ext w w3 := hC3.below hE1 (fun c hc => Nat.le_trans (Nat.le_refl _) (hF3 c hc).1) hE1.size
  have hzs3:=hC3.size
  refine lw_nil ?_
  refine wp_seq ?_
  refine wp_plain _ [0,0] rfl ?_
  refine q_move v1 rfl zN ?_
  refine q_assign v1 rfl zN ?_
  refine lw_nil ?_
  refine wp_ret ?_
  exact post_ret [4] rfl v1 rfl ⟨v1,rfl,hE3,(by exact hO3.up o1)⟩
 ·
  refine q_gtr false rfl rfl (decide_eq_false hc2) zN ?_
  refine lw_nil ?_
  refine c_cond_f rfl ?_
  refine wp_skip ?_
  refine wp_seq ?_
  refine wp_plain _ [0,0] rfl ?_
  refine q_move v1 rfl zN ?_
  refine q_assign v1 rfl zN ?_
  refine lw_nil ?_
  refine wp_ret ?_
  exact post_ret [4] rfl v1 rfl ⟨v1,rfl,hE1,(by have h := hO1.up o1; obtain rfl : K = 0 := (by omega); exact h)⟩
theorem scl_eq (a : List Int) (y : Int) : scl a y = sclS a y := by
  unfold scl sclS
  exact leq_done (d := 0) (k := a.length) (fun r hr => by rw [map_getD (d := 0) hr, tab_get _ hr]) (by simp) (by simp)
set_option maxHeartbeats 4000000 in
set_option maxRecDepth 100000 in
theorem c_spec_l01Add (w : World) (va : Value) (a : List Int) (vb : Value) (b : List Int) (ha : Rd (rdL rI) w.heap va a) (hb : Rd (rdL rI) w.heap vb b) (hla : a.length ≤ 1000000000000) (hl : a.length ≤ b.length) :
  Calls Tryz.prog 152 #[va,vb] w (fun e w' => ∃ v0 : Value,e = .returned (v0) ∧ Ext w w' ∧ Fr (owL rI 2) w.heap.size w'.heap.size w'.heap v0 (addS a b)) := by
 refine calls_mk [va,vb] 27 Tryz.func152 rfl rfl (by simp) ?_
 have hE0 : Ext w w := Ext.refl w
 have hl_va := ha.lenle
 have hl_vb := hb.lenle
 refine wp_seq ?_
 refine wp_plain _ [0] rfl ?_
 refine q_assign (.slice none 0 0) rfl zN ?_
 refine lw_nil ?_
 refine wp_seq ?_
 refine wp_plain _ [3,0] rfl ?_
 refine r_nil (rI) good_rI u25 ti2 zN ?_
 intro v1 w1 hX1 hz1 hO1
 have hzs1:=hX1.size
 have hE1:=hE0.trans hX1
 refine q_assign v1 rfl zN ?_
 refine lw_nil ?_
 refine wp_seq ?_
 refine wp_seq ?_
 refine wp_plain _ [0] rfl ?_
 refine q_assign (.int .i64 ((0 :Nat):Int)) rfl zN ?_
 refine lw_nil ?_
 refine wp_block ?_
 refine c_loop (S := Nat × Value) (fun (⟨k,vo⟩ : Nat × Value) => ([(5,vo),(6,(.int .i64 ((k :Nat):Int))),(0,va),(1,vb)] : List (Nat × Value))) (fun (⟨k,vo⟩ : Nat × Value) (W : World) => Ext w W ∧ Fr (owL rI 2) w.heap.size W.heap.size W.heap vo (tab k (fun t => md (a.getD t 0 + b.getD t 0))) ∧ k ≤ a.length) (fun (⟨k,vo⟩ : Nat × Value) => a.length - k) (0,v1) ⟨rfl,rfl,rfl,rfl,trivial⟩ ⟨hE1,(by exact hO1.up o1),(by first | omega | assumption | (simp [tab_len]; done) | (simp [tab_len]; omega))⟩ ?_
 clear hE0 hO1 hz1 hX1 hzs1 hE1
 rintro ⟨k,vo⟩ ρ2 w2 ⟨hE2,hL2_0,hp2_0⟩
 have hzs2 : w.heap.size ≤ w2.heap.size := hE2.size
 refine wp_seq ?_
 refine wp_seq ?_
 refine wp_plain _ [0,0,0,0] rfl ?_
 refine q_move (.int .i64 ((k :Nat):Int)) rfl zN ?_
 refine q_move va rfl zN ?_
 refine q_len (v := va) u25 rfl ha.isSl zN ?_
 by_cases hc3 : ((k :Nat):Int) < ((a.length :Nat):Int)
 ·
  refine q_lss true rfl rfl (decide_eq_true hc3) zN ?_
  refine lw_nil ?_
  refine c_cond_t rfl ?_
  refine wp_skip ?_
  refine wp_seq ?_
  refine wp_block ?_
  refine wp_draw _ [0,0,0,0,1,0,0,0,1,0,3,4,0] mixed (by kernel_rfl) ?_
  refine q_move vo rfl zN ?_
  refine q_move va rfl zN ?_
  refine q_move (.int .i64 ((k :Nat):Int)) rfl zN ?_
  refine q_idx (v := va) k u25 ti2 rfl rfl ha.isSl rfl (by first | omega | assumption | (simp [tab_len]; done) | (simp [tab_len]; omega)) zN ?_
  refine q_load (p := eptr va k 1) (.inl rfl) (.int .i64 (a.getD k 0)) one2 rfl (ldH_ext hE2.drew (ha.getI (by first | omega | assumption | (simp [tab_len]; done) | (simp [tab_len]; omega))).1) zN ?_
  refine q_move vb rfl zN ?_
  refine q_move (.int .i64 ((k :Nat):Int)) rfl zN ?_
  refine q_idx (v := vb) k u25 ti2 rfl rfl hb.isSl rfl (by first | omega | assumption | (simp [tab_len]; done) | (simp [tab_len]; omega)) zN ?_
  refine q_load (p := eptr vb k 1) (.inl rfl) (.int .i64 (b.getD k 0)) one2 rfl (ldH_ext hE2.drew (hb.getI (by first | omega | assumption | (simp [tab_len]; done) | (simp [tab_len]; omega))).1) zN ?_
  refine lw_callq 167 [] [] [(.int .i64 (a.getD k 0)),(.int .i64 (b.getD k 0))] rfl rfl cf167 zN (.int .i64 (md ((a.getD k 0) + (b.getD k 0)))) (fun wq => c_spec_Plus wq _ _ (ha.getI (by first | omega | assumption | (simp [tab_len]; done) | (simp [tab_len]; omega))).2 (hb.getI (by first | omega | assumption | (simp [tab_len]; done) | (simp [tab_len]; omega))).2) ?_
  refine r_one (u := (.int .i64 (md ((a.getD k 0) + (b.getD k 0))))) (B := w2.heap.size) good_rI u25 ti2 rfl rfl (frI w2.heap.size w2.heap.size _ _ (md_rng _)) (Nat.le_refl _) zN ?_
  intro v5 w5 hX5 hz5 hO5
  replace hX5 := hX5.of_drew
  have hzs5:=hX5.size
  have hE5:=hE2.trans hX5
  have hL2_0x5 := hL2_0.ext (o1) hX5
  refine e_appI (v := vo) (a := v5) u25 ti2 rfl rfl rfl hL2_0x5 hE5.size hO5.rd1 (by first | omega | assumption | (simp [tab_len]; done) | (simp [tab_len]; omega)) (by unfold maxLen; first | omega | assumption | (simp [tab_len]; done) | (simp [tab_len]; omega)) zN ?_
  intro v6 w6 F6 hC6 hF6 hO6
  have hE6 : Ext w w6 := hC6.below hE5 (fun c hc => Nat.le_trans (Nat.le_refl _) (hF6 c hc).1) hE5.size
  have hzs6:=hC6.size
  have hF7 := hO5.chg (o1) hC6 (fun c hc => by have := hF6 c hc; omega)
  refine q_assign v6 rfl zN ?_
  refine lw_nil ?_
  refine wp_plain _ [0,0,0] rfl ?_
  refine q_move (.int .i64 ((k :Nat):Int)) rfl zN ?_
  refine q_add ((k + 1 :Nat):Int) rfl rfl (w64n (by omega) (by first | omega | assumption | (simp [tab_len]; done) | (simp [tab_len]; omega))) zN ?_
  refine q_assign (.int .i64 ((k + 1 :Nat):Int)) rfl zN ?_
  refine lw_nil ?_
  exact ⟨((k + 1),v6),_,rfl,⟨rfl,rfl,rfl,rfl,trivial⟩,⟨hE6,(by rw [tab_succ]; exact hO6.up o1),(by first | omega | assumption | (simp [tab_len]; done) | (simp [tab_len]; omega))⟩,by first | omega | (dsimp only; omega)⟩
 ·
  refine q_lss false rfl rfl (decide_eq_false hc3) zN ?_
  refine lw_nil ?_
  refine c_cond_f rfl ?_
  refine wp_exit ?_
  refine t_exit ?_
  refine t_exit ?_
  refine c_exit_here ?_
  refine wp_seq ?_
  refine wp_plain _ [0,0] rfl ?_
  refine q_move vo rfl zN ?_
  refine q_assign vo rfl zN ?_
  refine lw_nil ?_
  refine wp_ret ?_
  exact post_ret [4] rfl vo rfl ⟨vo,rfl,hE2,(by have h := hL2_0.up o1; rw [show k = a.length from by omega] at h; exact h)⟩
set_option maxHeartbeats 4000000 in
set_option maxRecDepth 100000 in
theorem c_spec_l01Sub (w : World) (va : Value) (a : List Int) (vb : Value) (b : List Int) (ha : Rd (rdL rI) w.heap va a) (hb : Rd (rdL rI) w.heap vb b) (hla : a.length ≤ 1000000000000) (hlb : b.length ≤ 1000000000000) (hl : a.length ≤ b.length) :
  Calls Tryz.prog 153 #[va,vb] w (fun e w' => ∃ v0 : Value,e = .returned (v0) ∧ Ext w w' ∧ Fr (owL rI 2) w.heap.size w'.heap.size w'.heap v0 (redS a b)) := by
 refine calls_mk [va,vb] 9 Tryz.func153 rfl rfl (by simp) ?_
 have hE0 : Ext w w := Ext.refl w
 have hl_va := ha.lenle
 have hl_vb := hb.lenle
 refine wp_seq ?_
 refine wp_plain _ [0] rfl ?_
 refine q_assign (.slice none 0 0) rfl zN ?_
 refine lw_nil ?_
 refine wp_seq ?_
 refine wp_plain _ [0,0,3,3,0] rfl ?_
 refine q_move va rfl zN ?_
 refine q_move vb rfl zN ?_
 refine lw_call 149 [] [] [vb,(.int .i64 ((1000002 :Nat):Int))] rfl rfl cf149 zN (c_spec_l01Scale _ _ _ _ (hb.ext g1 hE0) (by omega) (by exact hlb)) ?_
 rintro e1 w1 ⟨v1_0,rfl,hX1,hO1_0⟩
 refine ⟨_,rfl,hX1,?_⟩
 have hzs1:=hX1.size
 have hE1:=hE0.trans hX1
 refine lw_call 152 [] [] [va,v1_0] rfl rfl cf152 zN (c_spec_l01Add _ _ _ _ _ (ha.ext g1 hE1) hO1_0.rd1 (by exact hla) (by unfold scl; simp; omega)) ?_
 rintro e2 w2 ⟨v2_0,rfl,hX2,hO2_0⟩
 refine ⟨_,rfl,hX2,?_⟩
 have hzs2:=hX2.size
 have hE2:=hE1.trans hX2
 have hO1_0x2 := hO1_0.ext (o1) hX2
 refine q_assign v2_0 rfl zN ?_
 refine lw_nil ?_
 refine wp_ret ?_
 exact post_ret [4] rfl v2_0 rfl ⟨v2_0,rfl,hE2,(by rw [← red_eq hl,← scl_eq]; exact (hO2_0.up o1).low hE1.size)⟩
set_option maxHeartbeats 4000000 in
set_option maxRecDepth 100000 in
theorem c_spec_l01Mul (w : World) (va : Value) (a : List Int) (vb : Value) (b : List Int) (ha : Rd (rdL rI) w.heap va a) (hb : Rd (rdL rI) w.heap vb b) (hla : a.length ≤ 1000000000000) (hl : a.length ≤ b.length) :
  Calls Tryz.prog 154 #[va,vb] w (fun e w' => ∃ v0 : Value,e = .returned (v0) ∧ Ext w w' ∧ Fr (owL rI 2) w.heap.size w'.heap.size w'.heap v0 (proS a b)) := by
 refine calls_mk [va,vb] 39 Tryz.func154 rfl rfl (by simp) ?_
 have hE0 : Ext w w := Ext.refl w
 have hl_va := ha.lenle
 have hl_vb := hb.lenle
 refine wp_seq ?_
 refine wp_plain _ [0] rfl ?_
 refine q_assign (.slice none 0 0) rfl zN ?_
 refine lw_nil ?_
 refine wp_seq ?_
 refine wp_plain _ [3,0] rfl ?_
 refine r_nil (rI) good_rI u25 ti2 zN ?_
 intro v1 w1 hX1 hz1 hO1
 have hzs1:=hX1.size
 have hE1:=hE0.trans hX1
 refine q_assign v1 rfl zN ?_
 refine lw_nil ?_
 refine wp_seq ?_
 refine wp_seq ?_
 refine wp_plain _ [0] rfl ?_
 refine q_assign (.int .i64 ((0 :Nat):Int)) rfl zN ?_
 refine lw_nil ?_
 refine wp_block ?_
 refine c_loop (S := Nat × Value) (fun (⟨k,vo⟩ : Nat × Value) => ([(5,vo),(6,(.int .i64 ((k :Nat):Int))),(0,va),(1,vb)] : List (Nat × Value))) (fun (⟨k,vo⟩ : Nat × Value) (W : World) => Ext w W ∧ Fr (owL rI 2) w.heap.size W.heap.size W.heap vo (tab k (fun t => prk a b t (t + 1))) ∧ k ≤ a.length) (fun (⟨k,vo⟩ : Nat × Value) => a.length - k) (0,v1) ⟨rfl,rfl,rfl,rfl,trivial⟩ ⟨hE1,(by exact hO1.up o1),(by first | omega | assumption | (simp [tab_len]; done) | (simp [tab_len]; omega))⟩ ?_
 clear hE0 hO1 hz1 hX1 hzs1 hE1
 rintro ⟨k,vo⟩ ρ2 w2 ⟨hE2,hL2_0,hp2_0⟩
 have hzs2 : w.heap.size ≤ w2.heap.size := hE2.size
 refine wp_seq ?_
 refine wp_seq ?_
 refine wp_plain _ [0,0,0,0] rfl ?_
 refine q_move (.int .i64 ((k :Nat):Int)) rfl zN ?_
 refine q_move va rfl zN ?_
 refine q_len (v := va) u25 rfl ha.isSl zN ?_
 by_cases hc3 : ((k :Nat):Int) < ((a.length :Nat):Int)
 ·
  refine q_lss true rfl rfl (decide_eq_true hc3) zN ?_
  refine lw_nil ?_
  refine c_cond_t rfl ?_
  refine wp_skip ?_
  refine wp_seq ?_
  refine wp_block ?_
  refine wp_seq ?_
  refine wp_plain _ [0] rfl ?_
  refine q_assign (.int .i64 ((0 :Nat):Int)) rfl zN ?_
  refine lw_nil ?_
  refine wp_seq ?_
  refine wp_seq ?_
  refine wp_plain _ [0] rfl ?_
  refine q_assign (.int .i64 ((0 :Nat):Int)) rfl zN ?_
  refine lw_nil ?_
  refine wp_block ?_
  refine c_loop (S := Nat × Int) (fun (⟨i,s⟩ : Nat × Int) => ([(7,(.int .i64 s)),(8,(.int .i64 ((i :Nat):Int))),(0,va),(1,vb),(5,vo),(6,(.int .i64 ((k :Nat):Int)))] : List (Nat × Value))) (fun (⟨i,s⟩ : Nat × Int) (W : World) => Ext w W ∧ Fr (owL rI 2) w.heap.size W.heap.size W.heap vo (tab k (fun t => prk a b t (t + 1))) ∧ i ≤ k + 1 ∧ s = prk a b k i ∧ (0 ≤ s ∧ s < 1000003)) (fun (⟨i,s⟩ : Nat × Int) => k + 1 - i) (0,((0 :Nat):Int)) ⟨rfl,rfl,rfl,rfl,rfl,rfl,trivial⟩ ⟨hE2,hL2_0.up o1,(by first | omega | assumption | (simp [tab_len]; done) | (simp [tab_len]; omega)),(by rfl),(by omega)⟩ ?_
  clear hL2_0 hE2 hzs2
  rintro ⟨i,s⟩ ρ4 w4 ⟨hE4,hL4_0,hp4_0,hs,hsr⟩
  have hzs4 : w.heap.size ≤ w4.heap.size := hE4.size
  refine wp_seq ?_
  refine wp_seq ?_
  refine wp_plain _ [0,0,0] rfl ?_
  refine q_move (.int .i64 ((i :Nat):Int)) rfl zN ?_
  refine q_move (.int .i64 ((k :Nat):Int)) rfl zN ?_
  by_cases hc5 : ((i :Nat):Int) ≤ ((k :Nat):Int)
  ·
   refine q_leq true rfl rfl (decide_eq_true hc5) zN ?_
   refine lw_nil ?_
   refine c_cond_t rfl ?_
   refine wp_skip ?_
   refine wp_seq ?_
   refine wp_block ?_
   refine wp_draw _ [0,0,0,0,1,0,0,0,0,0,1,0,0,0] mixed (by kernel_rfl) ?_
   refine q_move (.int .i64 s) rfl zN ?_
   refine q_move va rfl zN ?_
   refine q_move (.int .i64 ((i :Nat):Int)) rfl zN ?_
   refine q_idx (v := va) i u25 ti2 rfl rfl ha.isSl rfl (by first | omega | assumption | (simp [tab_len]; done) | (simp [tab_len]; omega)) zN ?_
   refine q_load (p := eptr va i 1) (.inl rfl) (.int .i64 (a.getD i 0)) one2 rfl (ldH_ext hE4.drew (ha.getI (by first | omega | assumption | (simp [tab_len]; done) | (simp [tab_len]; omega))).1) zN ?_
   refine q_move vb rfl zN ?_
   refine q_move (.int .i64 ((k :Nat):Int)) rfl zN ?_
   refine q_move (.int .i64 ((i :Nat):Int)) rfl zN ?_
   refine q_sub ((k - i :Nat):Int) rfl rfl (by rw [w64 (by omega) (by omega)]; omega) zN ?_
   refine q_idx (v := vb) (k - i) u25 ti2 rfl rfl hb.isSl rfl (by first | omega | assumption | (simp [tab_len]; done) | (simp [tab_len]; omega)) zN ?_
   refine q_load (p := eptr vb (k - i) 1) (.inl rfl) (.int .i64 (b.getD (k - i) 0)) one2 rfl (ldH_ext hE4.drew (hb.getI (by first | omega | assumption | (simp [tab_len]; done) | (simp [tab_len]; omega))).1) zN ?_
   refine lw_callq 94 [] [] [(.int .i64 (a.getD i 0)),(.int .i64 (b.getD (k - i) 0))] rfl rfl cf94 zN (.int .i64 (md ((a.getD i 0) * (b.getD (k - i) 0)))) (fun wq => c_spec_Times wq _ _ (ha.getI (by first | omega | assumption | (simp [tab_len]; done) | (simp [tab_len]; omega))).2 (hb.getI (by first | omega | assumption | (simp [tab_len]; done) | (simp [tab_len]; omega))).2) ?_
   refine lw_callq 167 [] [] [(.int .i64 s),(.int .i64 (md ((a.getD i 0) * (b.getD (k - i) 0))))] rfl rfl cf167 zN (.int .i64 (md (s + (md ((a.getD i 0) * (b.getD (k - i) 0)))))) (fun wq => c_spec_Plus wq _ _ (by omega) (md_rng _)) ?_
   refine q_assign (.int .i64 (md (s + (md ((a.getD i 0) * (b.getD (k - i) 0)))))) rfl zN ?_
   refine lw_nil ?_
   refine wp_plain _ [0,0,0] rfl ?_
   refine q_move (.int .i64 ((i :Nat):Int)) rfl zN ?_
   refine q_add ((i + 1 :Nat):Int) rfl rfl (w64n (by omega) (by first | omega | assumption | (simp [tab_len]; done) | (simp [tab_len]; omega))) zN ?_
   refine q_assign (.int .i64 ((i + 1 :Nat):Int)) rfl zN ?_
   refine lw_nil ?_
   exact ⟨((i + 1),(md (s + (md ((a.getD i 0) * (b.getD (k - i) 0)))))),_,rfl,⟨rfl,rfl,rfl,rfl,rfl,rfl,trivial⟩,⟨hE4.drew,hL4_0.up o1,(by first | omega | assumption | (simp [tab_len]; done) | (simp [tab_len]; omega)),(by rw [md_addr,hs]; rfl),(by exact md_num _)⟩,by first | omega | (dsimp only; omega)⟩
  ·
   refine q_leq false rfl rfl (decide_eq_false hc5) zN ?_
   refine lw_nil ?_
   refine c_cond_f rfl ?_
   refine wp_exit ?_
   refine t_exit ?_
   refine t_exit ?_
   refine c_exit_here ?_
   refine wp_plain _ [0,0,3,4,0] rfl ?_
   refine q_move vo rfl zN ?_
   refine q_move (.int .i64 s) rfl zN ?_
   refine r_one (u := (.int .i64 s)) (B := w4.heap.size) good_rI u25 ti2 rfl rfl (frI w4.heap.size w4.heap.size _ _ (by omega)) (Nat.le_refl _) zN ?_
   intro v8 w8 hX8 hz8 hO8
   have hzs8:=hX8.size
   have hE8:=hE4.trans hX8
   have hL4_0x8 := hL4_0.ext (o1) hX8
   refine e_appI (v := vo) (a := v8) u25 ti2 rfl rfl rfl hL4_0x8 hE8.size hO8.rd1 (by first | omega | assumption | (simp [tab_len]; done) | (simp [tab_len]; omega)) (by unfold maxLen; first | omega | assumption | (simp [tab_len]; done) | (simp [tab_len]; omega)) zN ?_
   intro v9 w9 F9 hC9 hF9 hO9
   have hE9 : Ext w w9 := hC9.below hE8 (fun c hc => Nat.le_trans (Nat.le_refl _) (hF9 c hc).1) hE8.size
   have hzs9:=hC9.size
   have hF10 := hO8.chg (o1) hC9 (fun c hc => by have := hF9 c hc; omega)
   refine q_assign v9 rfl zN ?_
   refine lw_nil ?_
   refine wp_plain _ [0,0,0] rfl ?_
   refine q_move (.int .i64 ((k :Nat):Int)) rfl zN ?_
   refine q_add ((k + 1 :Nat):Int) rfl rfl (w64n (by omega) (by first | omega | assumption | (simp [tab_len]; done) | (simp [tab_len]; omega))) zN ?_
   refine q_assign (.int .i64 ((k + 1 :Nat):Int)) rfl zN ?_
   refine lw_nil ?_
   exact ⟨((k + 1),v9),_,rfl,⟨rfl,rfl,rfl,rfl,trivial⟩,⟨hE9,(by rw [tab_succ]; have h := hO9.up o1; rw [hs,show i = k + 1 from by omega] at h; exact h),(by first | omega | assumption | (simp [tab_len]; done) | (simp [tab_len]; omega))⟩,by first | omega | (dsimp only; omega)⟩
 ·
  refine q_lss false rfl rfl (decide_eq_false hc3) zN ?_
  refine lw_nil ?_
  refine c_cond_f rfl ?_
  refine wp_exit ?_
  refine t_exit ?_
  refine t_exit ?_
  refine c_exit_here ?_
  refine wp_seq ?_
  refine wp_plain _ [0,0] rfl ?_
  refine q_move vo rfl zN ?_
  refine q_assign vo rfl zN ?_
  refine lw_nil ?_
  refine wp_ret ?_
  exact post_ret [4] rfl vo rfl ⟨vo,rfl,hE2,(by have h := hL2_0.up o1; rw [show k = a.length from by omega] at h; exact h)⟩
set_option maxHeartbeats 4000000 in
set_option maxRecDepth 100000 in
theorem c_spec_l01Div (w : World) (va : Value) (a : List Int) (vb : Value) (b : List Int) (ha : Rd (rdL rI) w.heap va a) (hb : Rd (rdL rI) w.heap vb b) (hla : a.length ≤ 1000000000000) (hl : a.length ≤ b.length) (h1 : 0 < b.length) (hqa : allN a = true) :
  Calls Tryz.prog 155 #[va,vb] w (fun e w' => ∃ v0 : Value,e = .returned (v0) ∧ Ext w w' ∧ Fr (owL rI 2) w.heap.size w'.heap.size w'.heap v0 (quoS a b)) := by
 refine calls_mk [va,vb] 50 Tryz.func155 rfl rfl (by simp) ?_
 have hE0 : Ext w w := Ext.refl w
 have hl_va := ha.lenle
 have hl_vb := hb.lenle
 refine wp_seq ?_
 refine wp_plain _ [0] rfl ?_
 refine q_assign (.slice none 0 0) rfl zN ?_
 refine lw_nil ?_
 refine wp_seq ?_
 refine wp_plain _ [3,0] rfl ?_
 refine r_nil (rI) good_rI u25 ti2 zN ?_
 intro v1 w1 hX1 hz1 hO1
 have hzs1:=hX1.size
 have hE1:=hE0.trans hX1
 refine q_assign v1 rfl zN ?_
 refine lw_nil ?_
 refine wp_seq ?_
 refine wp_plain _ [0,0,2,0,0] rfl ?_
 refine q_move vb rfl zN ?_
 refine q_idx (v := vb) 0 u25 ti2 rfl rfl hb.isSl rfl (by first | omega | assumption | (simp [quL_len]; done) | (simp [quL_len]; omega)) zN ?_
 refine q_load (p := eptr vb 0 1) (.inr rfl) (.int .i64 (b.getD 0 0)) one2 rfl (ldH_ext hE1 (hb.getI (by first | omega | assumption | (simp [quL_len]; done) | (simp [quL_len]; omega))).1) zN ?_
 refine lw_callq 98 [] [] [(.int .i64 (b.getD 0 0))] rfl rfl cf98 zN (.int .i64 (inv (b.getD 0 0))) (fun wq => c_spec_l01Inv wq _ (hb.getI (by first | omega | assumption | (simp [quL_len]; done) | (simp [quL_len]; omega))).2) ?_
 refine q_assign (.int .i64 (inv (b.getD 0 0))) rfl zN ?_
 refine lw_nil ?_
 refine wp_seq ?_
 refine wp_seq ?_
 refine wp_plain _ [0] rfl ?_
 refine q_assign (.int .i64 ((0 :Nat):Int)) rfl zN ?_
 refine lw_nil ?_
 refine wp_block ?_
 refine c_loop (S := Nat × Value) (fun (⟨k,vo⟩ : Nat × Value) => ([(5,vo),(7,(.int .i64 ((k :Nat):Int))),(0,va),(1,vb),(6,(.int .i64 (inv (b.getD 0 0))))] : List (Nat × Value))) (fun (⟨k,vo⟩ : Nat × Value) (W : World) => Ext w W ∧ Fr (owL rI 2) w.heap.size W.heap.size W.heap vo (quL a b k) ∧ k ≤ a.length) (fun (⟨k,vo⟩ : Nat × Value) => a.length - k) (0,v1) ⟨rfl,rfl,rfl,rfl,rfl,trivial⟩ ⟨hE1,(by exact hO1.up o1),(by first | omega | assumption | (simp [quL_len]; done) | (simp [quL_len]; omega))⟩ ?_
 clear hE0 hO1 hz1 hX1 hzs1 hE1
 rintro ⟨k,vo⟩ ρ3 w3 ⟨hE3,hL3_0,hp3_0⟩
 have hzs3 : w.heap.size ≤ w3.heap.size := hE3.size
 refine wp_seq ?_
 refine wp_seq ?_
 refine wp_plain _ [0,0,0,0] rfl ?_
 refine q_move (.int .i64 ((k :Nat):Int)) rfl zN ?_
 refine q_move va rfl zN ?_
 refine q_len (v := va) u25 rfl ha.isSl zN ?_
 by_cases hc4 : ((k :Nat):Int) < ((a.length :Nat):Int)
 ·
  refine q_lss true rfl rfl (decide_eq_true hc4) zN ?_
  refine lw_nil ?_
  refine c_cond_t rfl ?_
  refine wp_skip ?_
  refine wp_seq ?_
  refine wp_block ?_
  refine wp_seq ?_
  refine wp_plain _ [0,0,0,2,0] rfl ?_
  refine q_move va rfl zN ?_
  refine q_move (.int .i64 ((k :Nat):Int)) rfl zN ?_
  refine q_idx (v := va) k u25 ti2 rfl rfl ha.isSl rfl (by first | omega | assumption | (simp [quL_len]; done) | (simp [quL_len]; omega)) zN ?_
  refine q_load (p := eptr va k 1) (.inr rfl) (.int .i64 (a.getD k 0)) one2 rfl (ldH_ext hE3 (ha.getI (by first | omega | assumption | (simp [quL_len]; done) | (simp [quL_len]; omega))).1) zN ?_
  refine q_assign (.int .i64 (a.getD k 0)) rfl zN ?_
  refine lw_nil ?_
  refine wp_seq ?_
  refine wp_seq ?_
  refine wp_plain _ [0] rfl ?_
  refine q_assign (.int .i64 ((0 :Nat):Int)) rfl zN ?_
  refine lw_nil ?_
  refine wp_block ?_
  refine c_loop (S := Nat × Int) (fun (⟨i,t⟩ : Nat × Int) => ([(8,(.int .i64 t)),(9,(.int .i64 ((i :Nat):Int))),(0,va),(1,vb),(5,vo),(6,(.int .i64 (inv (b.getD 0 0)))),(7,(.int .i64 ((k :Nat):Int)))] : List (Nat × Value))) (fun (⟨i,t⟩ : Nat × Int) (W : World) => Ext w W ∧ Fr (owL rI 2) w.heap.size W.heap.size W.heap vo (quL a b k) ∧ i ≤ k ∧ t = qrk a b (quL a b k) k i ∧ (0 ≤ t ∧ t < 1000003)) (fun (⟨i,t⟩ : Nat × Int) => k - i) (0,(a.getD k 0)) ⟨rfl,rfl,rfl,rfl,rfl,rfl,rfl,trivial⟩ ⟨hE3,hL3_0.up o1,(by first | omega | assumption | (simp [quL_len]; done) | (simp [quL_len]; omega)),(by rfl),(by exact allN_get hqa k)⟩ ?_
  clear hL3_0 hE3 hzs3
  rintro ⟨i,t⟩ ρ5 w5 ⟨hE5,hL5_0,hp5_0,ht,htr⟩
  have hzs5 : w.heap.size ≤ w5.heap.size := hE5.size
  refine wp_seq ?_
  refine wp_seq ?_
  refine wp_plain _ [0,0,0] rfl ?_
  refine q_move (.int .i64 ((i :Nat):Int)) rfl zN ?_
  refine q_move (.int .i64 ((k :Nat):Int)) rfl zN ?_
  by_cases hc6 : ((i :Nat):Int) < ((k :Nat):Int)
  ·
   refine q_lss true rfl rfl (decide_eq_true hc6) zN ?_
   refine lw_nil ?_
   refine c_cond_t rfl ?_
   refine wp_skip ?_
   refine wp_seq ?_
   refine wp_block ?_
   refine wp_draw _ [0,0,0,0,1,0,0,0,0,0,1,0,0,0] mixed (by kernel_rfl) ?_
   have hmn := md_num ((quL a b k).getD i 0 * b.getD (k - i) 0)
   refine q_move (.int .i64 t) rfl zN ?_
   refine q_move vo rfl zN ?_
   refine q_move (.int .i64 ((i :Nat):Int)) rfl zN ?_
   refine q_idx (v := vo) i u25 ti2 rfl rfl hL5_0.isSl rfl (by first | omega | assumption | (simp [quL_len]; done) | (simp [quL_len]; omega)) zN ?_
   refine q_load (p := eptr vo i 1) (.inl rfl) (.int .i64 ((quL a b k).getD i 0)) one2 rfl (hL5_0.rd1.getI (by first | omega | assumption | (simp [quL_len]; done) | (simp [quL_len]; omega))).1 zN ?_
   refine q_move vb rfl zN ?_
   refine q_move (.int .i64 ((k :Nat):Int)) rfl zN ?_
   refine q_move (.int .i64 ((i :Nat):Int)) rfl zN ?_
   refine q_sub ((k - i :Nat):Int) rfl rfl (by rw [w64 (by omega) (by omega)]; omega) zN ?_
   refine q_idx (v := vb) (k - i) u25 ti2 rfl rfl hb.isSl rfl (by first | omega | assumption | (simp [quL_len]; done) | (simp [quL_len]; omega)) zN ?_
   refine q_load (p := eptr vb (k - i) 1) (.inl rfl) (.int .i64 (b.getD (k - i) 0)) one2 rfl (ldH_ext hE5.drew (hb.getI (by first | omega | assumption | (simp [quL_len]; done) | (simp [quL_len]; omega))).1) zN ?_
   refine lw_callq 94 [] [] [(.int .i64 ((quL a b k).getD i 0)),(.int .i64 (b.getD (k - i) 0))] rfl rfl cf94 zN (.int .i64 (md (((quL a b k).getD i 0) * (b.getD (k - i) 0)))) (fun wq => c_spec_Times wq _ _ (hL5_0.rd1.getI (by first | omega | assumption | (simp [quL_len]; done) | (simp [quL_len]; omega))).2 (hb.getI (by first | omega | assumption | (simp [quL_len]; done) | (simp [quL_len]; omega))).2) ?_
   refine lw_callq 168 [] [] [(.int .i64 t),(.int .i64 (md (((quL a b k).getD i 0) * (b.getD (k - i) 0))))] rfl rfl cf168 zN (.int .i64 (md (t - (md (((quL a b k).getD i 0) * (b.getD (k - i) 0)))))) (fun wq => c_spec_l01Minus wq _ _ (by omega) (md_rng _) (by omega)) ?_
   refine q_assign (.int .i64 (md (t - (md (((quL a b k).getD i 0) * (b.getD (k - i) 0)))))) rfl zN ?_
   refine lw_nil ?_
   refine wp_plain _ [0,0,0] rfl ?_
   refine q_move (.int .i64 ((i :Nat):Int)) rfl zN ?_
   refine q_add ((i + 1 :Nat):Int) rfl rfl (w64n (by omega) (by first | omega | assumption | (simp [quL_len]; done) | (simp [quL_len]; omega))) zN ?_
   refine q_assign (.int .i64 ((i + 1 :Nat):Int)) rfl zN ?_
   refine lw_nil ?_
   exact ⟨((i + 1),(md (t - (md (((quL a b k).getD i 0) * (b.getD (k - i) 0)))))),_,rfl,⟨rfl,rfl,rfl,rfl,rfl,rfl,rfl,trivial⟩,⟨hE5.drew,hL5_0.up o1,(by first | omega | assumption | (simp [quL_len]; done) | (simp [quL_len]; omega)),(by rw [md_subr,ht]; rfl),(by exact md_num _)⟩,by first | omega | (dsimp only; omega)⟩
  ·
   refine q_lss false rfl rfl (decide_eq_false hc6) zN ?_
   refine lw_nil ?_
   refine c_cond_f rfl ?_
   refine wp_exit ?_
   refine t_exit ?_
   refine t_exit ?_
   refine c_exit_here ?_
   refine wp_plain _ [0,0,0,0,3,4,0] rfl ?_
   refine q_move vo rfl zN ?_
   refine q_move (.int .i64 t) rfl zN ?_
   refine q_move (.int .i64 (inv (b.getD 0 0))) rfl zN ?_
   refine lw_callq 94 [] [] [(.int .i64 t),(.int .i64 (inv (b.getD 0 0)))] rfl rfl cf94 zN (.int .i64 (md (t * (inv (b.getD 0 0))))) (fun wq => c_spec_Times wq _ _ (by omega) (inv_rng _)) ?_
   refine r_one (u := (.int .i64 (md (t * (inv (b.getD 0 0)))))) (B := w5.heap.size) good_rI u25 ti2 rfl rfl (frI w5.heap.size w5.heap.size _ _ (md_rng _)) (Nat.le_refl _) zN ?_
   intro v10 w10 hX10 hz10 hO10
   have hzs10:=hX10.size
   have hE10:=hE5.trans hX10
   have hL5_0x10 := hL5_0.ext (o1) hX10
   refine e_appI (v := vo) (a := v10) u25 ti2 rfl rfl rfl hL5_0x10 hE10.size hO10.rd1 (by first | omega | assumption | (simp [quL_len]; done) | (simp [quL_len]; omega)) (by unfold maxLen; first | omega | assumption | (simp [quL_len]; done) | (simp [quL_len]; omega)) zN ?_
   intro v11 w11 F11 hC11 hF11 hO11
   have hE11 : Ext w w11 := hC11.below hE10 (fun c hc => Nat.le_trans (Nat.le_refl _) (hF11 c hc).1) hE10.size
   have hzs11:=hC11.size
   have hF12 := hO10.chg (o1) hC11 (fun c hc => by have := hF11 c hc; omega)
   refine q_assign v11 rfl zN ?_
   refine lw_nil ?_
   refine wp_plain _ [0,0,0] rfl ?_
   refine q_move (.int .i64 ((k :Nat):Int)) rfl zN ?_
   refine q_add ((k + 1 :Nat):Int) rfl rfl (w64n (by omega) (by first | omega | assumption | (simp [quL_len]; done) | (simp [quL_len]; omega))) zN ?_
   refine q_assign (.int .i64 ((k + 1 :Nat):Int)) rfl zN ?_
   refine lw_nil ?_
   exact ⟨((k + 1),v11),_,rfl,⟨rfl,rfl,rfl,rfl,rfl,trivial⟩,⟨hE11,(by have h := hO11.up o1; rw [ht,show i = k from by omega] at h; exact h),(by first | omega | assumption | (simp [quL_len]; done) | (simp [quL_len]; omega))⟩,by first | omega | (dsimp only; omega)⟩
 ·
  refine q_lss false rfl rfl (decide_eq_false hc4) zN ?_
  refine lw_nil ?_
  refine c_cond_f rfl ?_
  refine wp_exit ?_
  refine t_exit ?_
  refine t_exit ?_
  refine c_exit_here ?_
  refine wp_seq ?_
  refine wp_plain _ [0,0] rfl ?_
  refine q_move vo rfl zN ?_
  refine q_assign vo rfl zN ?_
  refine lw_nil ?_
  refine wp_ret ?_
  exact post_ret [4] rfl vo rfl ⟨vo,rfl,hE3,(by have h := hL3_0.up o1; rw [show k = a.length from by omega] at h; exact h)⟩
end Go.Proofs.YtnofbmdpabcjaaaGreat
