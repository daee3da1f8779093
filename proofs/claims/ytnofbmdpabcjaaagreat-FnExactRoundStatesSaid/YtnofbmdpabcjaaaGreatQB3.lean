/- Sk, Ve, Vf, Va: texts of this claim, joined; what the claim does not come to is left out. -/
import Derived.Test.YtnofbmdpabcjaaaGreatQB2
import Derived.Test.YtnofbmdpabcjaaaGreatProg
set_option linter.unusedVariables false
set_option linter.unusedSimpArgs false
namespace Go.Proofs.YtnofbmdpabcjaaaGreat
open Go Go.RowKit
set_option linter.unusedVariables false
set_option linter.unusedSimpArgs false
attribute [local irreducible] LW
set_option maxHeartbeats 4000000 in
set_option maxRecDepth 100000 in
theorem c_impl_scaled (w : World) (va : Value) (a : List Int) (y : Int) (ha : Rd (rdL rI) w.heap va a) (_hy : -9223372036854775808 ≤ y ∧ y ≤ 9223372036854775807) (hla : a.length ≤ 1000000000000) (hqa : allN a = true) (hy : 0 ≤ y ∧ y < 1000003) :
  Calls Tryz.prog 161 #[va,.int .i64 y] w (fun e w' => ∃ v0 : Value,e = .returned (v0) ∧ Ext w w' ∧ Fr (owL rI 2) w.heap.size w'.heap.size w'.heap v0 (sclS a y)) := by
 refine calls_mk [va,.int .i64 y] 27 Tryz.func161 rfl rfl (by simp) ?_
 have hE0 : Ext w w := Ext.refl w
 have hl_va := ha.lenle
 refine wp_seq ?_
 refine wp_plain _ [0] rfl ?_
 refine q_assign (.slice none 0 0) rfl zN ?_
 refine lw_nil ?_
 refine wp_seq ?_
 refine wp_plain _ [0,0,3,0] rfl ?_
 refine q_move va rfl zN ?_
 refine q_len (v := va) u25 rfl ha.isSl zN ?_
 refine r_make (n := a.length) u25 ti2 rfl rfl rfl (by first | omega | assumption | (simp; done) | (simp; omega)) zN ?_
 intro v1 w1 hX1 hz1 hO1
 have hzs1:=hX1.size
 have hE1:=hE0.trans hX1
 refine q_assign v1 rfl zN ?_
 refine lw_nil ?_
 refine wp_seq ?_
 refine wp_seq ?_
 refine wp_plain _ [0,0,0] rfl ?_
 refine q_move va rfl zN ?_
 refine q_len (v := va) u25 rfl ha.isSl zN ?_
 refine q_move (.int .i64 ((0 :Nat):Int)) rfl zN ?_
 refine lw_nil ?_
 refine wp_block ?_
 refine c_loop (S := Nat) (fun (k : Nat) => ([(12,(.int .i64 ((k :Nat):Int))),(0,va),(1,(.int .i64 y)),(5,v1),(11,(.int .i64 ((a.length :Nat):Int)))] : List (Nat × Value))) (fun (k : Nat) (W : World) => Ext w W ∧ Fr (owL rI 2) w.heap.size W.heap.size W.heap v1 (mix k (sclS a y) (List.replicate a.length 0)) ∧ k ≤ a.length) (fun (k : Nat) => a.length - k) 0 ⟨rfl,rfl,rfl,rfl,rfl,trivial⟩ ⟨hE1,(by rw [mix_zero]; exact hO1.up o1),(by first | omega | assumption | (simp; done) | (simp; omega))⟩ ?_
 clear hE0 hO1 hz1 hX1 hzs1 hE1
 rintro k ρ2 w2 ⟨hE2,hL2_0,hp2_0⟩
 have hzs2 : w.heap.size ≤ w2.heap.size := hE2.size
 have hml := mix_len k (sclS a y) (List.replicate a.length 0) (by simp)
 rw [List.length_replicate] at hml
 have hga := allN_get hqa k
 refine wp_seq ?_
 refine wp_plain _ [0] rfl ?_
 by_cases hc3 : ((k :Nat):Int) < ((a.length :Nat):Int)
 ·
  refine q_lss true rfl rfl (decide_eq_true hc3) zN ?_
  refine lw_nil ?_
  refine wp_seq ?_
  refine c_cond_t rfl ?_
  refine wp_skip ?_
  refine wp_seq ?_
  refine wp_block ?_
  refine wp_seq ?_
  refine wp_plain _ [0,0] rfl ?_
  refine q_move (.int .i64 ((k :Nat):Int)) rfl zN ?_
  refine q_assign (.int .i64 ((k :Nat):Int)) rfl zN ?_
  refine lw_nil ?_
  refine wp_plain _ [0,0,0,0,0,2,0,0,0,0,4] rfl ?_
  refine q_move v1 rfl zN ?_
  refine q_move (.int .i64 ((k :Nat):Int)) rfl zN ?_
  refine q_move va rfl zN ?_
  refine q_move (.int .i64 ((k :Nat):Int)) rfl zN ?_
  refine q_idx (v := va) k u25 ti2 rfl rfl ha.isSl rfl (by first | omega | assumption | (simp; done) | (simp; omega)) zN ?_
  refine q_load (p := eptr va k 1) (.inr rfl) (.int .i64 (a.getD k 0)) one2 rfl (ldH_ext hE2 (ha.getI (by first | omega | assumption | (simp; done) | (simp; omega))).1) zN ?_
  refine q_move (.int .i64 y) rfl zN ?_
  refine q_mul (wr ((a.getD k 0) * y)) rfl rfl rfl zN ?_
  refine q_rem (md (a.getD k 0 * y)) rfl rfl (by decide) (nm_eq hga hy) zN ?_
  refine q_idx (v := v1) k u25 ti2 rfl rfl hL2_0.isSl rfl (by first | omega | assumption | (simp; done) | (simp; omega)) zN ?_
  refine e_setI (v := v1) (w := w2) sz2 rfl rfl (md_rng _) hL2_0 (by first | omega | assumption | (simp; done) | (simp; omega)) zN ?_
  intro w4 F4 hC4 hz4 hF4 hO4
  have hE4 : Ext w w4 := hC4.below hE2 (fun c hc => Nat.le_trans (Nat.le_refl _) (hF4 c hc).1) hE2.size
  have hzs4:=hC4.size
  refine lw_nil ?_
  refine wp_plain _ [0,0] rfl ?_
  refine q_add ((k + 1 :Nat):Int) rfl rfl (w64n (by omega) (by first | omega | assumption | (simp; done) | (simp; omega))) zN ?_
  refine q_move (.int .i64 ((k + 1 :Nat):Int)) rfl zN ?_
  refine lw_nil ?_
  exact ⟨(k + 1),_,rfl,⟨rfl,rfl,rfl,rfl,rfl,trivial⟩,⟨hE4,(by unfold sclS; rw [mix_tab (by simp) (by omega)]; exact hO4.up o1),(by first | omega | assumption | (simp; done) | (simp; omega))⟩,by first | omega | (dsimp only; omega)⟩
 ·
  refine q_lss false rfl rfl (decide_eq_false hc3) zN ?_
  refine lw_nil ?_
  refine wp_seq ?_
  refine c_cond_f rfl ?_
  refine wp_exit ?_
  refine t_exit ?_
  refine t_exit ?_
  refine c_exit_here ?_
  refine wp_seq ?_
  refine wp_plain _ [0,0] rfl ?_
  refine q_move v1 rfl zN ?_
  refine q_assign v1 rfl zN ?_
  refine lw_nil ?_
  refine wp_ret ?_
  exact post_ret [4] rfl v1 rfl ⟨v1,rfl,hE2,(by have h := hL2_0.up o1; rwa [mix_all (by simp) (by simp; omega)] at h)⟩
set_option maxHeartbeats 4000000 in
set_option maxRecDepth 100000 in
theorem c_impl_added (w : World) (va : Value) (a : List Int) (vb : Value) (b : List Int) (ha : Rd (rdL rI) w.heap va a) (hb : Rd (rdL rI) w.heap vb b) (hla : a.length ≤ 1000000000000) (hl : a.length ≤ b.length) (hqa : allN a = true) (hqb : allN b = true) :
  Calls Tryz.prog 158 #[va,vb] w (fun e w' => ∃ v0 : Value,e = .returned (v0) ∧ Ext w w' ∧ Fr (owL rI 2) w.heap.size w'.heap.size w'.heap v0 (addS a b)) := by
 refine calls_mk [va,vb] 30 Tryz.func158 rfl rfl (by simp) ?_
 have hE0 : Ext w w := Ext.refl w
 have hl_va := ha.lenle
 have hl_vb := hb.lenle
 refine wp_seq ?_
 refine wp_plain _ [0] rfl ?_
 refine q_assign (.slice none 0 0) rfl zN ?_
 refine lw_nil ?_
 refine wp_seq ?_
 refine wp_plain _ [0,0,3,0] rfl ?_
 refine q_move va rfl zN ?_
 refine q_len (v := va) u25 rfl ha.isSl zN ?_
 refine r_make (n := a.length) u25 ti2 rfl rfl rfl (by first | omega | assumption | (simp; done) | (simp; omega)) zN ?_
 intro v1 w1 hX1 hz1 hO1
 have hzs1:=hX1.size
 have hE1:=hE0.trans hX1
 refine q_assign v1 rfl zN ?_
 refine lw_nil ?_
 refine wp_seq ?_
 refine wp_seq ?_
 refine wp_plain _ [0,0,0] rfl ?_
 refine q_move va rfl zN ?_
 refine q_len (v := va) u25 rfl ha.isSl zN ?_
 refine q_move (.int .i64 ((0 :Nat):Int)) rfl zN ?_
 refine lw_nil ?_
 refine wp_block ?_
 refine c_loop (S := Nat) (fun (k : Nat) => ([(12,(.int .i64 ((k :Nat):Int))),(0,va),(1,vb),(5,v1),(11,(.int .i64 ((a.length :Nat):Int)))] : List (Nat × Value))) (fun (k : Nat) (W : World) => Ext w W ∧ Fr (owL rI 2) w.heap.size W.heap.size W.heap v1 (mix k (addS a b) (List.replicate a.length 0)) ∧ k ≤ a.length) (fun (k : Nat) => a.length - k) 0 ⟨rfl,rfl,rfl,rfl,rfl,trivial⟩ ⟨hE1,(by rw [mix_zero]; exact hO1.up o1),(by first | omega | assumption | (simp; done) | (simp; omega))⟩ ?_
 clear hE0 hO1 hz1 hX1 hzs1 hE1
 rintro k ρ2 w2 ⟨hE2,hL2_0,hp2_0⟩
 have hzs2 : w.heap.size ≤ w2.heap.size := hE2.size
 have hml := mix_len k (addS a b) (List.replicate a.length 0) (by simp)
 rw [List.length_replicate] at hml
 have hga := allN_get hqa k
 have hgb := allN_get hqb k
 refine wp_seq ?_
 refine wp_plain _ [0] rfl ?_
 by_cases hc3 : ((k :Nat):Int) < ((a.length :Nat):Int)
 ·
  refine q_lss true rfl rfl (decide_eq_true hc3) zN ?_
  refine lw_nil ?_
  refine wp_seq ?_
  refine c_cond_t rfl ?_
  refine wp_skip ?_
  refine wp_seq ?_
  refine wp_block ?_
  refine wp_seq ?_
  refine wp_plain _ [0,0] rfl ?_
  refine q_move (.int .i64 ((k :Nat):Int)) rfl zN ?_
  refine q_assign (.int .i64 ((k :Nat):Int)) rfl zN ?_
  refine lw_nil ?_
  refine wp_draw _ [0,0,0,0,0,1,0,0,0,1,0,0,0,4] mixed (by kernel_rfl) ?_
  refine q_move v1 rfl zN ?_
  refine q_move (.int .i64 ((k :Nat):Int)) rfl zN ?_
  refine q_move va rfl zN ?_
  refine q_move (.int .i64 ((k :Nat):Int)) rfl zN ?_
  refine q_idx (v := va) k u25 ti2 rfl rfl ha.isSl rfl (by first | omega | assumption | (simp; done) | (simp; omega)) zN ?_
  refine q_load (p := eptr va k 1) (.inl rfl) (.int .i64 (a.getD k 0)) one2 rfl (ldH_ext hE2.drew (ha.getI (by first | omega | assumption | (simp; done) | (simp; omega))).1) zN ?_
  refine q_move vb rfl zN ?_
  refine q_move (.int .i64 ((k :Nat):Int)) rfl zN ?_
  refine q_idx (v := vb) k u25 ti2 rfl rfl hb.isSl rfl (by first | omega | assumption | (simp; done) | (simp; omega)) zN ?_
  refine q_load (p := eptr vb k 1) (.inl rfl) (.int .i64 (b.getD k 0)) one2 rfl (ldH_ext hE2.drew (hb.getI (by first | omega | assumption | (simp; done) | (simp; omega))).1) zN ?_
  refine q_add (wr ((a.getD k 0) + (b.getD k 0))) rfl rfl rfl zN ?_
  refine q_rem (md (a.getD k 0 + b.getD k 0)) rfl rfl (by decide) (nadd_eq hga hgb) zN ?_
  refine q_idx (v := v1) k u25 ti2 rfl rfl hL2_0.isSl rfl (by first | omega | assumption | (simp; done) | (simp; omega)) zN ?_
  refine e_setI (v := v1) (w := w2.drew) sz2 rfl rfl (md_rng _) hL2_0 (by first | omega | assumption | (simp; done) | (simp; omega)) zN ?_
  intro w4 F4 hC4 hz4 hF4 hO4
  replace hC4 := hC4.of_drew
  have hE4 : Ext w w4 := hC4.below hE2 (fun c hc => Nat.le_trans (Nat.le_refl _) (hF4 c hc).1) hE2.size
  have hzs4:=hC4.size
  refine lw_nil ?_
  refine wp_plain _ [0,0] rfl ?_
  refine q_add ((k + 1 :Nat):Int) rfl rfl (w64n (by omega) (by first | omega | assumption | (simp; done) | (simp; omega))) zN ?_
  refine q_move (.int .i64 ((k + 1 :Nat):Int)) rfl zN ?_
  refine lw_nil ?_
  exact ⟨(k + 1),_,rfl,⟨rfl,rfl,rfl,rfl,rfl,trivial⟩,⟨hE4,(by unfold addS; rw [mix_tab (by simp) (by omega)]; exact hO4.up o1),(by first | omega | assumption | (simp; done) | (simp; omega))⟩,by first | omega | (dsimp only; omega)⟩
 ·
  refine q_lss false rfl rfl (decide_eq_false hc3) zN ?_
  refine lw_nil ?_
  refine wp_seq ?_
  refine c_cond_f rfl ?_
  refine wp_exit ?_
  refine t_exit ?_
  refine t_exit ?_
  refine c_exit_here ?_
  refine wp_seq ?_
  refine wp_plain _ [0,0] rfl ?_
  refine q_move v1 rfl zN ?_
  refine q_assign v1 rfl zN ?_
  refine lw_nil ?_
  refine wp_ret ?_
  exact post_ret [4] rfl v1 rfl ⟨v1,rfl,hE2,(by have h := hL2_0.up o1; rwa [mix_all (by simp) (by simp; omega)] at h)⟩
set_option maxHeartbeats 4000000 in
set_option maxRecDepth 100000 in
theorem c_impl_reduced (w : World) (va : Value) (a : List Int) (vb : Value) (b : List Int) (ha : Rd (rdL rI) w.heap va a) (hb : Rd (rdL rI) w.heap vb b) (hla : a.length ≤ 1000000000000) (hlb : b.length ≤ 1000000000000) (hl : a.length ≤ b.length) (hqa : allN a = true) (hqb : allN b = true) :
  Calls Tryz.prog 159 #[va,vb] w (fun e w' => ∃ v0 : Value,e = .returned (v0) ∧ Ext w w' ∧ Fr (owL rI 2) w.heap.size w'.heap.size w'.heap v0 (redS a b)) := by
 refine calls_mk [va,vb] 9 Tryz.func159 rfl rfl (by simp) ?_
 have hE0 : Ext w w := Ext.refl w
 have hl_va := ha.lenle
 have hl_vb := hb.lenle
 refine wp_seq ?_
 refine wp_plain _ [0] rfl ?_
 refine q_assign (.slice none 0 0) rfl zN ?_
 refine lw_nil ?_
 refine wp_seq ?_
 refine wp_plain _ [0,0,3,3,0] rfl ?_
 refine q_move va rfl zN ?_
 refine q_move vb rfl zN ?_
 refine lw_call 161 [] [] [vb,(.int .i64 ((1000002 :Nat):Int))] rfl rfl cf161 zN (c_impl_scaled _ _ _ _ (hb.ext g1 hE0) (by omega) (by exact hlb) (by exact hqb) (by omega)) ?_
 rintro e1 w1 ⟨v1_0,rfl,hX1,hO1_0⟩
 refine ⟨_,rfl,hX1,?_⟩
 have hzs1:=hX1.size
 have hE1:=hE0.trans hX1
 refine lw_call 158 [] [] [va,v1_0] rfl rfl cf158 zN (c_impl_added _ _ _ _ _ (ha.ext g1 hE1) hO1_0.rd1 (by exact hla) (by simp; omega) (by exact hqa) (by exact sclS_num _ _)) ?_
 rintro e2 w2 ⟨v2_0,rfl,hX2,hO2_0⟩
 refine ⟨_,rfl,hX2,?_⟩
 have hzs2:=hX2.size
 have hE2:=hE1.trans hX2
 have hO1_0x2 := hO1_0.ext (o1) hX2
 refine q_assign v2_0 rfl zN ?_
 refine lw_nil ?_
 refine wp_ret ?_
 exact post_ret [4] rfl v2_0 rfl ⟨v2_0,rfl,hE2,(by rw [← red_eq hl]; exact (hO2_0.up o1).low hE1.size)⟩
set_option maxHeartbeats 4000000 in
set_option maxRecDepth 100000 in
theorem c_impl_product (w : World) (va : Value) (a : List Int) (vb : Value) (b : List Int) (ha : Rd (rdL rI) w.heap va a) (hb : Rd (rdL rI) w.heap vb b) (hla : a.length ≤ 1000000000000) (hl : a.length ≤ b.length) (hqa : allN a = true) (hqb : allN b = true) :
  Calls Tryz.prog 160 #[va,vb] w (fun e w' => ∃ v0 : Value,e = .returned (v0) ∧ Ext w w' ∧ Fr (owL rI 2) w.heap.size w'.heap.size w'.heap v0 (proS a b)) := by
 refine calls_mk [va,vb] 43 Tryz.func160 rfl rfl (by simp) ?_
 have hE0 : Ext w w := Ext.refl w
 have hl_va := ha.lenle
 have hl_vb := hb.lenle
 refine wp_seq ?_
 refine wp_plain _ [0] rfl ?_
 refine q_assign (.slice none 0 0) rfl zN ?_
 refine lw_nil ?_
 refine wp_seq ?_
 refine wp_plain _ [0,0,3,0] rfl ?_
 refine q_move va rfl zN ?_
 refine q_len (v := va) u25 rfl ha.isSl zN ?_
 refine r_make (n := a.length) u25 ti2 rfl rfl rfl (by first | omega | assumption | (simp; done) | (simp; omega)) zN ?_
 intro v1 w1 hX1 hz1 hO1
 have hzs1:=hX1.size
 have hE1:=hE0.trans hX1
 refine q_assign v1 rfl zN ?_
 refine lw_nil ?_
 refine wp_seq ?_
 refine wp_seq ?_
 refine wp_plain _ [0,0,0] rfl ?_
 refine q_move va rfl zN ?_
 refine q_len (v := va) u25 rfl ha.isSl zN ?_
 refine q_move (.int .i64 ((0 :Nat):Int)) rfl zN ?_
 refine lw_nil ?_
 refine wp_block ?_
 refine c_loop (S := Nat) (fun (k : Nat) => ([(13,(.int .i64 ((k :Nat):Int))),(0,va),(1,vb),(5,v1),(12,(.int .i64 ((a.length :Nat):Int)))] : List (Nat × Value))) (fun (k : Nat) (W : World) => Ext w W ∧ Fr (owL rI 2) w.heap.size W.heap.size W.heap v1 (mix k (proS a b) (List.replicate a.length 0)) ∧ k ≤ a.length) (fun (k : Nat) => a.length - k) 0 ⟨rfl,rfl,rfl,rfl,rfl,trivial⟩ ⟨hE1,(by rw [mix_zero]; exact hO1.up o1),(by first | omega | assumption | (simp; done) | (simp; omega))⟩ ?_
 clear hE0 hO1 hz1 hX1 hzs1 hE1
 rintro k ρ2 w2 ⟨hE2,hL2_0,hp2_0⟩
 have hzs2 : w.heap.size ≤ w2.heap.size := hE2.size
 have hml := mix_len k (proS a b) (List.replicate a.length 0) (by simp)
 rw [List.length_replicate] at hml
 have hga := allN_get hqa k
 refine wp_seq ?_
 refine wp_plain _ [0] rfl ?_
 by_cases hc3 : ((k :Nat):Int) < ((a.length :Nat):Int)
 ·
  refine q_lss true rfl rfl (decide_eq_true hc3) zN ?_
  refine lw_nil ?_
  refine wp_seq ?_
  refine c_cond_t rfl ?_
  refine wp_skip ?_
  refine wp_seq ?_
  refine wp_block ?_
  refine wp_seq ?_
  refine wp_plain _ [0,0] rfl ?_
  refine q_move (.int .i64 ((k :Nat):Int)) rfl zN ?_
  refine q_assign (.int .i64 ((k :Nat):Int)) rfl zN ?_
  refine lw_nil ?_
  refine wp_seq ?_
  refine wp_plain _ [0] rfl ?_
  refine q_assign (.int .i64 ((0 :Nat):Int)) rfl zN ?_
  refine lw_nil ?_
  refine wp_block ?_
  refine c_loop (S := Nat) (fun (i : Nat) => ([(7,(.int .i64 ((i :Nat):Int))),(0,va),(1,vb),(5,v1),(6,(.int .i64 ((k :Nat):Int))),(12,(.int .i64 ((a.length :Nat):Int))),(13,(.int .i64 ((k :Nat):Int)))] : List (Nat × Value))) (fun (i : Nat) (W : World) => Ext w W ∧ Fr (owL rI 2) w.heap.size W.heap.size W.heap v1 ((mix k (proS a b) (List.replicate a.length 0)).set k (prk a b k i)) ∧ i ≤ k + 1) (fun (i : Nat) => k + 1 - i) 0 ⟨rfl,rfl,rfl,rfl,rfl,rfl,rfl,trivial⟩ ⟨hE2,(by have h := hL2_0.up o1; rw [← mix_rep0 (T := proS a b) (by simp) (by omega)] at h; exact h),(by first | omega | assumption | (simp; done) | (simp; omega))⟩ ?_
  clear hL2_0 hE2 hzs2
  rintro i ρ4 w4 ⟨hE4,hL4_0,hp4_0⟩
  have hzs4 : w.heap.size ≤ w4.heap.size := hE4.size
  have hms : ((mix k (proS a b) (List.replicate a.length 0)).set k (prk a b k i)).length = a.length := by rw [List.length_set]; exact hml
  refine wp_seq ?_
  refine wp_seq ?_
  refine wp_plain _ [0,0,0] rfl ?_
  refine q_move (.int .i64 ((i :Nat):Int)) rfl zN ?_
  refine q_move (.int .i64 ((k :Nat):Int)) rfl zN ?_
  by_cases hc5 : ((i :Nat):Int) ≤ ((k :Nat):Int)
  ·
   refine q_leq true rfl rfl (decide_eq_true hc5) zN ?_
   refine lw_nil ?_
   refine c_cond_t rfl ?_
   refine wp_skip ?_
   refine wp_seq ?_
   refine wp_block ?_
   refine wp_draw _ [0,0,0,0,0,1,0,0,0,1,0,0,0,0,0,1,0,0,0,0,4] mixed (by kernel_rfl) ?_
   refine q_move v1 rfl zN ?_
   refine q_move (.int .i64 ((k :Nat):Int)) rfl zN ?_
   refine q_move v1 rfl zN ?_
   refine q_move (.int .i64 ((k :Nat):Int)) rfl zN ?_
   refine q_idx (v := v1) k u25 ti2 rfl rfl hL4_0.isSl rfl (by first | omega | assumption | (simp; done) | (simp; omega)) zN ?_
   refine q_load (p := eptr v1 k 1) (.inl rfl) (.int .i64 (((mix k (proS a b) (List.replicate a.length 0)).set k (prk a b k i)).getD k 0)) one2 rfl (hL4_0.rd1.getI (by first | omega | assumption | (simp; done) | (simp; omega))).1 zN ?_
   refine q_move va rfl zN ?_
   refine q_move (.int .i64 ((i :Nat):Int)) rfl zN ?_
   refine q_idx (v := va) i u25 ti2 rfl rfl ha.isSl rfl (by first | omega | assumption | (simp; done) | (simp; omega)) zN ?_
   refine q_load (p := eptr va i 1) (.inl rfl) (.int .i64 (a.getD i 0)) one2 rfl (ldH_ext hE4.drew (ha.getI (by first | omega | assumption | (simp; done) | (simp; omega))).1) zN ?_
   refine q_move vb rfl zN ?_
   refine q_move (.int .i64 ((k :Nat):Int)) rfl zN ?_
   refine q_move (.int .i64 ((i :Nat):Int)) rfl zN ?_
   refine q_sub ((k - i :Nat):Int) rfl rfl (w64n (by omega) (by omega)) zN ?_
   refine q_idx (v := vb) (k - i) u25 ti2 rfl rfl hb.isSl rfl (by first | omega | assumption | (simp; done) | (simp; omega)) zN ?_
   refine q_load (p := eptr vb (k - i) 1) (.inl rfl) (.int .i64 (b.getD (k - i) 0)) one2 rfl (ldH_ext hE4.drew (hb.getI (by first | omega | assumption | (simp; done) | (simp; omega))).1) zN ?_
   refine q_mul (wr ((a.getD i 0) * (b.getD (k - i) 0))) rfl rfl rfl zN ?_
   refine q_add (wr ((((mix k (proS a b) (List.replicate a.length 0)).set k (prk a b k i)).getD k 0) + (wr ((a.getD i 0) * (b.getD (k - i) 0))))) rfl rfl rfl zN ?_
   refine q_rem (md (prk a b k i + a.getD i 0 * b.getD (k - i) 0)) rfl rfl (by decide) (by rw [getD_set _ _ _ _ _ (by omega),if_pos rfl]; exact dot_eq (prk_num _ _ _ _) (allN_get hqa _) (allN_get hqb _)) zN ?_
   refine q_idx (v := v1) k u25 ti2 rfl rfl hL4_0.isSl rfl (by first | omega | assumption | (simp; done) | (simp; omega)) zN ?_
   refine e_setI (v := v1) (w := w4.drew) sz2 rfl rfl (md_rng _) hL4_0 (by first | omega | assumption | (simp; done) | (simp; omega)) zN ?_
   intro w6 F6 hC6 hz6 hF6 hO6
   replace hC6 := hC6.of_drew
   have hE6 : Ext w w6 := hC6.below hE4 (fun c hc => Nat.le_trans (Nat.le_refl _) (hF6 c hc).1) hE4.size
   have hzs6:=hC6.size
   refine lw_nil ?_
   refine wp_plain _ [0,0,0] rfl ?_
   refine q_move (.int .i64 ((i :Nat):Int)) rfl zN ?_
   refine q_add ((i + 1 :Nat):Int) rfl rfl (w64n (by omega) (by first | omega | assumption | (simp; done) | (simp; omega))) zN ?_
   refine q_assign (.int .i64 ((i + 1 :Nat):Int)) rfl zN ?_
   refine lw_nil ?_
   exact ⟨(i + 1),_,rfl,⟨rfl,rfl,rfl,rfl,rfl,rfl,rfl,trivial⟩,⟨hE6,(by have h := hO6.up o1; rw [List.set_set] at h; exact h),(by first | omega | assumption | (simp; done) | (simp; omega))⟩,by first | omega | (dsimp only; omega)⟩
  ·
   refine q_leq false rfl rfl (decide_eq_false hc5) zN ?_
   refine lw_nil ?_
   refine c_cond_f rfl ?_
   refine wp_exit ?_
   refine t_exit ?_
   refine t_exit ?_
   refine c_exit_here ?_
   refine wp_plain _ [0,0] rfl ?_
   refine q_add ((k + 1 :Nat):Int) rfl rfl (w64n (by omega) (by first | omega | assumption | (simp; done) | (simp; omega))) zN ?_
   refine q_move (.int .i64 ((k + 1 :Nat):Int)) rfl zN ?_
   refine lw_nil ?_
   exact ⟨(k + 1),_,rfl,⟨rfl,rfl,rfl,rfl,rfl,trivial⟩,⟨hE4,(by have h := hL4_0.up o1; rw [show i = k + 1 from by omega] at h; unfold proS; rw [mix_tab (by simp) (by omega)]; exact h),(by first | omega | assumption | (simp; done) | (simp; omega))⟩,by first | omega | (dsimp only; omega)⟩
 ·
  refine q_lss false rfl rfl (decide_eq_false hc3) zN ?_
  refine lw_nil ?_
  refine wp_seq ?_
  refine c_cond_f rfl ?_
  refine wp_exit ?_
  refine t_exit ?_
  refine t_exit ?_
  refine c_exit_here ?_
  refine wp_seq ?_
  refine wp_plain _ [0,0] rfl ?_
  refine q_move v1 rfl zN ?_
  refine q_assign v1 rfl zN ?_
  refine lw_nil ?_
  refine wp_ret ?_
  exact post_ret [4] rfl v1 rfl ⟨v1,rfl,hE2,(by have h := hL2_0.up o1; rwa [mix_all (by simp) (by simp; omega)] at h)⟩
set_option maxHeartbeats 4000000 in
set_option maxRecDepth 100000 in
theorem c_impl_quotient (w : World) (va : Value) (a : List Int) (vb : Value) (b : List Int) (ha : Rd (rdL rI) w.heap va a) (hb : Rd (rdL rI) w.heap vb b) (hla : a.length ≤ 1000000000000) (hl : a.length ≤ b.length) (h1 : 0 < b.length) (hqa : allN a = true) (hqb : allN b = true) :
  Calls Tryz.prog 162 #[va,vb] w (fun e w' => ∃ v0 : Value,e = .returned (v0) ∧ Ext w w' ∧ Fr (owL rI 2) w.heap.size w'.heap.size w'.heap v0 (quoS a b)) := by
 refine calls_mk [va,vb] 53 Tryz.func162 rfl rfl (by simp) ?_
 have hE0 : Ext w w := Ext.refl w
 have hl_va := ha.lenle
 have hl_vb := hb.lenle
 refine wp_seq ?_
 refine wp_plain _ [0] rfl ?_
 refine q_assign (.slice none 0 0) rfl zN ?_
 refine lw_nil ?_
 refine wp_seq ?_
 refine wp_draw _ [0,0,3,0,0,1,0,0,0] mixed (by kernel_rfl) ?_
 refine q_move va rfl zN ?_
 refine q_len (v := va) u25 rfl ha.isSl zN ?_
 refine r_make (n := a.length) u25 ti2 rfl rfl rfl (by first | omega | assumption | (simp; done) | (simp; omega)) zN ?_
 intro v1 w1 hX1 hz1 hO1
 replace hX1 := hX1.of_drew
 have hzs1:=hX1.size
 have hE1:=hE0.trans hX1
 refine q_move vb rfl zN ?_
 refine q_idx (v := vb) 0 u25 ti2 rfl rfl hb.isSl rfl (by first | omega | assumption | (simp; done) | (simp; omega)) zN ?_
 refine q_load (p := eptr vb 0 1) (.inl rfl) (.int .i64 (b.getD 0 0)) one2 rfl (ldH_ext hE0.drew (hb.getI (by first | omega | assumption | (simp; done) | (simp; omega))).1) zN ?_
 refine lw_callq 133 [] [] [(.int .i64 (b.getD 0 0))] rfl rfl cf133 zN (.int .i64 (inv (b.getD 0 0))) (fun wq => c_impl_inverse wq _ (hb.getI (by first | omega | assumption | (simp; done) | (simp; omega))).2) ?_
 refine q_assign v1 rfl zN ?_
 refine q_assign (.int .i64 (inv (b.getD 0 0))) rfl zN ?_
 refine lw_nil ?_
 refine wp_seq ?_
 refine wp_seq ?_
 refine wp_plain _ [0,0,0] rfl ?_
 refine q_move va rfl zN ?_
 refine q_len (v := va) u25 rfl ha.isSl zN ?_
 refine q_move (.int .i64 ((0 :Nat):Int)) rfl zN ?_
 refine lw_nil ?_
 refine wp_block ?_
 refine c_loop (S := Nat) (fun (k : Nat) => ([(19,(.int .i64 ((k :Nat):Int))),(0,va),(1,vb),(5,v1),(6,(.int .i64 (inv (b.getD 0 0)))),(18,(.int .i64 ((a.length :Nat):Int)))] : List (Nat × Value))) (fun (k : Nat) (W : World) => Ext w W ∧ Fr (owL rI 2) w.heap.size W.heap.size W.heap v1 (mix k (quoS a b) (List.replicate a.length 0)) ∧ k ≤ a.length) (fun (k : Nat) => a.length - k) 0 ⟨rfl,rfl,rfl,rfl,rfl,rfl,trivial⟩ ⟨hE1,(by rw [mix_zero]; exact hO1.up o1),(by first | omega | assumption | (simp; done) | (simp; omega))⟩ ?_
 clear hE0 hO1 hz1 hX1 hzs1 hE1
 rintro k ρ3 w3 ⟨hE3,hL3_0,hp3_0⟩
 have hzs3 : w.heap.size ≤ w3.heap.size := hE3.size
 have hml := mix_len k (quoS a b) (List.replicate a.length 0) (by simp)
 rw [List.length_replicate] at hml
 have hga := allN_get hqa k
 refine wp_seq ?_
 refine wp_plain _ [0] rfl ?_
 by_cases hc4 : ((k :Nat):Int) < ((a.length :Nat):Int)
 ·
  refine q_lss true rfl rfl (decide_eq_true hc4) zN ?_
  refine lw_nil ?_
  refine wp_seq ?_
  refine c_cond_t rfl ?_
  refine wp_skip ?_
  refine wp_seq ?_
  refine wp_block ?_
  refine wp_seq ?_
  refine wp_plain _ [0,0] rfl ?_
  refine q_move (.int .i64 ((k :Nat):Int)) rfl zN ?_
  refine q_assign (.int .i64 ((k :Nat):Int)) rfl zN ?_
  refine lw_nil ?_
  refine wp_seq ?_
  refine wp_plain _ [0,0,0,2,0] rfl ?_
  refine q_move va rfl zN ?_
  refine q_move (.int .i64 ((k :Nat):Int)) rfl zN ?_
  refine q_idx (v := va) k u25 ti2 rfl rfl ha.isSl rfl (by first | omega | assumption | (simp; done) | (simp; omega)) zN ?_
  refine q_load (p := eptr va k 1) (.inr rfl) (.int .i64 (a.getD k 0)) one2 rfl (ldH_ext hE3 (ha.getI (by first | omega | assumption | (simp; done) | (simp; omega))).1) zN ?_
  refine q_assign (.int .i64 (a.getD k 0)) rfl zN ?_
  refine lw_nil ?_
  refine wp_seq ?_
  refine wp_seq ?_
  refine wp_plain _ [0] rfl ?_
  refine q_assign (.int .i64 ((0 :Nat):Int)) rfl zN ?_
  refine lw_nil ?_
  refine wp_block ?_
  refine c_loop (S := Nat × Int) (fun (⟨i,t⟩ : Nat × Int) => ([(8,(.int .i64 t)),(9,(.int .i64 ((i :Nat):Int))),(0,va),(1,vb),(5,v1),(6,(.int .i64 (inv (b.getD 0 0)))),(7,(.int .i64 ((k :Nat):Int))),(18,(.int .i64 ((a.length :Nat):Int))),(19,(.int .i64 ((k :Nat):Int)))] : List (Nat × Value))) (fun (⟨i,t⟩ : Nat × Int) (W : World) => Ext w W ∧ Fr (owL rI 2) w.heap.size w3.heap.size W.heap v1 (mix k (quoS a b) (List.replicate a.length 0)) ∧ i ≤ k ∧ t = qrk a b (quoS a b) k i ∧ (0 ≤ t ∧ t < 1000003)) (fun (⟨i,t⟩ : Nat × Int) => k - i) (0,(a.getD k 0)) ⟨rfl,rfl,rfl,rfl,rfl,rfl,rfl,rfl,rfl,trivial⟩ ⟨hE3,hL3_0,(by first | omega | assumption | (simp; done) | (simp; omega)),(by rfl),(by exact allN_get hqa k)⟩ ?_
  clear hL3_0
  rintro ⟨i,t⟩ ρ5 w5 ⟨hE5,hL5_0,hp5_0,ht,htr⟩
  have hzs5 : w.heap.size ≤ w5.heap.size := hE5.size
  refine wp_seq ?_
  refine wp_seq ?_
  refine wp_plain _ [0,0,0] rfl ?_
  refine q_move (.int .i64 ((i :Nat):Int)) rfl zN ?_
  refine q_move (.int .i64 ((k :Nat):Int)) rfl zN ?_
  by_cases hc6 : ((i :Nat):Int) < ((k :Nat):Int)
  ·
   refine q_lss true rfl rfl (decide_eq_true hc6) zN ?_
   refine lw_nil ?_
   refine c_cond_t rfl ?_
   refine wp_skip ?_
   refine wp_seq ?_
   refine wp_block ?_
   refine wp_draw _ [0,0,0,0,1,0,0,0,0,0,1,0,0,0] mixed (by kernel_rfl) ?_
   refine q_move (.int .i64 t) rfl zN ?_
   refine q_move v1 rfl zN ?_
   refine q_move (.int .i64 ((i :Nat):Int)) rfl zN ?_
   refine q_idx (v := v1) i u25 ti2 rfl rfl hL5_0.isSl rfl (by first | omega | assumption | (simp; done) | (simp; omega)) zN ?_
   refine q_load (p := eptr v1 i 1) (.inl rfl) (.int .i64 ((mix k (quoS a b) (List.replicate a.length 0)).getD i 0)) one2 rfl (hL5_0.rd1.getI (by first | omega | assumption | (simp; done) | (simp; omega))).1 zN ?_
   refine q_move vb rfl zN ?_
   refine q_move (.int .i64 ((k :Nat):Int)) rfl zN ?_
   refine q_move (.int .i64 ((i :Nat):Int)) rfl zN ?_
   refine q_sub ((k - i :Nat):Int) rfl rfl (w64n (by omega) (by omega)) zN ?_
   refine q_idx (v := vb) (k - i) u25 ti2 rfl rfl hb.isSl rfl (by first | omega | assumption | (simp; done) | (simp; omega)) zN ?_
   refine q_load (p := eptr vb (k - i) 1) (.inl rfl) (.int .i64 (b.getD (k - i) 0)) one2 rfl (ldH_ext hE5.drew (hb.getI (by first | omega | assumption | (simp; done) | (simp; omega))).1) zN ?_
   refine q_mul (wr (((mix k (quoS a b) (List.replicate a.length 0)).getD i 0) * (b.getD (k - i) 0))) rfl rfl rfl zN ?_
   refine lw_callq 169 [] [] [(.int .i64 t),(.int .i64 (wr (((mix k (quoS a b) (List.replicate a.length 0)).getD i 0) * (b.getD (k - i) 0))))] rfl rfl cf169 zN (.int .i64 (md (t - (wr (((mix k (quoS a b) (List.replicate a.length 0)).getD i 0) * (b.getD (k - i) 0)))))) (fun wq => c_impl_minus wq _ _ (by omega) (wr_rng _)) ?_
   refine q_assign (.int .i64 (md (t - (wr (((mix k (quoS a b) (List.replicate a.length 0)).getD i 0) * (b.getD (k - i) 0)))))) rfl zN ?_
   refine lw_nil ?_
   refine wp_plain _ [0,0,0] rfl ?_
   refine q_move (.int .i64 ((i :Nat):Int)) rfl zN ?_
   refine q_add ((i + 1 :Nat):Int) rfl rfl (w64n (by omega) (by first | omega | assumption | (simp; done) | (simp; omega))) zN ?_
   refine q_assign (.int .i64 ((i + 1 :Nat):Int)) rfl zN ?_
   refine lw_nil ?_
   exact ⟨((i + 1),(md (t - (wr (((mix k (quoS a b) (List.replicate a.length 0)).getD i 0) * (b.getD (k - i) 0)))))),_,rfl,⟨rfl,rfl,rfl,rfl,rfl,rfl,rfl,rfl,rfl,trivial⟩,⟨hE5.drew,hL5_0,(by first | omega | assumption | (simp; done) | (simp; omega)),(by rw [ht,mix_lt 0 (by omega) (by simp; omega)]; exact quo_step (quoS_num a b) hqb),(by exact md_num _)⟩,by first | omega | (dsimp only; omega)⟩
  ·
   refine q_lss false rfl rfl (decide_eq_false hc6) zN ?_
   refine lw_nil ?_
   refine c_cond_f rfl ?_
   refine wp_exit ?_
   refine t_exit ?_
   refine t_exit ?_
   refine c_exit_here ?_
   refine wp_plain _ [0,0,0,0,0,0,0,4] rfl ?_
   refine q_move v1 rfl zN ?_
   refine q_move (.int .i64 ((k :Nat):Int)) rfl zN ?_
   refine q_move (.int .i64 t) rfl zN ?_
   refine q_move (.int .i64 (inv (b.getD 0 0))) rfl zN ?_
   refine q_mul (wr (t * (inv (b.getD 0 0)))) rfl rfl rfl zN ?_
   refine q_rem (md (t * inv (b.getD 0 0))) rfl rfl (by decide) (nm_eq htr (inv_num _)) zN ?_
   refine q_idx (v := v1) k u25 ti2 rfl rfl hL5_0.isSl rfl (by first | omega | assumption | (simp; done) | (simp; omega)) zN ?_
   refine e_setI (v := v1) (w := w5) sz2 rfl rfl (md_rng _) hL5_0 (by first | omega | assumption | (simp; done) | (simp; omega)) zN ?_
   intro w8 F8 hC8 hz8 hF8 hO8
   have hE8 : Ext w w8 := hC8.below hE5 (fun c hc => Nat.le_trans (Nat.le_refl _) (hF8 c hc).1) hE5.size
   have hzs8:=hC8.size
   refine lw_nil ?_
   refine wp_plain _ [0,0] rfl ?_
   refine q_add ((k + 1 :Nat):Int) rfl rfl (w64n (by omega) (by first | omega | assumption | (simp; done) | (simp; omega))) zN ?_
   refine q_move (.int .i64 ((k + 1 :Nat):Int)) rfl zN ?_
   refine lw_nil ?_
   exact ⟨(k + 1),_,rfl,⟨rfl,rfl,rfl,rfl,rfl,rfl,trivial⟩,⟨hE8,(by have h := hO8.up o1; rw [ht,show i = k from by omega] at h; rw [← quo_set (by omega) (by simp)]; exact h),(by first | omega | assumption | (simp; done) | (simp; omega))⟩,by first | omega | (dsimp only; omega)⟩
 ·
  refine q_lss false rfl rfl (decide_eq_false hc4) zN ?_
  refine lw_nil ?_
  refine wp_seq ?_
  refine c_cond_f rfl ?_
  refine wp_exit ?_
  refine t_exit ?_
  refine t_exit ?_
  refine c_exit_here ?_
  refine wp_seq ?_
  refine wp_plain _ [0,0] rfl ?_
  refine q_move v1 rfl zN ?_
  refine q_assign v1 rfl zN ?_
  refine lw_nil ?_
  refine wp_ret ?_
  exact post_ret [4] rfl v1 rfl ⟨v1,rfl,hE3,(by have h := hL3_0.up o1; rwa [mix_all (by simp) (by simp; omega)] at h)⟩
set_option maxHeartbeats 4000000 in
set_option maxRecDepth 100000 in
theorem c_impl_singles (w : World) (va : Value) (a : List Int) (ha : Rd (rdL rI) w.heap va a) (hla : a.length ≤ 1000000000000) :
  Calls Tryz.prog 124 #[va] w (fun e w' => ∃ v0 : Value,e = .returned (v0) ∧ Ext w w' ∧ Fr (owL (owL rI 2) 25) w.heap.size w'.heap.size w'.heap v0 (sing a)) := by
 refine calls_mk [va] 20 Tryz.func124 rfl rfl (by simp) ?_
 have hE0 : Ext w w := Ext.refl w
 have hl_va := ha.lenle
 refine wp_seq ?_
 refine wp_plain _ [0] rfl ?_
 refine q_assign (.slice none 0 0) rfl zN ?_
 refine lw_nil ?_
 refine wp_seq ?_
 refine wp_plain _ [3,0] rfl ?_
 refine r_nil (owL rI 2) o1 u27 ti25 zN ?_
 intro v1 w1 hX1 hz1 hO1
 have hzs1:=hX1.size
 have hE1:=hE0.trans hX1
 refine q_assign v1 rfl zN ?_
 refine lw_nil ?_
 refine wp_seq ?_
 refine wp_seq ?_
 refine wp_plain _ [0,0,0] rfl ?_
 refine q_move va rfl zN ?_
 refine q_len (v := va) u25 rfl ha.isSl zN ?_
 refine q_move (.int .i64 ((0 :Nat):Int)) rfl zN ?_
 refine lw_nil ?_
 refine wp_block ?_
 refine c_loop (S := Nat × Value) (fun (⟨k,vo⟩ : Nat × Value) => ([(3,vo),(9,(.int .i64 ((k :Nat):Int))),(7,va),(8,(.int .i64 ((a.length :Nat):Int)))] : List (Nat × Value))) (fun (⟨k,vo⟩ : Nat × Value) (W : World) => Ext w W ∧ Fr (owL (owL rI 2) 25) w.heap.size W.heap.size W.heap vo ((a.take k).map (fun x => [x])) ∧ k ≤ a.length) (fun (⟨k,vo⟩ : Nat × Value) => a.length - k) (0,v1) ⟨rfl,rfl,rfl,rfl,trivial⟩ ⟨hE1,hO1.up o2,(by first | omega | assumption | (simp; done) | (simp; omega))⟩ ?_
 clear hE0 hO1 hz1 hX1 hzs1 hE1
 rintro ⟨k,vo⟩ ρ2 w2 ⟨hE2,hL2_0,hp2_0⟩
 have hzs2 : w.heap.size ≤ w2.heap.size := hE2.size
 refine wp_seq ?_
 refine wp_plain _ [0] rfl ?_
 by_cases hc3 : ((k :Nat):Int) < ((a.length :Nat):Int)
 ·
  refine q_lss true rfl rfl (decide_eq_true hc3) zN ?_
  refine lw_nil ?_
  refine wp_seq ?_
  refine c_cond_t rfl ?_
  refine wp_skip ?_
  refine wp_seq ?_
  refine wp_block ?_
  refine wp_seq ?_
  refine wp_plain _ [0,2,0] rfl ?_
  refine q_idx (v := va) k u25 ti2 rfl rfl ha.isSl rfl (by first | omega | assumption | (simp; done) | (simp; omega)) zN ?_
  refine q_load (p := eptr va k 1) (.inr rfl) (.int .i64 (a.getD k 0)) one2 rfl (ldH_ext hE2 (ha.getI (by first | omega | assumption | (simp; done) | (simp; omega))).1) zN ?_
  refine q_assign (.int .i64 (a.getD k 0)) rfl zN ?_
  refine lw_nil ?_
  refine wp_plain _ [0,0,3,3,4,0] rfl ?_
  refine q_move vo rfl zN ?_
  refine q_move (.int .i64 (a.getD k 0)) rfl zN ?_
  refine r_one (u := (.int .i64 (a.getD k 0))) (B := w2.heap.size) good_rI u25 ti2 rfl rfl (frI w2.heap.size w2.heap.size _ _ (ha.getI (by first | omega | assumption | (simp; done) | (simp; omega))).2) (Nat.le_refl _) zN ?_
  intro v4 w4 hX4 hz4 hO4
  have hzs4:=hX4.size
  have hE4:=hE2.trans hX4
  have hL2_0x4 := hL2_0.ext (o2) hX4
  refine r_one (u := v4) (B := w2.heap.size) o1 u27 ti25 rfl rfl hO4 (by first | exact Nat.le_refl _ | omega) zN ?_
  intro v5 w5 hX5 hz5 hO5
  have hzs5:=hX5.size
  have hE5:=hE4.trans hX5
  have hL2_0x5 := hL2_0x4.ext (o2) hX5
  refine e_appF o1 (v := vo) (a := v5) u27 ti25 rfl rfl rfl hL2_0x5 hE5.size hO5 (by omega) hE2.size (by first | omega | assumption | (simp; done) | (simp; omega)) (by unfold maxLen; first | omega | assumption | (simp; done) | (simp; omega)) zN ?_
  intro v6 w6 F6 hC6 hF6 hO6
  have hE6 : Ext w w6 := hC6.below hE5 (fun c hc => Nat.le_trans (Nat.le_refl _) (hF6 c hc).1) hE5.size
  have hzs6:=hC6.size
  refine q_assign v6 rfl zN ?_
  refine lw_nil ?_
  refine wp_plain _ [0,0] rfl ?_
  refine q_add ((k + 1 :Nat):Int) rfl rfl (w64n (by omega) (by first | omega | assumption | (simp; done) | (simp; omega))) zN ?_
  refine q_move (.int .i64 ((k + 1 :Nat):Int)) rfl zN ?_
  refine lw_nil ?_
  exact ⟨((k + 1),v6),_,rfl,⟨rfl,rfl,rfl,rfl,trivial⟩,⟨hE6,(by rw [map_snoc 0 (by omega)]; exact hO6.up o2),(by first | omega | assumption | (simp; done) | (simp; omega))⟩,by first | omega | (dsimp only; omega)⟩
 ·
  refine q_lss false rfl rfl (decide_eq_false hc3) zN ?_
  refine lw_nil ?_
  refine wp_seq ?_
  refine c_cond_f rfl ?_
  refine wp_exit ?_
  refine t_exit ?_
  refine t_exit ?_
  refine c_exit_here ?_
  refine wp_seq ?_
  refine wp_plain _ [0,0] rfl ?_
  refine q_move vo rfl zN ?_
  refine q_assign vo rfl zN ?_
  refine lw_nil ?_
  refine wp_ret ?_
  exact post_ret [2] rfl vo rfl ⟨vo,rfl,hE2,(by have h := hL2_0.up o2; rwa [List.take_of_length_le (by omega)] at h)⟩
set_option maxHeartbeats 4000000 in
set_option maxRecDepth 100000 in
theorem c_impl_firsts (w : World) (va : Value) (a : List (List Int)) (ha : Rd (rdL (rdL rI)) w.heap va a) (hla : a.length ≤ 1000000000000) (h1 : ∀ k,k < a.length → 0 < (a.getD k []).length) :
  Calls Tryz.prog 55 #[va] w (fun e w' => ∃ v0 : Value,e = .returned (v0) ∧ Ext w w' ∧ Fr (owL rI 2) w.heap.size w'.heap.size w'.heap v0 (a.map (fun s => s.getD 0 0))) := by
 refine calls_mk [va] 21 Tryz.func55 rfl rfl (by simp) ?_
 have hE0 : Ext w w := Ext.refl w
 have hl_va := ha.lenle
 refine wp_seq ?_
 refine wp_plain _ [0] rfl ?_
 refine q_assign (.slice none 0 0) rfl zN ?_
 refine lw_nil ?_
 refine wp_seq ?_
 refine wp_plain _ [3,0] rfl ?_
 refine r_nil (rI) good_rI u25 ti2 zN ?_
 intro v1 w1 hX1 hz1 hO1
 have hzs1:=hX1.size
 have hE1:=hE0.trans hX1
 refine q_assign v1 rfl zN ?_
 refine lw_nil ?_
 refine wp_seq ?_
 refine wp_seq ?_
 refine wp_plain _ [0,0,0] rfl ?_
 refine q_move va rfl zN ?_
 refine q_len (v := va) u27 rfl ha.isSl zN ?_
 refine q_move (.int .i64 ((0 :Nat):Int)) rfl zN ?_
 refine lw_nil ?_
 refine wp_block ?_
 refine c_loop (S := Nat × Value) (fun (⟨k,vo⟩ : Nat × Value) => ([(3,vo),(9,(.int .i64 ((k :Nat):Int))),(7,va),(8,(.int .i64 ((a.length :Nat):Int)))] : List (Nat × Value))) (fun (⟨k,vo⟩ : Nat × Value) (W : World) => Ext w W ∧ Fr (owL rI 2) w.heap.size W.heap.size W.heap vo ((a.take k).map (fun s => s.getD 0 0)) ∧ k ≤ a.length) (fun (⟨k,vo⟩ : Nat × Value) => a.length - k) (0,v1) ⟨rfl,rfl,rfl,rfl,trivial⟩ ⟨hE1,hO1.up o1,(by first | omega | assumption | (simp; done) | (simp; omega))⟩ ?_
 clear hE0 hO1 hz1 hX1 hzs1 hE1
 rintro ⟨k,vo⟩ ρ2 w2 ⟨hE2,hL2_0,hp2_0⟩
 have hzs2 : w.heap.size ≤ w2.heap.size := hE2.size
 refine wp_seq ?_
 refine wp_plain _ [0] rfl ?_
 by_cases hc3 : ((k :Nat):Int) < ((a.length :Nat):Int)
 ·
  refine q_lss true rfl rfl (decide_eq_true hc3) zN ?_
  refine lw_nil ?_
  refine wp_seq ?_
  refine c_cond_t rfl ?_
  refine wp_skip ?_
  refine wp_seq ?_
  refine wp_block ?_
  refine wp_seq ?_
  refine wp_plain _ [0,2,0] rfl ?_
  refine q_idx (v := va) k u27 ti25 rfl rfl ha.isSl rfl (by first | omega | assumption | (simp; done) | (simp; omega)) zN ?_
  obtain ⟨ue4,hl4,hd4⟩ := ha.get (k := k) [] (by first | omega | assumption | (simp; done) | (simp; omega))
  have hln4 := hd4.lenle
  refine q_load (p := eptr va k 1) (.inr rfl) ue4 one25 rfl (ldH_ext hE2 hl4) zN ?_
  refine q_assign ue4 rfl zN ?_
  refine lw_nil ?_
  refine wp_plain _ [0,0,0,2,3,4,0] rfl ?_
  have hr1 := h1 k (by omega)
  refine q_move vo rfl zN ?_
  refine q_move ue4 rfl zN ?_
  refine q_idx (v := ue4) 0 u25 ti2 rfl rfl hd4.isSl rfl (by first | omega | assumption | (simp; done) | (simp; omega)) zN ?_
  refine q_load (p := eptr ue4 0 1) (.inr rfl) (.int .i64 ((a.getD k []).getD 0 0)) one2 rfl (ldH_ext hE2 (hd4.getI (by first | omega | assumption | (simp; done) | (simp; omega))).1) zN ?_
  refine r_one (u := (.int .i64 ((a.getD k []).getD 0 0))) (B := w2.heap.size) good_rI u25 ti2 rfl rfl (frI w2.heap.size w2.heap.size _ _ (hd4.getI (by first | omega | assumption | (simp; done) | (simp; omega))).2) (Nat.le_refl _) zN ?_
  intro v5 w5 hX5 hz5 hO5
  have hzs5:=hX5.size
  have hE5:=hE2.trans hX5
  have hL2_0x5 := hL2_0.ext (o1) hX5
  refine e_appI (v := vo) (a := v5) u25 ti2 rfl rfl rfl hL2_0x5 hE5.size hO5.rd1 (by first | omega | assumption | (simp; done) | (simp; omega)) (by unfold maxLen; first | omega | assumption | (simp; done) | (simp; omega)) zN ?_
  intro v6 w6 F6 hC6 hF6 hO6
  have hE6 : Ext w w6 := hC6.below hE5 (fun c hc => Nat.le_trans (Nat.le_refl _) (hF6 c hc).1) hE5.size
  have hzs6:=hC6.size
  have hF7 := hO5.chg (o1) hC6 (fun c hc => by have := hF6 c hc; omega)
  refine q_assign v6 rfl zN ?_
  refine lw_nil ?_
  refine wp_plain _ [0,0] rfl ?_
  refine q_add ((k + 1 :Nat):Int) rfl rfl (w64n (by omega) (by first | omega | assumption | (simp; done) | (simp; omega))) zN ?_
  refine q_move (.int .i64 ((k + 1 :Nat):Int)) rfl zN ?_
  refine lw_nil ?_
  exact ⟨((k + 1),v6),_,rfl,⟨rfl,rfl,rfl,rfl,trivial⟩,⟨hE6,(by rw [map_snoc [] (by omega)]; exact hO6.up o1),(by first | omega | assumption | (simp; done) | (simp; omega))⟩,by first | omega | (dsimp only; omega)⟩
 ·
  refine q_lss false rfl rfl (decide_eq_false hc3) zN ?_
  refine lw_nil ?_
  refine wp_seq ?_
  refine c_cond_f rfl ?_
  refine wp_exit ?_
  refine t_exit ?_
  refine t_exit ?_
  refine c_exit_here ?_
  refine wp_seq ?_
  refine wp_plain _ [0,0] rfl ?_
  refine q_move vo rfl zN ?_
  refine q_assign vo rfl zN ?_
  refine lw_nil ?_
  refine wp_ret ?_
  exact post_ret [2] rfl vo rfl ⟨vo,rfl,hE2,(by have h := hL2_0.up o1; rwa [List.take_of_length_le (by omega)] at h)⟩
end Go.Proofs.YtnofbmdpabcjaaaGreat
namespace Go.Proofs.YtnofbmdpabcjaaaGreat
open Go Go.RowKit
set_option linter.unusedVariables false
set_option linter.unusedSimpArgs false
attribute [local irreducible] LW
/-- What the program does when it evaluates an expression. -/
def PV (F d : Nat) : Prop := ∀ (w : World) (S : List Nat) (g : Nat) (vp : Value) (dp o s0 : Nat) (c0 : Int) (p : List Fn) (ve : Value) (ex : Ex) (vv : Value) (env : List (List Int)) (hS : ∀ b ∈ S, b < w.heap.size) (hgS : g ∈ S) (hB0 : BX w.heap g [vp, .int .i64 ((o : Nat) : Int), .int .i64 ((s0 : Nat) : Int), .int .i64 c0]) (hp : RP S dp w.heap vp p) (ho : o ≤ 12) (hs0 : s0 ≤ 3000) (hc0 : 0 ≤ c0 ∧ c0 ≤ 9) (hex : RX S d w.heap ve ex) (henv : RN S (rdL (rdL rI)) w.heap vv env) (hqenv : CapS vv)
  (hvp : VPr p) (hF : F ≤ p.length) (hwf : wf p ((F : Nat) : Int) ex ((env.length : Nat) : Int) = true) (hse : SrE (o + 1) env) (hdp : env.length + ex.deep ≤ 1000000),
  Calls Tryz.prog 135 #[.pointer (some ⟨g, 0, none⟩), .agg #[.int .i64 ex.kind, .int .i64 ex.num, .int .i64 ex.pick, .int .i64 ex.count, ve], vv] w (fun e w' => ∃ (v : Value) (x : List Int) (s1 : Nat) (c1 : Int), e = .returned v ∧ Chg [g] w w' ∧ BX w'.heap g [vp, .int .i64 ((o : Nat) : Int), .int .i64 ((s1 : Nat) : Int), .int .i64 c1] ∧ RN S (rdL rI) w'.heap v x ∧ Ser1 (o + 1) x ∧ s1 ≤ 3000 ∧ (0 ≤ c1 ∧ c1 ≤ 9) ∧ RelV (go c0 (evE (o + 1) (evC p (o + 1) F) ex env s0)) x s1 c1)
def PA (F d : Nat) : Prop := ∀ (w : World) (S : List Nat) (g : Nat) (vp : Value) (dp o s0 : Nat) (c0 : Int) (p : List Fn) (vl : Value) (l : List Ex) (vv : Value) (env : List (List Int)) (hS : ∀ b ∈ S, b < w.heap.size) (hgS : g ∈ S) (hB0 : BX w.heap g [vp, .int .i64 ((o : Nat) : Int), .int .i64 ((s0 : Nat) : Int), .int .i64 c0]) (hp : RP S dp w.heap vp p) (ho : o ≤ 12) (hs0 : s0 ≤ 3000) (hc0 : 0 ≤ c0 ∧ c0 ≤ 9) (hl : RN S (rdS 5 (rEx d)) w.heap vl l) (henv : RN S (rdL (rdL rI)) w.heap vv env) (hqenv : CapS vv)
  (hvp : VPr p) (hF : F ≤ p.length) (hwf : ∀ k, k < l.length → wf p ((F : Nat) : Int) (l.getD k Ex.zero) ((env.length : Nat) : Int) = true) (hse : SrE (o + 1) env) (hdp : ∀ k, k < l.length → env.length + (l.getD k Ex.zero).deep ≤ 1000000) (hll : l.length ≤ 1000000),
  Calls Tryz.prog 104 #[.pointer (some ⟨g, 0, none⟩), vl, vv] w (fun e w' => ∃ (v : Value) (x : List (List Int)) (s1 : Nat) (c1 : Int), e = .returned v ∧ Chg [g] w w' ∧ BX w'.heap g [vp, .int .i64 ((o : Nat) : Int), .int .i64 ((s1 : Nat) : Int), .int .i64 c1] ∧ RN S (rdL (rdL rI)) w'.heap v x ∧ (CapS v ∧ x.length = l.length ∧ SrE (o + 1) x) ∧ s1 ≤ 3000 ∧ (0 ≤ c1 ∧ c1 ≤ 9) ∧ RelV (go c0 (evs (o + 1) (evC p (o + 1) F) l env s0)) x s1 c1)
set_option maxHeartbeats 4000000 in
set_option maxRecDepth 100000 in
theorem c_slices_Clip_____int64___int64_ (w : World) (v : Value) (n : Nat) (hs : isSl v n) (hcs : CapS v)  :
  Calls Tryz.prog 157 #[v] w (fun e w' => e = .returned (clipV v) ∧ w' = w) := by
 refine calls_mk [v] 9 Tryz.func157 rfl rfl (by simp) ?_
 have hE0 : w = w := rfl
 refine wp_seq ?_
 refine wp_plain _ [0] rfl ?_
 refine q_assign (.slice none 0 0) rfl zN ?_
 refine lw_nil ?_
 refine wp_seq ?_
 refine wp_plain _ [0,0,0,0,0,0,0] rfl ?_
 refine q_move v rfl zN ?_
 refine q_move v rfl zN ?_
 refine q_len (v := v) u27 rfl hs zN ?_
 refine q_move v rfl zN ?_
 refine q_len (v := v) u27 rfl hs zN ?_
 refine q_clip (v := v) u27 ti25 rfl hs rfl rfl hcs zN ?_
 refine q_assign (clipV v) rfl zN ?_
 refine lw_nil ?_
 refine wp_ret ?_
 exact post_ret [2] rfl (clipV v) rfl ⟨rfl,hE0⟩
set_option maxHeartbeats 4000000 in
set_option maxRecDepth 100000 in
theorem c_impl_evaluation_constant (w : World) (S : List Nat) (g : Nat) (vp : Value) (dp o s0 : Nat) (c0 : Int) (p : List Fn) (n : Int) (hS : ∀ b ∈ S,b < w.heap.size) (hgS : g ∈ S) (hB0 : BX w.heap g [vp,.int .i64 ((o :Nat):Int),.int .i64 ((s0 :Nat):Int),.int .i64 c0]) (hp : RP S dp w.heap vp p) (ho : o ≤ 12) (hs0 : s0 ≤ 3000) (hc0 : 0 ≤ c0 ∧ c0 ≤ 9) (_hn : -9223372036854775808 ≤ n ∧ n ≤ 9223372036854775807)  :
  Calls Tryz.prog 156 #[.pointer (some ⟨g,0,none⟩),.int .i64 n] w (fun e w' => ∃ v0 : Value,e = .returned (v0) ∧ Ext w w' ∧ Fr (owL rI 2) w.heap.size w'.heap.size w'.heap v0 (cst (o + 1) n)) := by
 refine calls_mk [.pointer (some ⟨g,0,none⟩),.int .i64 n] 16 Tryz.func156 rfl rfl (by simp) ?_
 have hE0 : Ext w w := Ext.refl w
 have hl_vp := hp.lenle
 unfold maxLen at hl_vp
 have hgl := hB0.lt
 refine wp_seq ?_
 refine wp_plain _ [0] rfl ?_
 refine q_assign (.slice none 0 0) rfl zN ?_
 refine lw_nil ?_
 refine wp_seq ?_
 refine wp_plain _ [0,0,0,2,0,3,0] rfl ?_
 refine q_move (.pointer (some ⟨g,0,none⟩)) rfl zN ?_
 refine q_nil rfl zN ?_
 refine q_fldP (p := (.pointer (some ⟨g,0,none⟩))) (b := g) (o := 0) 1 fd128_1 rfl rfl zN ?_
 refine q_load (p := (padd (.pointer (some ⟨g,0,none⟩)) 1)) (.inr rfl) (.int .i64 ((o :Nat):Int)) one3 rfl (hB0.ldp (i := 1) (by simp)) zN ?_
 refine q_add ((o + 1 :Nat):Int) rfl rfl (w64n (by omega) (by omega)) zN ?_
 refine r_make (n := o + 1) u25 ti2 rfl rfl rfl (by first | omega | assumption | (simp; done) | (simp; omega)) zN ?_
 intro v1 w1 hX1 hz1 hO1
 have hzs1:=hX1.size
 have hE1:=hE0.trans hX1
 have hB0x1 := hB0.ext hX1
 refine q_assign v1 rfl zN ?_
 refine lw_nil ?_
 refine wp_seq ?_
 refine wp_plain _ [0,0,0,4] rfl ?_
 refine q_move v1 rfl zN ?_
 refine q_move (.int .i64 n) rfl zN ?_
 refine q_idx (v := v1) 0 u25 ti2 rfl rfl hO1.isSl rfl (by simp) zN ?_
 refine e_setI (v := v1) (w := w1) sz2 rfl rfl _hn hO1 (by simp) zN ?_
 intro w2 F2 hC2 hz2 hF2 hO2
 have hE2 : Ext w w2 := hC2.below hE1 (fun c hc => Nat.le_trans (Nat.le_refl _) (hF2 c hc).1) hE1.size
 have hzs2:=hC2.size
 have hF3 := hB0x1.chg hC2 (fun hm => by have := hF2 _ hm; omega)
 refine lw_nil ?_
 refine wp_seq ?_
 refine wp_plain _ [0,0] rfl ?_
 refine q_move v1 rfl zN ?_
 refine q_assign v1 rfl zN ?_
 refine lw_nil ?_
 refine wp_ret ?_
 exact post_ret [4] rfl v1 rfl ⟨v1,rfl,hE2,hO2.up o1⟩
set_option maxHeartbeats 4000000 in
set_option maxRecDepth 100000 in
theorem c_impl_evaluation_all (w : World) (S : List Nat) (F : Nat) (g : Nat) (vp : Value) (dp o s0 : Nat) (c0 : Int) (p : List Fn) (dl : Nat) (vl : Value) (l : List Ex) (vv : Value) (env : List (List Int)) (hS : ∀ b ∈ S,b < w.heap.size) (hgS : g ∈ S) (hB0 : BX w.heap g [vp,.int .i64 ((o :Nat):Int),.int .i64 ((s0 :Nat):Int),.int .i64 c0]) (hp : RP S dp w.heap vp p) (ho : o ≤ 12) (hs0 : s0 ≤ 3000) (hc0 : 0 ≤ c0 ∧ c0 ≤ 9) (hl : RN S (rdS 5 (rEx dl)) w.heap vl l) (henv : RN S (rdL (rdL rI)) w.heap vv env) (hqenv : CapS vv) (hvp : VPr p) (hF : F ≤ p.length) (hwf : ∀ k,k < l.length → wf p ((F :Nat):Int) (l.getD k Ex.zero) ((env.length :Nat):Int) = true) (hse : SrE (o + 1) env) (hdp : ∀ k,k < l.length → env.length + (l.getD k Ex.zero).deep ≤ 1000000) (hll : l.length ≤ 1000000) (IHv : ∀ d',d' < dl → PV F d') :
  Calls Tryz.prog 104 #[.pointer (some ⟨g,0,none⟩),vl,vv] w (fun e w' => ∃ (v : Value) (x : List (List Int)) (s1 : Nat) (c1 : Int),e = .returned v ∧ Chg [g] w w' ∧ BX w'.heap g [vp,.int .i64 ((o :Nat):Int),.int .i64 ((s1 :Nat):Int),.int .i64 c1] ∧ RN S (rdL (rdL rI)) w'.heap v x ∧ (CapS v ∧ x.length = l.length ∧ SrE (o + 1) x) ∧ s1 ≤ 3000 ∧ (0 ≤ c1 ∧ c1 ≤ 9) ∧ RelV (go c0 (evs (o + 1) (evC p (o + 1) F) l env s0)) x s1 c1) := by
 refine calls_mk [.pointer (some ⟨g,0,none⟩),vl,vv] 26 Tryz.func104 rfl rfl (by simp) ?_
 have hE0 : Chg [g] w w := Chg.refl [g] w
 have hl_vp := hp.lenle
 unfold maxLen at hl_vp
 have hl_vl := hl.lenle
 unfold maxLen at hl_vl
 have hl_vv := henv.lenL
 unfold maxLen at hl_vv
 have hgl := hB0.lt
 refine wp_seq ?_
 refine wp_plain _ [0] rfl ?_
 refine q_assign (.slice none 0 0) rfl zN ?_
 refine lw_nil ?_
 refine wp_seq ?_
 refine wp_plain _ [3,0] rfl ?_
 refine r_nil rV good_rV u27 ti25 zN ?_
 intro v1 w1 hX1 hz1 hO1
 have hzs1:=hX1.size
 have hE1 : Chg [g] w w1 := hE0.ext hX1
 have hB0x1 := hB0.ext hX1
 obtain ⟨us1,F1,hb1⟩ := Bld.nil (S := S) (hO1.low (B' := w.heap.size) (Nat.le_refl _))
 refine q_assign v1 rfl zN ?_
 refine lw_nil ?_
 refine wp_seq ?_
 refine wp_seq ?_
 refine wp_plain _ [0,0,0] rfl ?_
 refine q_move vl rfl zN ?_
 refine q_len (v := vl) u78 rfl hl.isSl zN ?_
 refine q_move (.int .i64 ((0 :Nat):Int)) rfl zN ?_
 refine lw_nil ?_
 refine wp_block ?_
 refine c_loop (S := Nat × Value × List (List Int) × Nat × Int) (fun (⟨k,vo,xs,s9,c9⟩ : Nat × Value × List (List Int) × Nat × Int) => ([(7,vo),(13,(.int .i64 ((k :Nat):Int))),(0,(.pointer (some ⟨g,0,none⟩))),(2,vv),(11,vl),(12,(.int .i64 ((l.length :Nat):Int)))] : List (Nat × Value))) (fun (⟨k,vo,xs,s9,c9⟩ : Nat × Value × List (List Int) × Nat × Int) (W : World) => Chg [g] w W ∧ BX W.heap g [vp,.int .i64 ((o :Nat):Int),.int .i64 ((s9 :Nat):Int),.int .i64 c9] ∧ k ≤ l.length ∧ BldE 25 S w.heap.size W.heap vo xs ∧ xs.length = k ∧ SrE (o + 1) xs ∧ s9 ≤ 3000 ∧ (0 ≤ c9 ∧ c9 ≤ 9) ∧ RelV (go c0 (evs (o + 1) (evC p (o + 1) F) (l.take k) env s0)) xs s9 c9) (fun (⟨k,vo,xs,s9,c9⟩ : Nat × Value × List (List Int) × Nat × Int) => l.length - k) (0,v1,([] : List (List Int)),s0,c0) ⟨rfl,rfl,rfl,rfl,rfl,rfl,trivial⟩ ⟨hE1,hB0x1,(by first | omega | assumption | (simp; done) | (simp; omega)),(by exact ⟨_,_,by assumption⟩),(by rfl),(by intro j hj; simp at hj),(by omega),(by omega),(by exact all_start _ _ _ _ _ _)⟩ ?_
 clear hE0 hO1 hz1 hX1 hzs1 hE1
 rintro ⟨k,vo,xs,s9,c9⟩ ρ2 w2 ⟨hE2,hL2_0,hp2_0,hbld,hxl,hxs,hp2_4,hp2_5,hrl⟩
 have hzs2 : w.heap.size ≤ w2.heap.size := hE2.size
 have hq3 := hL2_0.lt
 obtain ⟨us5,F5,hbl4⟩ := hbld
 refine wp_seq ?_
 refine wp_plain _ [0] rfl ?_
 by_cases hc6 : ((k :Nat):Int) < ((l.length :Nat):Int)
 ·
  refine q_lss true rfl rfl (decide_eq_true hc6) zN ?_
  refine lw_nil ?_
  refine wp_seq ?_
  refine c_cond_t rfl ?_
  refine wp_skip ?_
  refine wp_seq ?_
  refine wp_block ?_
  refine wp_seq ?_
  refine wp_plain _ [0,2,3,4] rfl ?_
  have hkl : k < l.length := by omega
  refine q_idx (v := vl) k u78 tiS94 rfl rfl hl.isSl rfl (by first | omega | assumption | (simp; done) | (simp; omega)) zN ?_
  obtain ⟨cs7,hr7,hl7⟩ := hl.get (good_rEx dl) Ex.zero (k := k) (by first | omega | assumption | (simp; done) | (simp; omega))
  obtain ⟨dd7,ve7,hd7,rfl,hx7⟩ := RX.of hr7
  have hln7 := hx7.rn.lenle
  unfold maxLen at hln7
  refine q_loadA (p := eptr vl k 5) (.inr rfl) [(.int .i64 ((l.getD k Ex.zero).kind)),(.int .i64 ((l.getD k Ex.zero).num)),(.int .i64 ((l.getD k Ex.zero).pick)),(.int .i64 ((l.getD k Ex.zero).count)),ve7] agg94 rfl (fun w9 hw9 => hl7 w9 ((hE2.sub (subS hgS)).ext hw9)) rfl zN ?_
  have hq9 := hL2_0.lt
  refine r_allocA (z := .agg #[.int .i64 0,.int .i64 0,.int .i64 0,.int .i64 0,.slice none 0 0]) zr94 zN ?_
  intro w8 hX8 hz8 hB8
  have hzs8:=hX8.size
  have hE8 : Chg [g] w w8 := hE2.ext hX8
  have hL2_0x8 := hL2_0.ext hX8
  have hN10 := hbl4.ext hX8
  replace hB8 : BX w8.heap w2.heap.size [(.int .i64 0),(.int .i64 0),(.int .i64 0),(.int .i64 0),(.slice none 0 0)] := hB8
  refine e_setA (vs := [(.int .i64 ((l.getD k Ex.zero).kind)),(.int .i64 ((l.getD k Ex.zero).num)),(.int .i64 ((l.getD k Ex.zero).pick)),(.int .i64 ((l.getD k Ex.zero).count)),ve7]) agg94 rfl rfl hx7.ones hB8 rfl rfl zN ?_
  intro w11 hC11 hz11 hB11
  replace hB11 : BX w11.heap w2.heap.size [(.int .i64 ((l.getD k Ex.zero).kind)),(.int .i64 ((l.getD k Ex.zero).num)),(.int .i64 ((l.getD k Ex.zero).pick)),(.int .i64 ((l.getD k Ex.zero).count)),ve7] := hB11
  have hE11 : Chg [g] w w11 := hE8.fresh hC11 (fun c hc => by have := List.mem_singleton.1 hc; omega)
  have hzs11:=hC11.size
  have hF12 := hL2_0x8.chg hC11 (fun hm => by have := List.mem_singleton.1 hm; omega)
  have hN13 := hbl4.ext (hC11.below hX8 (fun c hc => by have := List.mem_singleton.1 hc; omega) hX8.size)
  refine lw_nil ?_
  refine wp_plain _ [0,0,2,0,4,3,4,0] rfl ?_
  refine q_move vo rfl zN ?_
  refine q_move (.pointer (some ⟨g,0,none⟩)) rfl zN ?_
  refine q_loadA (p := (.pointer (some ⟨w2.heap.size,0,none⟩))) (.inr rfl) [(.int .i64 ((l.getD k Ex.zero).kind)),(.int .i64 ((l.getD k Ex.zero).num)),(.int .i64 ((l.getD k Ex.zero).pick)),(.int .i64 ((l.getD k Ex.zero).count)),ve7] agg94 rfl (fun w9 hw9 => LD.of_box (BX.ext (w := w11) hB11 hw9)) rfl zN ?_
  refine q_move vv rfl zN ?_
  refine lw_callE 135 [] [] [(.pointer (some ⟨g,0,none⟩)),(.agg #[(.int .i64 ((l.getD k Ex.zero).kind)),(.int .i64 ((l.getD k Ex.zero).num)),(.int .i64 ((l.getD k Ex.zero).pick)),(.int .i64 ((l.getD k Ex.zero).count)),ve7]),vv] rfl rfl cf135 zN (IHv dd7 (by omega) _ (S ++ F5) g vp dp (o) (s9) (c9) (p) ve7 (l.getD k Ex.zero) vv (env) (fun b hb => (by rcases List.mem_append.1 hb with hb | hb; (have := hS b hb; omega); exact hN13.lt b hb : b < w11.heap.size)) (List.mem_append_left _ hgS) hF12 ((hp.add (F := F5) (good_rdS (good_rFn dp)) hN13.low).chg (good_rdS (good_rFn dp)) (hE11.sub (subA hgS))) (by omega) (by omega) (by omega) ⟨hx7.rng,((hx7.rn.add (F := F5) (good_rdS (good_rEx dd7)) hN13.low).chg (good_rdS (good_rEx dd7)) (hE11.sub (subA hgS)))⟩ ((henv.add (F := F5) g2 hN13.low).chg g2 (hE11.sub (subA hgS))) hqenv (by exact hvp) (by omega) (by exact hwf k hkl) (by exact hse) (by exact hdp k hkl)) ?_
  rintro e14 w14 ⟨v14,x14,s14,c14,rfl,hC14,hB14,hr14,hse14,hsb14,hcb14,hrl14⟩
  refine ⟨_,rfl,?_⟩
  have hzs14:=hC14.size
  have hE14 : Chg [g] w w14 := hE11.trans hC14
  have hF19 := hB11.chg hC14 (fun hm => by have := List.mem_singleton.1 hm; omega)
  have hF20 := hN13.run hgS (by omega) hC14
  have hsn14 := hse14.1
  replace hr14 : RN (S ++ F5) (rdL rI) w14.heap v14 x14 := hr14
  refine r_one (u := v14) (B := w14.heap.size) good_rV u27 ti25 rfl rfl (frV w14.heap.size w14.heap.size _ (hr14.one1 g1)) (Nat.le_refl _) zN ?_
  intro v21 w21 hX21 hz21 hO21
  have hzs21:=hX21.size
  have hE21 : Chg [g] w w21 := hE14.ext hX21
  have hB14x21 := hB14.ext hX21
  have hF19x21 := hF19.ext hX21
  have hN22 := hF20.ext hX21
  have hN23 := hr14.ext g1 hX21
  refine e_appB (v := vo) (a := v21) (u := v14) u27 ti25 rfl rfl rfl hN22 (by omega) hO21 hN23 (by first | omega | assumption | (simp; done) | (simp; omega)) (by unfold maxLen; first | omega | assumption | (simp; done) | (simp; omega)) zN ?_
  rintro v24 w24 G24 hC24 hF24 ⟨us24,F24,hb24⟩
  have hzs24:=hC24.size
  have hE24 : Chg [g] w w24 := hE21.fresh hC24 (fun c hc => hN22.low c (hF24 c hc))
  have hF25 := hB14x21.chg hC24 (fun hm => by have := hN22.low _ (hF24 _ hm); have := hN22.lt _ (hF24 _ hm); omega)
  refine q_assign v24 rfl zN ?_
  refine lw_nil ?_
  refine wp_plain _ [0,0] rfl ?_
  refine q_add ((k + 1 :Nat):Int) rfl rfl (w64n (by omega) (by first | omega | assumption | (simp; done) | (simp; omega))) zN ?_
  refine q_move (.int .i64 ((k + 1 :Nat):Int)) rfl zN ?_
  refine lw_nil ?_
  exact ⟨((k + 1),v24,(xs ++ [x14]),s14,c14),_,rfl,⟨rfl,rfl,rfl,rfl,rfl,rfl,trivial⟩,⟨hE24,hF25,(by first | omega | assumption | (simp; done) | (simp; omega)),(by exact ⟨_,_,by assumption⟩),(by rw [List.length_append,List.length_singleton,hxl]),(by exact SrE.snoc hxs (by assumption)),(by omega),(by omega),(by exact rel_snoc (by omega) hrl (by assumption))⟩,by first | omega | (dsimp only; omega)⟩
 ·
  refine q_lss false rfl rfl (decide_eq_false hc6) zN ?_
  refine lw_nil ?_
  refine wp_seq ?_
  refine c_cond_f rfl ?_
  refine wp_exit ?_
  refine t_exit ?_
  refine t_exit ?_
  refine c_exit_here ?_
  refine wp_seq ?_
  refine wp_plain _ [0,0] rfl ?_
  refine q_move vo rfl zN ?_
  refine q_assign vo rfl zN ?_
  refine lw_nil ?_
  refine wp_ret ?_
  exact post_ret [6] rfl vo rfl ⟨vo,xs,s9,c9,rfl,hE2,hL2_0,(hbl4.done hS),(by exact ⟨hbl4.cap,by omega,hxs⟩),(by omega),(by omega),(by rw [List.take_of_length_le (by omega)] at hrl; exact hrl)⟩
theorem c_all (F d : Nat) (IH : ∀ d',d' < d → PV F d') : PA F d := by
 intro w S g vp dp o s0 c0 p vl l vv env hS hgS hB0 hp ho hs0 hc0 hl henv hqenv hvp hF hwf hse hdp hll
 exact c_impl_evaluation_all w S F g vp dp o s0 c0 p d vl l vv env hS hgS hB0 hp ho hs0 hc0 hl henv hqenv hvp hF hwf hse hdp hll IH
set_option maxHeartbeats 4000000 in
set_option maxRecDepth 100000 in
theorem c_impl_evaluation_value (w : World) (S : List Nat) (F : Nat) (g : Nat) (vp : Value) (dp o s0 : Nat) (c0 : Int) (p : List Fn) (dex : Nat) (ve : Value) (ex : Ex) (vv : Value) (env : List (List Int)) (hS : ∀ b ∈ S,b < w.heap.size) (hgS : g ∈ S) (hB0 : BX w.heap g [vp,.int .i64 ((o :Nat):Int),.int .i64 ((s0 :Nat):Int),.int .i64 c0]) (hp : RP S dp w.heap vp p) (ho : o ≤ 12) (hs0 : s0 ≤ 3000) (hc0 : 0 ≤ c0 ∧ c0 ≤ 9) (hex : RX S dex w.heap ve ex) (henv : RN S (rdL (rdL rI)) w.heap vv env) (hqenv : CapS vv) (hvp : VPr p) (hF : F ≤ p.length) (hwf : wf p ((F :Nat):Int) ex ((env.length :Nat):Int) = true) (hse : SrE (o + 1) env) (hdp : env.length + ex.deep ≤ 1000000) (IH1 : ∀ F',F' < F → ∀ d,PV F' d) (IH2 : ∀ d',d' < dex → PV F d') :
  Calls Tryz.prog 135 #[.pointer (some ⟨g,0,none⟩),(.agg #[(.int .i64 ex.kind),(.int .i64 ex.num),(.int .i64 ex.pick),(.int .i64 ex.count),ve]),vv] w (fun e w' => ∃ (v : Value) (x : List Int) (s1 : Nat) (c1 : Int),e = .returned v ∧ Chg [g] w w' ∧ BX w'.heap g [vp,.int .i64 ((o :Nat):Int),.int .i64 ((s1 :Nat):Int),.int .i64 c1] ∧ RN S (rdL rI) w'.heap v x ∧ Ser1 (o + 1) x ∧ s1 ≤ 3000 ∧ (0 ≤ c1 ∧ c1 ≤ 9) ∧ RelV (go c0 (evE (o + 1) (evC p (o + 1) F) ex env s0)) x s1 c1) := by
 refine calls_mk [.pointer (some ⟨g,0,none⟩),(.agg #[(.int .i64 ex.kind),(.int .i64 ex.num),(.int .i64 ex.pick),(.int .i64 ex.count),ve]),vv] 210 Tryz.func135 rfl rfl (by simp) ?_
 have hE0 : Chg [g] w w := Chg.refl [g] w
 have hl_vp := hp.lenle
 unfold maxLen at hl_vp
 have hl_ve := hex.rn.lenle
 unfold maxLen at hl_ve
 have hl_vv := henv.lenL
 unfold maxLen at hl_vv
 have hgl := hB0.lt
 have hq0 := wfN_all (wf_node hwf)
 have hdk := deep_kids ex
 refine wp_seq ?_
 refine wp_plain _ [3,0] rfl ?_
 have hq2 := hB0.lt
 refine r_boxA (cs := #[(.int .i64 ex.kind),(.int .i64 ex.num),(.int .i64 ex.pick),(.int .i64 ex.count),ve]) rfl zN ?_
 intro w1 hX1 hz1 hB1
 have hzs1:=hX1.size
 have hE1 : Chg [g] w w1 := hE0.ext hX1
 have hB0x1 := hB0.ext hX1
 replace hB1 : BX w1.heap w.heap.size [(.int .i64 ex.kind),(.int .i64 ex.num),(.int .i64 ex.pick),(.int .i64 ex.count),ve] := hB1
 refine q_assign (.slice none 0 0) rfl zN ?_
 refine lw_nil ?_
 refine wp_seq ?_
 refine wp_seq ?_
 refine wp_plain _ [0,0,0,2,0] rfl ?_
 refine q_move (.pointer (some ⟨g,0,none⟩)) rfl zN ?_
 refine q_nil rfl zN ?_
 refine q_fldP (p := (.pointer (some ⟨g,0,none⟩))) (b := g) (o := 0) 3 fd128_3 rfl rfl zN ?_
 refine q_load (p := (padd (.pointer (some ⟨g,0,none⟩)) 3)) (.inr rfl) (.int .i64 c0) one2 rfl (hB0x1.ldp (i := 3) (by simp)) zN ?_
 by_cases hc3 : c0 ≠ ((0 :Nat):Int)
 ·
  refine q_neq true rfl rfl (decide_eq_true hc3) zN ?_
  refine lw_nil ?_
  refine c_cond_t rfl ?_
  refine wp_seq ?_
  refine wp_plain _ [0,3,0] rfl ?_
  refine q_move (.pointer (some ⟨g,0,none⟩)) rfl zN ?_
  refine lw_call 156 [] [] [(.pointer (some ⟨g,0,none⟩)),(.int .i64 ((0 :Nat):Int))] rfl rfl cf156 zN (c_impl_evaluation_constant _ S g vp dp (o) (s0) (c0) (p) _ (fun b hb => (by have := hS b hb; omega : b < w1.heap.size)) hgS hB0x1 (hp.chg (good_rdS (good_rFn dp)) (hE1.sub (subS hgS))) (by omega) (by omega) (by omega) (by omega)) ?_
  rintro e4 w4 ⟨v4_0,rfl,hX4,hO4_0⟩
  refine ⟨_,rfl,hX4,?_⟩
  have hzs4:=hX4.size
  have hE4 : Chg [g] w w4 := hE1.ext hX4
  have hB0x4 := hB0x1.ext hX4
  have hB1x4 := hB1.ext hX4
  refine q_assign v4_0 rfl zN ?_
  refine lw_nil ?_
  refine wp_ret ?_
  refine t_ret ?_
  exact post_ret [6] rfl v4_0 rfl ⟨v4_0,cst (o + 1) ((0 :Nat):Int),s0,c0,rfl,hE4,hB0x4,(RN.of_fr1 hO4_0 (fun b hb => by have := hS b hb; omega)),(by first | assumption | exact cst_ser (by decide) | exact cst_ser (isN_iff.2 (by omega)) | exact hse _ (by omega) | exact hks _ (by omega) | exact addS_ser hK0 | exact redS_ser hK0 | exact proS_ser hK0 | exact sclS_ser hK0 | exact quoS_ser hK0),(by omega),(by omega),(by first | exact rel_code (by omega) | exact rel_budget (by omega) (by omega) | exact rel_num hc00 hs1 (by omega) | exact rel_var hc00 hs1 (by omega) | exact rel_if0 hc00 hs1 (by omega) (by omega) ‹RelV (go c0 (evE _ _ (ex.kids.getD 0 _) _ _)) _ _ _› (by omega) (by assumption) | exact rel_if1 hc00 hs1 (by omega) (by omega) ‹RelV (go c0 (evE _ _ (ex.kids.getD 0 _) _ _)) _ _ _› (by omega) (by assumption) | exact rel_let hc00 hs1 (by omega) (by omega) ‹RelV (go c0 (evE _ _ (ex.kids.getD 0 _) _ _)) _ _ _› (by assumption) | exact rel_kidsE hc00 hs1 hkg.1 hkg.2.1 hkg.2.2.1 hkg.2.2.2 hKr (by omega) | exact rel_call hc00 hs1 (by omega) (by omega) hKr (by omega) (by assumption) | exact rel_loop hc00 hs1 (by omega) (by omega) hKr (by omega) (rel_stop hrl9 (by omega) (by omega)) | exact rel_op hc00 hs1 hkg.1 hkg.2.1 hkg.2.2.1 hkg.2.2.2 (by omega) (by omega) hKr (by omega) (by rw [show c0 = 0 from by omega]; exact op_add (by omega)) | exact rel_op hc00 hs1 hkg.1 hkg.2.1 hkg.2.2.1 hkg.2.2.2 (by omega) (by omega) hKr (by omega) (by rw [show c0 = 0 from by omega]; exact op_sub (by omega)) | exact rel_op hc00 hs1 hkg.1 hkg.2.1 hkg.2.2.1 hkg.2.2.2 (by omega) (by omega) hKr (by omega) (by rw [show c0 = 0 from by omega]; exact op_mul (by omega)) | exact rel_op hc00 hs1 hkg.1 hkg.2.1 hkg.2.2.1 hkg.2.2.2 (by omega) (by omega) hKr (by omega) (by rw [show c0 = 0 from by omega]; exact op_neg (by omega)) | exact rel_op hc00 hs1 hkg.1 hkg.2.1 hkg.2.2.1 hkg.2.2.2 (by omega) (by omega) hKr (by omega) (by rw [show c0 = 0 from by omega]; exact op_div (by omega) (by omega)) | exact rel_op hc00 hs1 hkg.1 hkg.2.1 hkg.2.2.1 hkg.2.2.2 (by omega) (by omega) hKr (by omega) (op_div0 (by omega) (by omega)))⟩
 ·
  refine q_neq false rfl rfl (decide_eq_false hc3) zN ?_
  refine lw_nil ?_
  refine c_cond_f rfl ?_
  refine wp_skip ?_
  refine wp_seq ?_
  refine wp_seq ?_
  refine wp_plain _ [0,0,0,2,0] rfl ?_
  refine q_move (.pointer (some ⟨g,0,none⟩)) rfl zN ?_
  refine q_nil rfl zN ?_
  refine q_fldP (p := (.pointer (some ⟨g,0,none⟩))) (b := g) (o := 0) 2 fd128_2 rfl rfl zN ?_
  refine q_load (p := (padd (.pointer (some ⟨g,0,none⟩)) 2)) (.inr rfl) (.int .i64 ((s0 :Nat):Int)) one2 rfl (hB0x1.ldp (i := 2) (by simp)) zN ?_
  by_cases hc5 : ((s0 :Nat):Int) = ((3000 :Nat):Int)
  ·
   refine q_eql true rfl rfl (decide_eq_true hc5) zN ?_
   refine lw_nil ?_
   refine c_cond_t rfl ?_
   refine wp_seq ?_
   refine wp_plain _ [0,0,0,4] rfl ?_
   refine q_move (.pointer (some ⟨g,0,none⟩)) rfl zN ?_
   refine q_nil rfl zN ?_
   refine q_fldP (p := (.pointer (some ⟨g,0,none⟩))) (b := g) (o := 0) 3 fd128_3 rfl rfl zN ?_
   refine e_setB (k := 3) (w := w1) sz2 rfl rfl ⟨rfl,rfl⟩ hB0x1 (by simp) zN ?_
   intro w6 hC6 hz6 hB6
   replace hB6 : BX w6.heap g [vp,(.int .i64 ((o :Nat):Int)),(.int .i64 ((s0 :Nat):Int)),(.int .i64 ((7 :Nat):Int))] := hB6
   have hE6 : Chg [g] w w6 := hE1.trans hC6
   have hzs6:=hC6.size
   have hF7 := hB1.chg hC6 (fun hm => by have := List.mem_singleton.1 hm; omega)
   refine lw_nil ?_
   refine wp_seq ?_
   refine wp_plain _ [0,3,0] rfl ?_
   refine q_move (.pointer (some ⟨g,0,none⟩)) rfl zN ?_
   refine lw_call 156 [] [] [(.pointer (some ⟨g,0,none⟩)),(.int .i64 ((0 :Nat):Int))] rfl rfl cf156 zN (c_impl_evaluation_constant _ S g vp dp (o) (s0) (((7 :Nat):Int)) (p) _ (fun b hb => (by have := hS b hb; omega : b < w6.heap.size)) hgS hB6 (hp.chg (good_rdS (good_rFn dp)) (hE6.sub (subS hgS))) (by omega) (by omega) (by omega) (by omega)) ?_
   rintro e8 w8 ⟨v8_0,rfl,hX8,hO8_0⟩
   refine ⟨_,rfl,hX8,?_⟩
   have hzs8:=hX8.size
   have hE8 : Chg [g] w w8 := hE6.ext hX8
   have hB6x8 := hB6.ext hX8
   have hF7x8 := hF7.ext hX8
   refine q_assign v8_0 rfl zN ?_
   refine lw_nil ?_
   refine wp_ret ?_
   refine t_ret ?_
   exact post_ret [6] rfl v8_0 rfl ⟨v8_0,cst (o + 1) ((0 :Nat):Int),s0,((7 :Nat):Int),rfl,hE8,hB6x8,(RN.of_fr1 hO8_0 (fun b hb => by have := hS b hb; omega)),(by first | assumption | exact cst_ser (by decide) | exact cst_ser (isN_iff.2 (by omega)) | exact hse _ (by omega) | exact hks _ (by omega) | exact addS_ser hK0 | exact redS_ser hK0 | exact proS_ser hK0 | exact sclS_ser hK0 | exact quoS_ser hK0),(by omega),(by omega),(by first | exact rel_code (by omega) | exact rel_budget (by omega) (by omega) | exact rel_num hc00 hs1 (by omega) | exact rel_var hc00 hs1 (by omega) | exact rel_if0 hc00 hs1 (by omega) (by omega) ‹RelV (go c0 (evE _ _ (ex.kids.getD 0 _) _ _)) _ _ _› (by omega) (by assumption) | exact rel_if1 hc00 hs1 (by omega) (by omega) ‹RelV (go c0 (evE _ _ (ex.kids.getD 0 _) _ _)) _ _ _› (by omega) (by assumption) | exact rel_let hc00 hs1 (by omega) (by omega) ‹RelV (go c0 (evE _ _ (ex.kids.getD 0 _) _ _)) _ _ _› (by assumption) | exact rel_kidsE hc00 hs1 hkg.1 hkg.2.1 hkg.2.2.1 hkg.2.2.2 hKr (by omega) | exact rel_call hc00 hs1 (by omega) (by omega) hKr (by omega) (by assumption) | exact rel_loop hc00 hs1 (by omega) (by omega) hKr (by omega) (rel_stop hrl9 (by omega) (by omega)) | exact rel_op hc00 hs1 hkg.1 hkg.2.1 hkg.2.2.1 hkg.2.2.2 (by omega) (by omega) hKr (by omega) (by rw [show ((7 :Nat):Int) = 0 from by omega]; exact op_add (by omega)) | exact rel_op hc00 hs1 hkg.1 hkg.2.1 hkg.2.2.1 hkg.2.2.2 (by omega) (by omega) hKr (by omega) (by rw [show ((7 :Nat):Int) = 0 from by omega]; exact op_sub (by omega)) | exact rel_op hc00 hs1 hkg.1 hkg.2.1 hkg.2.2.1 hkg.2.2.2 (by omega) (by omega) hKr (by omega) (by rw [show ((7 :Nat):Int) = 0 from by omega]; exact op_mul (by omega)) | exact rel_op hc00 hs1 hkg.1 hkg.2.1 hkg.2.2.1 hkg.2.2.2 (by omega) (by omega) hKr (by omega) (by rw [show ((7 :Nat):Int) = 0 from by omega]; exact op_neg (by omega)) | exact rel_op hc00 hs1 hkg.1 hkg.2.1 hkg.2.2.1 hkg.2.2.2 (by omega) (by omega) hKr (by omega) (by rw [show ((7 :Nat):Int) = 0 from by omega]; exact op_div (by omega) (by omega)) | exact rel_op hc00 hs1 hkg.1 hkg.2.1 hkg.2.2.1 hkg.2.2.2 (by omega) (by omega) hKr (by omega) (op_div0 (by omega) (by omega)))⟩
  ·
   refine q_eql false rfl rfl (decide_eq_false hc5) zN ?_
   refine lw_nil ?_
   refine c_cond_f rfl ?_
   refine wp_skip ?_
   refine wp_seq ?_
   refine wp_plain _ [0,0,0,2,0,0,0,4] rfl ?_
   refine q_move (.pointer (some ⟨g,0,none⟩)) rfl zN ?_
   refine q_nil rfl zN ?_
   refine q_fldP (p := (.pointer (some ⟨g,0,none⟩))) (b := g) (o := 0) 2 fd128_2 rfl rfl zN ?_
   refine q_load (p := (padd (.pointer (some ⟨g,0,none⟩)) 2)) (.inr rfl) (.int .i64 ((s0 :Nat):Int)) one2 rfl (hB0x1.ldp (i := 2) (by simp)) zN ?_
   refine q_add ((s0 + 1 :Nat):Int) rfl rfl (w64n (by omega) (by omega)) zN ?_
   refine q_nil rfl zN ?_
   refine q_fldP (p := (.pointer (some ⟨g,0,none⟩))) (b := g) (o := 0) 2 fd128_2 rfl rfl zN ?_
   refine e_setB (k := 2) (w := w1) sz2 rfl rfl ⟨rfl,rfl⟩ hB0x1 (by simp) zN ?_
   intro w9 hC9 hz9 hB9
   replace hB9 : BX w9.heap g [vp,(.int .i64 ((o :Nat):Int)),(.int .i64 ((s0 + 1 :Nat):Int)),(.int .i64 c0)] := hB9
   have hE9 : Chg [g] w w9 := hE1.trans hC9
   have hzs9:=hC9.size
   have hF10 := hB1.chg hC9 (fun hm => by have := List.mem_singleton.1 hm; omega)
   refine lw_nil ?_
   refine wp_seq ?_
   refine wp_seq ?_
   refine wp_plain _ [0,2] rfl ?_
   have hc00 : c0 = 0 := by omega
   have hs1 : s0 + 1 ≤ 3000 := by omega
   refine q_fldP (p := (.pointer (some ⟨w.heap.size,0,none⟩))) (b := w.heap.size) (o := 0) 0 fd94_0 rfl rfl zN ?_
   refine q_load (p := (padd (.pointer (some ⟨w.heap.size,0,none⟩)) 0)) (.inr rfl) (.int .i64 ex.kind) one2 rfl (hF10.ldp (i := 0) (by simp)) zN ?_
   refine lw_nil ?_
   refine wp_block ?_
   refine wp_seq ?_
   refine wp_plain _ [0,0] rfl ?_
   by_cases hc11 : ex.kind = ((1 :Nat):Int)
   ·
    refine q_eql true rfl rfl (decide_eq_true hc11) zN ?_
    refine q_assign (.bool true) rfl zN ?_
    refine lw_nil ?_
    refine c_cond_t rfl ?_
    refine wp_seq ?_
    refine wp_plain _ [0,0,2,3,0] rfl ?_
    refine q_move (.pointer (some ⟨g,0,none⟩)) rfl zN ?_
    refine q_fldP (p := (.pointer (some ⟨w.heap.size,0,none⟩))) (b := w.heap.size) (o := 0) 1 fd94_1 rfl rfl zN ?_
    refine q_load (p := (padd (.pointer (some ⟨w.heap.size,0,none⟩)) 1)) (.inr rfl) (.int .i64 ex.num) one2 rfl (hF10.ldp (i := 1) (by simp)) zN ?_
    refine lw_call 156 [] [] [(.pointer (some ⟨g,0,none⟩)),(.int .i64 ex.num)] rfl rfl cf156 zN (c_impl_evaluation_constant _ S g vp dp (o) (s0 + 1) (c0) (p) _ (fun b hb => (by have := hS b hb; omega : b < w9.heap.size)) hgS hB9 (hp.chg (good_rdS (good_rFn dp)) (hE9.sub (subS hgS))) (by omega) (by omega) (by omega) hex.rng.num) ?_
    rintro e12 w12 ⟨v12_0,rfl,hX12,hO12_0⟩
    refine ⟨_,rfl,hX12,?_⟩
    have hzs12:=hX12.size
    have hE12 : Chg [g] w w12 := hE9.ext hX12
    have hB9x12 := hB9.ext hX12
    have hF10x12 := hF10.ext hX12
    refine q_assign v12_0 rfl zN ?_
    refine lw_nil ?_
    refine wp_ret ?_
    refine b_ret ?_
    refine t_ret ?_
    exact post_ret [6] rfl v12_0 rfl ⟨v12_0,cst (o + 1) ex.num,s0 + 1,c0,rfl,hE12,hB9x12,(RN.of_fr1 hO12_0 (fun b hb => by have := hS b hb; omega)),(by first | assumption | exact cst_ser (by decide) | exact cst_ser (isN_iff.2 (by omega)) | exact hse _ (by omega) | exact hks _ (by omega) | exact addS_ser hK0 | exact redS_ser hK0 | exact proS_ser hK0 | exact sclS_ser hK0 | exact quoS_ser hK0),(by omega),(by omega),(by first | exact rel_code (by omega) | exact rel_budget (by omega) (by omega) | exact rel_num hc00 hs1 (by omega) | exact rel_var hc00 hs1 (by omega) | exact rel_if0 hc00 hs1 (by omega) (by omega) ‹RelV (go c0 (evE _ _ (ex.kids.getD 0 _) _ _)) _ _ _› (by omega) (by assumption) | exact rel_if1 hc00 hs1 (by omega) (by omega) ‹RelV (go c0 (evE _ _ (ex.kids.getD 0 _) _ _)) _ _ _› (by omega) (by assumption) | exact rel_let hc00 hs1 (by omega) (by omega) ‹RelV (go c0 (evE _ _ (ex.kids.getD 0 _) _ _)) _ _ _› (by assumption) | exact rel_kidsE hc00 hs1 hkg.1 hkg.2.1 hkg.2.2.1 hkg.2.2.2 hKr (by omega) | exact rel_call hc00 hs1 (by omega) (by omega) hKr (by omega) (by assumption) | exact rel_loop hc00 hs1 (by omega) (by omega) hKr (by omega) (rel_stop hrl9 (by omega) (by omega)) | exact rel_op hc00 hs1 hkg.1 hkg.2.1 hkg.2.2.1 hkg.2.2.2 (by omega) (by omega) hKr (by omega) (by rw [show c0 = 0 from by omega]; exact op_add (by omega)) | exact rel_op hc00 hs1 hkg.1 hkg.2.1 hkg.2.2.1 hkg.2.2.2 (by omega) (by omega) hKr (by omega) (by rw [show c0 = 0 from by omega]; exact op_sub (by omega)) | exact rel_op hc00 hs1 hkg.1 hkg.2.1 hkg.2.2.1 hkg.2.2.2 (by omega) (by omega) hKr (by omega) (by rw [show c0 = 0 from by omega]; exact op_mul (by omega)) | exact rel_op hc00 hs1 hkg.1 hkg.2.1 hkg.2.2.1 hkg.2.2.2 (by omega) (by omega) hKr (by omega) (by rw [show c0 = 0 from by omega]; exact op_neg (by omega)) | exact rel_op hc00 hs1 hkg.1 hkg.2.1 hkg.2.2.1 hkg.2.2.2 (by omega) (by omega) hKr (by omega) (by rw [show c0 = 0 from by omega]; exact op_div (by omega) (by omega)) | exact rel_op hc00 hs1 hkg.1 hkg.2.1 hkg.2.2.1 hkg.2.2.2 (by omega) (by omega) hKr (by omega) (op_div0 (by omega) (by omega)))⟩
   ·
    refine q_eql false rfl rfl (decide_eq_false hc11) zN ?_
    refine q_assign (.bool false) rfl zN ?_
    refine lw_nil ?_
    refine c_cond_f rfl ?_
    refine wp_seq ?_
    refine wp_plain _ [0,0] rfl ?_
    by_cases hc13 : ex.kind = ((2 :Nat):Int)
    ·
     refine q_eql true rfl rfl (decide_eq_true hc13) zN ?_
     refine q_assign (.bool true) rfl zN ?_
     refine lw_nil ?_
     refine c_cond_t rfl ?_
     refine wp_seq ?_
     refine wp_plain _ [0,0,2,0,2,0] rfl ?_
     refine q_move vv rfl zN ?_
     refine q_fldP (p := (.pointer (some ⟨w.heap.size,0,none⟩))) (b := w.heap.size) (o := 0) 1 fd94_1 rfl rfl zN ?_
     refine q_load (p := (padd (.pointer (some ⟨w.heap.size,0,none⟩)) 1)) (.inr rfl) (.int .i64 ex.num) one2 rfl (hF10.ldp (i := 1) (by simp)) zN ?_
     refine q_idx (v := vv) ((ex.num).toNat) u27 ti25 rfl rfl henv.slL (by omega) (by first | omega | assumption | (simp; done) | (simp; omega)) zN ?_
     obtain ⟨ue14,hl14,hr14⟩ := RN.getL (w := w) g1 [] (k := (ex.num).toNat) henv (by first | omega | assumption | (simp; done) | (simp; omega))
     have hln14 := hr14.lenL
     unfold maxLen at hln14
     refine q_load (p := eptr vv ((ex.num).toNat) 1) (.inr rfl) ue14 one25 rfl (hl14 _ (hE9.sub (subS hgS))) zN ?_
     refine q_assign ue14 rfl zN ?_
     refine lw_nil ?_
     refine wp_ret ?_
     refine b_ret ?_
     refine t_ret ?_
     exact post_ret [6] rfl ue14 rfl ⟨ue14,env.getD ((ex.num).toNat) [],s0 + 1,c0,rfl,hE9,hB9,(hr14.chg g1 (hE9.sub (subS hgS))),(by first | assumption | exact cst_ser (by decide) | exact cst_ser (isN_iff.2 (by omega)) | exact hse _ (by omega) | exact hks _ (by omega) | exact addS_ser hK0 | exact redS_ser hK0 | exact proS_ser hK0 | exact sclS_ser hK0 | exact quoS_ser hK0),(by omega),(by omega),(by first | exact rel_code (by omega) | exact rel_budget (by omega) (by omega) | exact rel_num hc00 hs1 (by omega) | exact rel_var hc00 hs1 (by omega) | exact rel_if0 hc00 hs1 (by omega) (by omega) ‹RelV (go c0 (evE _ _ (ex.kids.getD 0 _) _ _)) _ _ _› (by omega) (by assumption) | exact rel_if1 hc00 hs1 (by omega) (by omega) ‹RelV (go c0 (evE _ _ (ex.kids.getD 0 _) _ _)) _ _ _› (by omega) (by assumption) | exact rel_let hc00 hs1 (by omega) (by omega) ‹RelV (go c0 (evE _ _ (ex.kids.getD 0 _) _ _)) _ _ _› (by assumption) | exact rel_kidsE hc00 hs1 hkg.1 hkg.2.1 hkg.2.2.1 hkg.2.2.2 hKr (by omega) | exact rel_call hc00 hs1 (by omega) (by omega) hKr (by omega) (by assumption) | exact rel_loop hc00 hs1 (by omega) (by omega) hKr (by omega) (rel_stop hrl9 (by omega) (by omega)) | exact rel_op hc00 hs1 hkg.1 hkg.2.1 hkg.2.2.1 hkg.2.2.2 (by omega) (by omega) hKr (by omega) (by rw [show c0 = 0 from by omega]; exact op_add (by omega)) | exact rel_op hc00 hs1 hkg.1 hkg.2.1 hkg.2.2.1 hkg.2.2.2 (by omega) (by omega) hKr (by omega) (by rw [show c0 = 0 from by omega]; exact op_sub (by omega)) | exact rel_op hc00 hs1 hkg.1 hkg.2.1 hkg.2.2.1 hkg.2.2.2 (by omega) (by omega) hKr (by omega) (by rw [show c0 = 0 from by omega]; exact op_mul (by omega)) | exact rel_op hc00 hs1 hkg.1 hkg.2.1 hkg.2.2.1 hkg.2.2.2 (by omega) (by omega) hKr (by omega) (by rw [show c0 = 0 from by omega]; exact op_neg (by omega)) | exact rel_op hc00 hs1 hkg.1 hkg.2.1 hkg.2.2.1 hkg.2.2.2 (by omega) (by omega) hKr (by omega) (by rw [show c0 = 0 from by omega]; exact op_div (by omega) (by omega)) | exact rel_op hc00 hs1 hkg.1 hkg.2.1 hkg.2.2.1 hkg.2.2.2 (by omega) (by omega) hKr (by omega) (op_div0 (by omega) (by omega)))⟩
    ·
     refine q_eql false rfl rfl (decide_eq_false hc13) zN ?_
     refine q_assign (.bool false) rfl zN ?_
     refine lw_nil ?_
     refine c_cond_f rfl ?_
     refine wp_seq ?_
     refine wp_plain _ [0,0] rfl ?_
     by_cases hc15 : ex.kind = ((8 :Nat):Int)
     ·
      refine q_eql true rfl rfl (decide_eq_true hc15) zN ?_
      refine q_assign (.bool true) rfl zN ?_
      refine lw_nil ?_
      refine c_cond_t rfl ?_
      refine wp_seq ?_
      refine wp_seq ?_
      refine wp_plain _ [0,0,2,0,2,0,4,0,2,0] rfl ?_
      refine q_move (.pointer (some ⟨g,0,none⟩)) rfl zN ?_
      refine q_fldP (p := (.pointer (some ⟨w.heap.size,0,none⟩))) (b := w.heap.size) (o := 0) 4 fd94_4 rfl rfl zN ?_
      refine q_load (p := (padd (.pointer (some ⟨w.heap.size,0,none⟩)) 4)) (.inr rfl) ve one78 rfl (hF10.ldp (i := 4) (by simp)) zN ?_
      refine q_idx (v := ve) 0 u78 tiS94 rfl rfl hex.rn.isSl rfl (by first | omega | assumption | (simp; done) | (simp; omega)) zN ?_
      obtain ⟨cs16,hr16,hl16⟩ := hex.rn.get (good_rEx dex) Ex.zero (k := 0) (by first | omega | assumption | (simp; done) | (simp; omega))
      obtain ⟨dd16,ve16,hd16,rfl,hx16⟩ := RX.of hr16
      have hln16 := hx16.rn.lenle
      unfold maxLen at hln16
      refine q_loadA (p := eptr ve 0 5) (.inr rfl) [(.int .i64 ((ex.kids.getD 0 Ex.zero).kind)),(.int .i64 ((ex.kids.getD 0 Ex.zero).num)),(.int .i64 ((ex.kids.getD 0 Ex.zero).pick)),(.int .i64 ((ex.kids.getD 0 Ex.zero).count)),ve16] agg94 rfl (fun w9 hw9 => hl16 w9 ((hE9.sub (subS hgS)).ext hw9)) rfl zN ?_
      refine q_move vv rfl zN ?_
      refine lw_callE 135 [] [] [(.pointer (some ⟨g,0,none⟩)),(.agg #[(.int .i64 ((ex.kids.getD 0 Ex.zero).kind)),(.int .i64 ((ex.kids.getD 0 Ex.zero).num)),(.int .i64 ((ex.kids.getD 0 Ex.zero).pick)),(.int .i64 ((ex.kids.getD 0 Ex.zero).count)),ve16]),vv] rfl rfl cf135 zN (IH2 dd16 (by omega) _ S g vp dp (o) (s0 + 1) (c0) (p) ve16 (ex.kids.getD 0 Ex.zero) vv (env) (fun b hb => (by have := hS b hb; omega : b < w9.heap.size)) hgS hB9 (hp.chg (good_rdS (good_rFn dp)) (hE9.sub (subS hgS))) (by omega) (by omega) (by omega) ⟨hx16.rng,(hx16.rn.chg (good_rdS (good_rEx dd16)) (hE9.sub (subS hgS)))⟩ (henv.chg g2 (hE9.sub (subS hgS))) hqenv (by exact hvp) (by omega) (by exact wf_at0 hwf (by omega) (by omega)) (by exact hse) (by have := kd_at (l := ex.kids) (k := 0) (by omega); omega)) ?_
      rintro e17 w17 ⟨v17,x17,s17,c17,rfl,hC17,hB17,hr17,hse17,hsb17,hcb17,hrl17⟩
      refine ⟨_,rfl,?_⟩
      have hzs17:=hC17.size
      have hE17 : Chg [g] w w17 := hE9.trans hC17
      have hF21 := hF10.chg hC17 (fun hm => by have := List.mem_singleton.1 hm; omega)
      have hsn17 := hse17.1
      refine q_idx (v := v17) 0 u25 ti2 rfl rfl hr17.slL rfl (by first | omega | assumption | (simp; done) | (simp; omega)) zN ?_
      have hg23 := RN.getI (w := w17) (k := 0) hr17 (by first | omega | assumption | (simp; done) | (simp; omega))
      refine q_load (p := eptr v17 0 1) (.inr rfl) (.int .i64 (x17.getD 0 0)) one2 rfl (hg23.1 _ (Chg.refl _ _)) zN ?_
      by_cases hc24 : x17.getD 0 0 = ((0 :Nat):Int)
      ·
       refine q_eql true rfl rfl (decide_eq_true hc24) zN ?_
       refine lw_nil ?_
       refine c_cond_t rfl ?_
       refine wp_seq ?_
       refine wp_plain _ [0,0,2,0,2,0,4,0] rfl ?_
       refine q_move (.pointer (some ⟨g,0,none⟩)) rfl zN ?_
       refine q_fldP (p := (.pointer (some ⟨w.heap.size,0,none⟩))) (b := w.heap.size) (o := 0) 4 fd94_4 rfl rfl zN ?_
       refine q_load (p := (padd (.pointer (some ⟨w.heap.size,0,none⟩)) 4)) (.inr rfl) ve one78 rfl (hF21.ldp (i := 4) (by simp)) zN ?_
       refine q_idx (v := ve) 1 u78 tiS94 rfl rfl hex.rn.isSl rfl (by first | omega | assumption | (simp; done) | (simp; omega)) zN ?_
       obtain ⟨cs25,hr25,hl25⟩ := hex.rn.get (good_rEx dex) Ex.zero (k := 1) (by first | omega | assumption | (simp; done) | (simp; omega))
       obtain ⟨dd25,ve25,hd25,rfl,hx25⟩ := RX.of hr25
       have hln25 := hx25.rn.lenle
       unfold maxLen at hln25
       refine q_loadA (p := eptr ve 1 5) (.inr rfl) [(.int .i64 ((ex.kids.getD 1 Ex.zero).kind)),(.int .i64 ((ex.kids.getD 1 Ex.zero).num)),(.int .i64 ((ex.kids.getD 1 Ex.zero).pick)),(.int .i64 ((ex.kids.getD 1 Ex.zero).count)),ve25] agg94 rfl (fun w9 hw9 => hl25 w9 ((hE17.sub (subS hgS)).ext hw9)) rfl zN ?_
       refine q_move vv rfl zN ?_
       refine lw_callE 135 [] [] [(.pointer (some ⟨g,0,none⟩)),(.agg #[(.int .i64 ((ex.kids.getD 1 Ex.zero).kind)),(.int .i64 ((ex.kids.getD 1 Ex.zero).num)),(.int .i64 ((ex.kids.getD 1 Ex.zero).pick)),(.int .i64 ((ex.kids.getD 1 Ex.zero).count)),ve25]),vv] rfl rfl cf135 zN (IH2 dd25 (by omega) _ S g vp dp (o) (s17) (c17) (p) ve25 (ex.kids.getD 1 Ex.zero) vv (env) (fun b hb => (by have := hS b hb; omega : b < w17.heap.size)) hgS hB17 (hp.chg (good_rdS (good_rFn dp)) (hE17.sub (subS hgS))) (by omega) (by omega) (by omega) ⟨hx25.rng,(hx25.rn.chg (good_rdS (good_rEx dd25)) (hE17.sub (subS hgS)))⟩ (henv.chg g2 (hE17.sub (subS hgS))) hqenv (by exact hvp) (by omega) (by exact wf_at0 hwf (by omega) (by omega)) (by exact hse) (by have := kd_at (l := ex.kids) (k := 1) (by omega); omega)) ?_
       rintro e26 w26 ⟨v26,x26,s26,c26,rfl,hC26,hB26,hr26,hse26,hsb26,hcb26,hrl26⟩
       refine ⟨_,rfl,?_⟩
       have hzs26:=hC26.size
       have hE26 : Chg [g] w w26 := hE17.trans hC26
       have hF30 := hF21.chg hC26 (fun hm => by have := List.mem_singleton.1 hm; omega)
       have hF32 := hr17.run g1 hgS hC26
       have hsn26 := hse26.1
       refine q_assign v26 rfl zN ?_
       refine lw_nil ?_
       refine wp_ret ?_
       refine t_ret ?_
       refine b_ret ?_
       refine t_ret ?_
       exact post_ret [6] rfl v26 rfl ⟨v26,x26,s26,c26,rfl,hE26,hB26,hr26,(by first | assumption | exact cst_ser (by decide) | exact cst_ser (isN_iff.2 (by omega)) | exact hse _ (by omega) | exact hks _ (by omega) | exact addS_ser hK0 | exact redS_ser hK0 | exact proS_ser hK0 | exact sclS_ser hK0 | exact quoS_ser hK0),(by omega),(by omega),(by first | exact rel_code (by omega) | exact rel_budget (by omega) (by omega) | exact rel_num hc00 hs1 (by omega) | exact rel_var hc00 hs1 (by omega) | exact rel_if0 hc00 hs1 (by omega) (by omega) ‹RelV (go c0 (evE _ _ (ex.kids.getD 0 _) _ _)) _ _ _› (by omega) (by assumption) | exact rel_if1 hc00 hs1 (by omega) (by omega) ‹RelV (go c0 (evE _ _ (ex.kids.getD 0 _) _ _)) _ _ _› (by omega) (by assumption) | exact rel_let hc00 hs1 (by omega) (by omega) ‹RelV (go c0 (evE _ _ (ex.kids.getD 0 _) _ _)) _ _ _› (by assumption) | exact rel_kidsE hc00 hs1 hkg.1 hkg.2.1 hkg.2.2.1 hkg.2.2.2 hKr (by omega) | exact rel_call hc00 hs1 (by omega) (by omega) hKr (by omega) (by assumption) | exact rel_loop hc00 hs1 (by omega) (by omega) hKr (by omega) (rel_stop hrl9 (by omega) (by omega)) | exact rel_op hc00 hs1 hkg.1 hkg.2.1 hkg.2.2.1 hkg.2.2.2 (by omega) (by omega) hKr (by omega) (by rw [show c26 = 0 from by omega]; exact op_add (by omega)) | exact rel_op hc00 hs1 hkg.1 hkg.2.1 hkg.2.2.1 hkg.2.2.2 (by omega) (by omega) hKr (by omega) (by rw [show c26 = 0 from by omega]; exact op_sub (by omega)) | exact rel_op hc00 hs1 hkg.1 hkg.2.1 hkg.2.2.1 hkg.2.2.2 (by omega) (by omega) hKr (by omega) (by rw [show c26 = 0 from by omega]; exact op_mul (by omega)) | exact rel_op hc00 hs1 hkg.1 hkg.2.1 hkg.2.2.1 hkg.2.2.2 (by omega) (by omega) hKr (by omega) (by rw [show c26 = 0 from by omega]; exact op_neg (by omega)) | exact rel_op hc00 hs1 hkg.1 hkg.2.1 hkg.2.2.1 hkg.2.2.2 (by omega) (by omega) hKr (by omega) (by rw [show c26 = 0 from by omega]; exact op_div (by omega) (by omega)) | exact rel_op hc00 hs1 hkg.1 hkg.2.1 hkg.2.2.1 hkg.2.2.2 (by omega) (by omega) hKr (by omega) (op_div0 (by omega) (by omega)))⟩
      ·
       refine q_eql false rfl rfl (decide_eq_false hc24) zN ?_
       refine lw_nil ?_
       refine c_cond_f rfl ?_
       refine wp_skip ?_
       refine wp_seq ?_
       refine wp_plain _ [0,0,2,0,2,0,4,0] rfl ?_
       refine q_move (.pointer (some ⟨g,0,none⟩)) rfl zN ?_
       refine q_fldP (p := (.pointer (some ⟨w.heap.size,0,none⟩))) (b := w.heap.size) (o := 0) 4 fd94_4 rfl rfl zN ?_
       refine q_load (p := (padd (.pointer (some ⟨w.heap.size,0,none⟩)) 4)) (.inr rfl) ve one78 rfl (hF21.ldp (i := 4) (by simp)) zN ?_
       refine q_idx (v := ve) 2 u78 tiS94 rfl rfl hex.rn.isSl rfl (by first | omega | assumption | (simp; done) | (simp; omega)) zN ?_
       obtain ⟨cs34,hr34,hl34⟩ := hex.rn.get (good_rEx dex) Ex.zero (k := 2) (by first | omega | assumption | (simp; done) | (simp; omega))
       obtain ⟨dd34,ve34,hd34,rfl,hx34⟩ := RX.of hr34
       have hln34 := hx34.rn.lenle
       unfold maxLen at hln34
       refine q_loadA (p := eptr ve 2 5) (.inr rfl) [(.int .i64 ((ex.kids.getD 2 Ex.zero).kind)),(.int .i64 ((ex.kids.getD 2 Ex.zero).num)),(.int .i64 ((ex.kids.getD 2 Ex.zero).pick)),(.int .i64 ((ex.kids.getD 2 Ex.zero).count)),ve34] agg94 rfl (fun w9 hw9 => hl34 w9 ((hE17.sub (subS hgS)).ext hw9)) rfl zN ?_
       refine q_move vv rfl zN ?_
       refine lw_callE 135 [] [] [(.pointer (some ⟨g,0,none⟩)),(.agg #[(.int .i64 ((ex.kids.getD 2 Ex.zero).kind)),(.int .i64 ((ex.kids.getD 2 Ex.zero).num)),(.int .i64 ((ex.kids.getD 2 Ex.zero).pick)),(.int .i64 ((ex.kids.getD 2 Ex.zero).count)),ve34]),vv] rfl rfl cf135 zN (IH2 dd34 (by omega) _ S g vp dp (o) (s17) (c17) (p) ve34 (ex.kids.getD 2 Ex.zero) vv (env) (fun b hb => (by have := hS b hb; omega : b < w17.heap.size)) hgS hB17 (hp.chg (good_rdS (good_rFn dp)) (hE17.sub (subS hgS))) (by omega) (by omega) (by omega) ⟨hx34.rng,(hx34.rn.chg (good_rdS (good_rEx dd34)) (hE17.sub (subS hgS)))⟩ (henv.chg g2 (hE17.sub (subS hgS))) hqenv (by exact hvp) (by omega) (by exact wf_at0 hwf (by omega) (by omega)) (by exact hse) (by have := kd_at (l := ex.kids) (k := 2) (by omega); omega)) ?_
       rintro e35 w35 ⟨v35,x35,s35,c35,rfl,hC35,hB35,hr35,hse35,hsb35,hcb35,hrl35⟩
       refine ⟨_,rfl,?_⟩
       have hzs35:=hC35.size
       have hE35 : Chg [g] w w35 := hE17.trans hC35
       have hF39 := hF21.chg hC35 (fun hm => by have := List.mem_singleton.1 hm; omega)
       have hF41 := hr17.run g1 hgS hC35
       have hsn35 := hse35.1
       refine q_assign v35 rfl zN ?_
       refine lw_nil ?_
       refine wp_ret ?_
       refine b_ret ?_
       refine t_ret ?_
       exact post_ret [6] rfl v35 rfl ⟨v35,x35,s35,c35,rfl,hE35,hB35,hr35,(by first | assumption | exact cst_ser (by decide) | exact cst_ser (isN_iff.2 (by omega)) | exact hse _ (by omega) | exact hks _ (by omega) | exact addS_ser hK0 | exact redS_ser hK0 | exact proS_ser hK0 | exact sclS_ser hK0 | exact quoS_ser hK0),(by omega),(by omega),(by first | exact rel_code (by omega) | exact rel_budget (by omega) (by omega) | exact rel_num hc00 hs1 (by omega) | exact rel_var hc00 hs1 (by omega) | exact rel_if0 hc00 hs1 (by omega) (by omega) ‹RelV (go c0 (evE _ _ (ex.kids.getD 0 _) _ _)) _ _ _› (by omega) (by assumption) | exact rel_if1 hc00 hs1 (by omega) (by omega) ‹RelV (go c0 (evE _ _ (ex.kids.getD 0 _) _ _)) _ _ _› (by omega) (by assumption) | exact rel_let hc00 hs1 (by omega) (by omega) ‹RelV (go c0 (evE _ _ (ex.kids.getD 0 _) _ _)) _ _ _› (by assumption) | exact rel_kidsE hc00 hs1 hkg.1 hkg.2.1 hkg.2.2.1 hkg.2.2.2 hKr (by omega) | exact rel_call hc00 hs1 (by omega) (by omega) hKr (by omega) (by assumption) | exact rel_loop hc00 hs1 (by omega) (by omega) hKr (by omega) (rel_stop hrl9 (by omega) (by omega)) | exact rel_op hc00 hs1 hkg.1 hkg.2.1 hkg.2.2.1 hkg.2.2.2 (by omega) (by omega) hKr (by omega) (by rw [show c35 = 0 from by omega]; exact op_add (by omega)) | exact rel_op hc00 hs1 hkg.1 hkg.2.1 hkg.2.2.1 hkg.2.2.2 (by omega) (by omega) hKr (by omega) (by rw [show c35 = 0 from by omega]; exact op_sub (by omega)) | exact rel_op hc00 hs1 hkg.1 hkg.2.1 hkg.2.2.1 hkg.2.2.2 (by omega) (by omega) hKr (by omega) (by rw [show c35 = 0 from by omega]; exact op_mul (by omega)) | exact rel_op hc00 hs1 hkg.1 hkg.2.1 hkg.2.2.1 hkg.2.2.2 (by omega) (by omega) hKr (by omega) (by rw [show c35 = 0 from by omega]; exact op_neg (by omega)) | exact rel_op hc00 hs1 hkg.1 hkg.2.1 hkg.2.2.1 hkg.2.2.2 (by omega) (by omega) hKr (by omega) (by rw [show c35 = 0 from by omega]; exact op_div (by omega) (by omega)) | exact rel_op hc00 hs1 hkg.1 hkg.2.1 hkg.2.2.1 hkg.2.2.2 (by omega) (by omega) hKr (by omega) (op_div0 (by omega) (by omega)))⟩
     ·
      refine q_eql false rfl rfl (decide_eq_false hc15) zN ?_
      refine q_assign (.bool false) rfl zN ?_
      refine lw_nil ?_
      refine c_cond_f rfl ?_
      refine wp_seq ?_
      refine wp_plain _ [0,0] rfl ?_
      by_cases hc43 : ex.kind = ((9 :Nat):Int)
      ·
       refine q_eql true rfl rfl (decide_eq_true hc43) zN ?_
       refine q_assign (.bool true) rfl zN ?_
       refine lw_nil ?_
       refine c_cond_t rfl ?_
       refine wp_seq ?_
       letI : JR := jrC [g]
       refine Jx.wp_draw _ [0,0,1,0,1,0,0,0,0,1,0,1,0,3,3,3,3,0] mixed (by kernel_rfl) ?_
       refine Jx.q_move (.pointer (some ⟨g,0,none⟩)) rfl zN ?_
       refine Jx.q_fldP (p := (.pointer (some ⟨w.heap.size,0,none⟩))) (b := w.heap.size) (o := 0) 4 fd94_4 rfl rfl zN ?_
       refine Jx.q_loadJ (p := (padd (.pointer (some ⟨w.heap.size,0,none⟩)) 4)) ve one78 rfl (fun wj hj => (BX.chg (w := w9.drew) (F := [g]) hF10 hj (fun hm => by have := List.mem_singleton.1 hm; omega)).ldp (i := 4) (by simp)) zN ?_
       refine Jx.q_idx (v := ve) 1 u78 tiS94 rfl rfl hex.rn.isSl rfl (by first | omega | assumption | (simp; done) | (simp; omega)) zN ?_
       obtain ⟨cs44,hr44,hl44⟩ := hex.rn.get (good_rEx dex) Ex.zero (k := 1) (by first | omega | assumption | (simp; done) | (simp; omega))
       obtain ⟨dd44,ve44,hd44,rfl,hx44⟩ := RX.of hr44
       have hln44 := hx44.rn.lenle
       unfold maxLen at hln44
       refine Jx.q_loadAJ (p := eptr ve 1 5) [(.int .i64 ((ex.kids.getD 1 Ex.zero).kind)),(.int .i64 ((ex.kids.getD 1 Ex.zero).num)),(.int .i64 ((ex.kids.getD 1 Ex.zero).pick)),(.int .i64 ((ex.kids.getD 1 Ex.zero).count)),ve44] agg94 rfl (fun wj hj => hl44 wj (Chg.trans (hE9.drew.sub (subS hgS)) (Chg.sub (show Chg [g] w9.drew wj from hj) (subS hgS)))) rfl zN ?_
       refine Jx.q_move vv rfl zN ?_
       refine Jx.lw_callq 157 [] [] [vv] rfl rfl cf157 zN (clipV vv) (fun wq => c_slices_Clip_____int64___int64_ wq vv _ henv.slL hqenv) ?_
       refine Jx.q_move (.pointer (some ⟨g,0,none⟩)) rfl zN ?_
       refine Jx.q_fldP (p := (.pointer (some ⟨w.heap.size,0,none⟩))) (b := w.heap.size) (o := 0) 4 fd94_4 rfl rfl zN ?_
       refine Jx.q_loadJ (p := (padd (.pointer (some ⟨w.heap.size,0,none⟩)) 4)) ve one78 rfl (fun wj hj => (BX.chg (w := w9.drew) (F := [g]) hF10 hj (fun hm => by have := List.mem_singleton.1 hm; omega)).ldp (i := 4) (by simp)) zN ?_
       refine Jx.q_idx (v := ve) 0 u78 tiS94 rfl rfl hex.rn.isSl rfl (by first | omega | assumption | (simp; done) | (simp; omega)) zN ?_
       obtain ⟨cs45,hr45,hl45⟩ := hex.rn.get (good_rEx dex) Ex.zero (k := 0) (by first | omega | assumption | (simp; done) | (simp; omega))
       obtain ⟨dd45,ve45,hd45,rfl,hx45⟩ := RX.of hr45
       have hln45 := hx45.rn.lenle
       unfold maxLen at hln45
       refine Jx.q_loadAJ (p := eptr ve 0 5) [(.int .i64 ((ex.kids.getD 0 Ex.zero).kind)),(.int .i64 ((ex.kids.getD 0 Ex.zero).num)),(.int .i64 ((ex.kids.getD 0 Ex.zero).pick)),(.int .i64 ((ex.kids.getD 0 Ex.zero).count)),ve45] agg94 rfl (fun wj hj => hl45 wj (Chg.trans (hE9.drew.sub (subS hgS)) (Chg.sub (show Chg [g] w9.drew wj from hj) (subS hgS)))) rfl zN ?_
       refine Jx.q_move vv rfl zN ?_
       refine Jx.lw_call 135 [] [] [(.pointer (some ⟨g,0,none⟩)),(.agg #[(.int .i64 ((ex.kids.getD 0 Ex.zero).kind)),(.int .i64 ((ex.kids.getD 0 Ex.zero).num)),(.int .i64 ((ex.kids.getD 0 Ex.zero).pick)),(.int .i64 ((ex.kids.getD 0 Ex.zero).count)),ve45]),vv] rfl rfl cf135 zN (IH2 dd45 (by omega) _ S g vp dp (o) (s0 + 1) (c0) (p) ve45 (ex.kids.getD 0 Ex.zero) vv (env) (fun b hb => (by have := hS b hb; omega : b < w9.heap.size)) hgS hB9 (hp.chg (good_rdS (good_rFn dp)) (hE9.drew.sub (subS hgS))) (by omega) (by omega) (by omega) ⟨hx45.rng,(hx45.rn.chg (good_rdS (good_rEx dd45)) (hE9.drew.sub (subS hgS)))⟩ (henv.chg g2 (hE9.drew.sub (subS hgS))) hqenv (by exact hvp) (by omega) (by exact wf_at0 hwf (by omega) (by omega)) (by exact hse) (by have := kd_at (l := ex.kids) (k := 0) (by omega); omega)) ?_
       rintro e46 w46 ⟨v46,x46,s46,c46,rfl,hC46,hB46,hr46,hse46,hsb46,hcb46,hrl46⟩
       refine ⟨_,rfl,hC46,?_⟩
       replace hC46 := hC46.of_drew
       have hzs46:=hC46.size
       have hE46 : Chg [g] w w46 := hE9.trans hC46
       have hF50 := hF10.chg hC46 (fun hm => by have := List.mem_singleton.1 hm; omega)
       have hsn46 := hse46.1
       refine Jx.r_one (u := v46) (B := w46.heap.size) good_rV u27 ti25 rfl rfl (frV w46.heap.size w46.heap.size _ (hr46.one1 g1)) (Nat.le_refl _) zN ?_
       intro v53 w53 hX53 hz53 hO53
       have hzs53:=hX53.size
       have hE53 : Chg [g] w w53 := hE46.ext hX53
       have hB46x53 := hB46.ext hX53
       have hF50x53 := hF50.ext hX53
       have hN54 := hr46.ext g1 hX53
       refine Jx.e_appC (v := vv) (a := v53) (u := v46) u27 ti25 rfl rfl rfl (henv.chg g2 (hE53.sub (subS hgS))) hO53 hN54 (fun b hb => (by have := hS b hb; omega : b < w53.heap.size)) (by first | omega | assumption | (simp; done) | (simp; omega)) (by unfold maxLen; first | omega | assumption | (simp; done) | (simp; omega)) zN ?_
       intro v55 w55 hX55 hr55 hcp55
       have hzs55:=hX55.size
       have hE55 : Chg [g] w w55 := hE53.ext hX55
       have hB46x55 := hB46x53.ext hX55
       have hF50x55 := hF50x53.ext hX55
       have hN56 := hN54.ext g1 hX55
       refine Jx.lw_call 135 [] [] [(.pointer (some ⟨g,0,none⟩)),(.agg #[(.int .i64 ((ex.kids.getD 1 Ex.zero).kind)),(.int .i64 ((ex.kids.getD 1 Ex.zero).num)),(.int .i64 ((ex.kids.getD 1 Ex.zero).pick)),(.int .i64 ((ex.kids.getD 1 Ex.zero).count)),ve44]),v55] rfl rfl cf135 zN (IH2 dd44 (by omega) _ S g vp dp (o) (s46) (c46) (p) ve44 (ex.kids.getD 1 Ex.zero) v55 (env ++ [x46]) (fun b hb => (by have := hS b hb; omega : b < w55.heap.size)) hgS hB46x55 (hp.chg (good_rdS (good_rFn dp)) (hE55.sub (subS hgS))) (by omega) (by omega) (by omega) ⟨hx44.rng,(hx44.rn.chg (good_rdS (good_rEx dd44)) (hE55.sub (subS hgS)))⟩ hr55 hcp55 (by exact hvp) (by omega) (by have h9 := wf_at1 hwf (by omega) (by omega); rw [List.length_append,List.length_singleton]; exact h9) (by exact hse.snoc (by assumption)) (by have := kd_at (l := ex.kids) (k := 1) (by omega); rw [List.length_append,List.length_singleton]; omega)) ?_
       rintro e57 w57 ⟨v57,x57,s57,c57,rfl,hC57,hB57,hr57,hse57,hsb57,hcb57,hrl57⟩
       refine ⟨_,rfl,hC57,?_⟩
       have hzs57:=hC57.size
       have hE57 : Chg [g] w w57 := hE55.trans hC57
       have hF61 := hF50x55.chg hC57 (fun hm => by have := List.mem_singleton.1 hm; omega)
       have hF64 := hN56.run g1 hgS hC57
       have hF65 := hr55.run g2 hgS hC57
       have hsn57 := hse57.1
       refine Jx.q_assign v57 rfl zN ?_
       refine Jx.lw_nil ?_
       refine wp_ret ?_
       refine b_ret ?_
       refine t_ret ?_
       exact post_ret [6] rfl v57 rfl ⟨v57,x57,s57,c57,rfl,hE57,hB57,hr57,(by first | assumption | exact cst_ser (by decide) | exact cst_ser (isN_iff.2 (by omega)) | exact hse _ (by omega) | exact hks _ (by omega) | exact addS_ser hK0 | exact redS_ser hK0 | exact proS_ser hK0 | exact sclS_ser hK0 | exact quoS_ser hK0),(by omega),(by omega),(by first | exact rel_code (by omega) | exact rel_budget (by omega) (by omega) | exact rel_num hc00 hs1 (by omega) | exact rel_var hc00 hs1 (by omega) | exact rel_if0 hc00 hs1 (by omega) (by omega) ‹RelV (go c0 (evE _ _ (ex.kids.getD 0 _) _ _)) _ _ _› (by omega) (by assumption) | exact rel_if1 hc00 hs1 (by omega) (by omega) ‹RelV (go c0 (evE _ _ (ex.kids.getD 0 _) _ _)) _ _ _› (by omega) (by assumption) | exact rel_let hc00 hs1 (by omega) (by omega) ‹RelV (go c0 (evE _ _ (ex.kids.getD 0 _) _ _)) _ _ _› (by assumption) | exact rel_kidsE hc00 hs1 hkg.1 hkg.2.1 hkg.2.2.1 hkg.2.2.2 hKr (by omega) | exact rel_call hc00 hs1 (by omega) (by omega) hKr (by omega) (by assumption) | exact rel_loop hc00 hs1 (by omega) (by omega) hKr (by omega) (rel_stop hrl9 (by omega) (by omega)) | exact rel_op hc00 hs1 hkg.1 hkg.2.1 hkg.2.2.1 hkg.2.2.2 (by omega) (by omega) hKr (by omega) (by rw [show c57 = 0 from by omega]; exact op_add (by omega)) | exact rel_op hc00 hs1 hkg.1 hkg.2.1 hkg.2.2.1 hkg.2.2.2 (by omega) (by omega) hKr (by omega) (by rw [show c57 = 0 from by omega]; exact op_sub (by omega)) | exact rel_op hc00 hs1 hkg.1 hkg.2.1 hkg.2.2.1 hkg.2.2.2 (by omega) (by omega) hKr (by omega) (by rw [show c57 = 0 from by omega]; exact op_mul (by omega)) | exact rel_op hc00 hs1 hkg.1 hkg.2.1 hkg.2.2.1 hkg.2.2.2 (by omega) (by omega) hKr (by omega) (by rw [show c57 = 0 from by omega]; exact op_neg (by omega)) | exact rel_op hc00 hs1 hkg.1 hkg.2.1 hkg.2.2.1 hkg.2.2.2 (by omega) (by omega) hKr (by omega) (by rw [show c57 = 0 from by omega]; exact op_div (by omega) (by omega)) | exact rel_op hc00 hs1 hkg.1 hkg.2.1 hkg.2.2.1 hkg.2.2.2 (by omega) (by omega) hKr (by omega) (op_div0 (by omega) (by omega)))⟩
      ·
       refine q_eql false rfl rfl (decide_eq_false hc43) zN ?_
       refine q_assign (.bool false) rfl zN ?_
       refine lw_nil ?_
       refine c_cond_f rfl ?_
       refine wp_skip ?_
       refine wp_seq ?_
       refine wp_plain _ [0,0,2,0,4,0] rfl ?_
       have hkg : ex.kind ≠ 1 ∧ ex.kind ≠ 2 ∧ ex.kind ≠ 8 ∧ ex.kind ≠ 9 := by omega
       have hk6 : ex.kids.length ≤ 12 := by (by_cases h10 : ex.kind = 10 ∨ ex.kind = 11; (have := hvp.par (ex.num).toNat (by omega); omega); omega)
       refine q_move (.pointer (some ⟨g,0,none⟩)) rfl zN ?_
       refine q_fldP (p := (.pointer (some ⟨w.heap.size,0,none⟩))) (b := w.heap.size) (o := 0) 4 fd94_4 rfl rfl zN ?_
       refine q_load (p := (padd (.pointer (some ⟨w.heap.size,0,none⟩)) 4)) (.inr rfl) ve one78 rfl (hF10.ldp (i := 4) (by simp)) zN ?_
       refine q_move vv rfl zN ?_
       refine lw_callE 104 [] [] [(.pointer (some ⟨g,0,none⟩)),ve,vv] rfl rfl cf104 zN (c_all F dex (fun d9 h9 => IH2 d9 (by omega)) _ S g vp dp (o) (s0 + 1) (c0) (p) ve (ex.kids) vv (env) (fun b hb => (by have := hS b hb; omega : b < w9.heap.size)) hgS hB9 (hp.chg (good_rdS (good_rFn dp)) (hE9.sub (subS hgS))) (by omega) (by omega) (by omega) (hex.rn.chg (good_rdS (good_rEx dex)) (hE9.sub (subS hgS))) (henv.chg g2 (hE9.sub (subS hgS))) hqenv (by exact hvp) (by omega) (by intro k hk; exact wf_at0 hwf hk (by omega)) (by exact hse) (by intro k hk; have := kd_at (l := ex.kids) (k := k) hk; omega) (by omega)) ?_
       rintro e66 w66 ⟨v66,x66,s66,c66,rfl,hC66,hB66,hr66,hse66,hsb66,hcb66,hrl66⟩
       refine ⟨_,rfl,?_⟩
       have hzs66:=hC66.size
       have hE66 : Chg [g] w w66 := hE9.trans hC66
       have hF70 := hF10.chg hC66 (fun hm => by have := List.mem_singleton.1 hm; omega)
       have hsn66 := hse66.2.1
       have hsr66 := hse66.2.2
       have hcp66 := hse66.1
       have hK := hse66.2.2
       have hKr := hrl66
       refine q_assign v66 rfl zN ?_
       refine lw_nil ?_
       refine wp_seq ?_
       refine wp_seq ?_
       refine wp_plain _ [0,0,0,2,0] rfl ?_
       refine q_move (.pointer (some ⟨g,0,none⟩)) rfl zN ?_
       refine q_nil rfl zN ?_
       refine q_fldP (p := (.pointer (some ⟨g,0,none⟩))) (b := g) (o := 0) 3 fd128_3 rfl rfl zN ?_
       refine q_load (p := (padd (.pointer (some ⟨g,0,none⟩)) 3)) (.inr rfl) (.int .i64 c66) one2 rfl (hB66.ldp (i := 3) (by simp)) zN ?_
       by_cases hc71 : c66 ≠ ((0 :Nat):Int)
       ·
        refine q_neq true rfl rfl (decide_eq_true hc71) zN ?_
        refine lw_nil ?_
        refine c_cond_t rfl ?_
        refine wp_seq ?_
        refine wp_plain _ [0,3,0] rfl ?_
        refine q_move (.pointer (some ⟨g,0,none⟩)) rfl zN ?_
        refine lw_call 156 [] [] [(.pointer (some ⟨g,0,none⟩)),(.int .i64 ((0 :Nat):Int))] rfl rfl cf156 zN (c_impl_evaluation_constant _ S g vp dp (o) (s66) (c66) (p) _ (fun b hb => (by have := hS b hb; omega : b < w66.heap.size)) hgS hB66 (hp.chg (good_rdS (good_rFn dp)) (hE66.sub (subS hgS))) (by omega) (by omega) (by omega) (by omega)) ?_
        rintro e72 w72 ⟨v72_0,rfl,hX72,hO72_0⟩
        refine ⟨_,rfl,hX72,?_⟩
        have hzs72:=hX72.size
        have hE72 : Chg [g] w w72 := hE66.ext hX72
        have hB66x72 := hB66.ext hX72
        have hF70x72 := hF70.ext hX72
        have hN73 := hr66.ext g2 hX72
        refine q_assign v72_0 rfl zN ?_
        refine lw_nil ?_
        refine wp_ret ?_
        refine t_ret ?_
        exact post_ret [6] rfl v72_0 rfl ⟨v72_0,cst (o + 1) ((0 :Nat):Int),s66,c66,rfl,hE72,hB66x72,(RN.of_fr1 hO72_0 (fun b hb => by have := hS b hb; omega)),(by first | assumption | exact cst_ser (by decide) | exact cst_ser (isN_iff.2 (by omega)) | exact hse _ (by omega) | exact hks _ (by omega) | exact addS_ser hK0 | exact redS_ser hK0 | exact proS_ser hK0 | exact sclS_ser hK0 | exact quoS_ser hK0),(by omega),(by omega),(by first | exact rel_code (by omega) | exact rel_budget (by omega) (by omega) | exact rel_num hc00 hs1 (by omega) | exact rel_var hc00 hs1 (by omega) | exact rel_if0 hc00 hs1 (by omega) (by omega) ‹RelV (go c0 (evE _ _ (ex.kids.getD 0 _) _ _)) _ _ _› (by omega) (by assumption) | exact rel_if1 hc00 hs1 (by omega) (by omega) ‹RelV (go c0 (evE _ _ (ex.kids.getD 0 _) _ _)) _ _ _› (by omega) (by assumption) | exact rel_let hc00 hs1 (by omega) (by omega) ‹RelV (go c0 (evE _ _ (ex.kids.getD 0 _) _ _)) _ _ _› (by assumption) | exact rel_kidsE hc00 hs1 hkg.1 hkg.2.1 hkg.2.2.1 hkg.2.2.2 hKr (by omega) | exact rel_call hc00 hs1 (by omega) (by omega) hKr (by omega) (by assumption) | exact rel_loop hc00 hs1 (by omega) (by omega) hKr (by omega) (rel_stop hrl9 (by omega) (by omega)) | exact rel_op hc00 hs1 hkg.1 hkg.2.1 hkg.2.2.1 hkg.2.2.2 (by omega) (by omega) hKr (by omega) (by rw [show c66 = 0 from by omega]; exact op_add (by omega)) | exact rel_op hc00 hs1 hkg.1 hkg.2.1 hkg.2.2.1 hkg.2.2.2 (by omega) (by omega) hKr (by omega) (by rw [show c66 = 0 from by omega]; exact op_sub (by omega)) | exact rel_op hc00 hs1 hkg.1 hkg.2.1 hkg.2.2.1 hkg.2.2.2 (by omega) (by omega) hKr (by omega) (by rw [show c66 = 0 from by omega]; exact op_mul (by omega)) | exact rel_op hc00 hs1 hkg.1 hkg.2.1 hkg.2.2.1 hkg.2.2.2 (by omega) (by omega) hKr (by omega) (by rw [show c66 = 0 from by omega]; exact op_neg (by omega)) | exact rel_op hc00 hs1 hkg.1 hkg.2.1 hkg.2.2.1 hkg.2.2.2 (by omega) (by omega) hKr (by omega) (by rw [show c66 = 0 from by omega]; exact op_div (by omega) (by omega)) | exact rel_op hc00 hs1 hkg.1 hkg.2.1 hkg.2.2.1 hkg.2.2.2 (by omega) (by omega) hKr (by omega) (op_div0 (by omega) (by omega)))⟩
       ·
        refine q_neq false rfl rfl (decide_eq_false hc71) zN ?_
        refine lw_nil ?_
        refine c_cond_f rfl ?_
        refine wp_skip ?_
        refine wp_seq ?_
        refine wp_seq ?_
        refine wp_plain _ [0,2] rfl ?_
        refine q_fldP (p := (.pointer (some ⟨w.heap.size,0,none⟩))) (b := w.heap.size) (o := 0) 0 fd94_0 rfl rfl zN ?_
        refine q_load (p := (padd (.pointer (some ⟨w.heap.size,0,none⟩)) 0)) (.inr rfl) (.int .i64 ex.kind) one2 rfl (hF70.ldp (i := 0) (by simp)) zN ?_
        refine lw_nil ?_
        refine wp_block ?_
        refine wp_seq ?_
        refine wp_plain _ [0,0] rfl ?_
        by_cases hc74 : ex.kind = ((10 :Nat):Int)
        ·
         refine q_eql true rfl rfl (decide_eq_true hc74) zN ?_
         refine q_assign (.bool true) rfl zN ?_
         refine lw_nil ?_
         refine c_cond_t rfl ?_
         refine wp_seq ?_
         refine wp_draw _ [0,0,0,0,0,1,0,1,0,0,1,0,1,0,1,0,4,0] mixed (by kernel_rfl) ?_
         refine q_move (.pointer (some ⟨g,0,none⟩)) rfl zN ?_
         refine q_move (.pointer (some ⟨g,0,none⟩)) rfl zN ?_
         have hvo := hvp.outs (ex.num).toNat (by omega)
         have hvd := hvp.deep (ex.num).toNat (by omega) (ex.pick).toNat (by omega)
         refine q_nil rfl zN ?_
         refine q_fldP (p := (.pointer (some ⟨g,0,none⟩))) (b := g) (o := 0) 0 fd128_0 rfl rfl zN ?_
         refine q_fldP (p := (padd (.pointer (some ⟨g,0,none⟩)) 0)) (b := g) (o := 0) 0 fd32_0 rfl rfl zN ?_
         refine q_load (p := (padd (padd (.pointer (some ⟨g,0,none⟩)) 0) 0)) (.inl rfl) vp one30 rfl (hB66.ldp (i := 0) (by simp)) zN ?_
         refine q_fldP (p := (.pointer (some ⟨w.heap.size,0,none⟩))) (b := w.heap.size) (o := 0) 1 fd94_1 rfl rfl zN ?_
         refine q_load (p := (padd (.pointer (some ⟨w.heap.size,0,none⟩)) 1)) (.inl rfl) (.int .i64 ex.num) one2 rfl (hF70.ldp (i := 1) (by simp)) zN ?_
         refine q_idx (v := vp) ((ex.num).toNat) u30 tiS80 rfl rfl hp.isSl (by omega) (by first | omega | assumption | (simp; done) | (simp; omega)) zN ?_
         obtain ⟨cs75,hr75,hl75⟩ := hp.get (good_rFn dp) Fn.zero (k := ((ex.num).toNat)) (by first | omega | assumption | (simp; done) | (simp; omega))
         obtain ⟨ve75,rfl,hx75⟩ := RF.of hr75
         have hln75 := hx75.rn.lenle
         unfold maxLen at hln75
         refine q_fldL (p := eptr vp ((ex.num).toNat) 3) 2 fd80_2 rfl (hl75 _ (hE66.drew.sub (subS hgS))) zN ?_
         refine q_load (p := (padd (eptr vp ((ex.num).toNat) 3) 2)) (.inl rfl) ve75 one78 rfl ((hl75 _ (hE66.drew.sub (subS hgS))).ld (i := 2) (by simp [exC,fnC])) zN ?_
         refine q_fldP (p := (.pointer (some ⟨w.heap.size,0,none⟩))) (b := w.heap.size) (o := 0) 2 fd94_2 rfl rfl zN ?_
         refine q_load (p := (padd (.pointer (some ⟨w.heap.size,0,none⟩)) 2)) (.inl rfl) (.int .i64 ex.pick) one2 rfl (hF70.ldp (i := 2) (by simp)) zN ?_
         refine q_idx (v := ve75) ((ex.pick).toNat) u78 tiS94 rfl rfl hx75.rn.isSl (by omega) (by first | omega | assumption | (simp; done) | (simp; omega)) zN ?_
         obtain ⟨cs76,hr76,hl76⟩ := hx75.rn.get (good_rEx dp) Ex.zero (k := ((ex.pick).toNat)) (by first | omega | assumption | (simp; done) | (simp; omega))
         obtain ⟨dd76,ve76,hd76,rfl,hx76⟩ := RX.of hr76
         have hln76 := hx76.rn.lenle
         unfold maxLen at hln76
         refine q_loadA (p := eptr ve75 ((ex.pick).toNat) 5) (.inl rfl) [(.int .i64 ((((p.getD ((ex.num).toNat) Fn.zero).outs).getD ((ex.pick).toNat) Ex.zero).kind)),(.int .i64 ((((p.getD ((ex.num).toNat) Fn.zero).outs).getD ((ex.pick).toNat) Ex.zero).num)),(.int .i64 ((((p.getD ((ex.num).toNat) Fn.zero).outs).getD ((ex.pick).toNat) Ex.zero).pick)),(.int .i64 ((((p.getD ((ex.num).toNat) Fn.zero).outs).getD ((ex.pick).toNat) Ex.zero).count)),ve76] agg94 rfl (fun w9 hw9 => hl76 w9 ((hE66.drew.sub (subS hgS)).ext hw9)) rfl zN ?_
         refine q_move v66 rfl zN ?_
         refine lw_callE 135 [] [] [(.pointer (some ⟨g,0,none⟩)),(.agg #[(.int .i64 ((((p.getD ((ex.num).toNat) Fn.zero).outs).getD ((ex.pick).toNat) Ex.zero).kind)),(.int .i64 ((((p.getD ((ex.num).toNat) Fn.zero).outs).getD ((ex.pick).toNat) Ex.zero).num)),(.int .i64 ((((p.getD ((ex.num).toNat) Fn.zero).outs).getD ((ex.pick).toNat) Ex.zero).pick)),(.int .i64 ((((p.getD ((ex.num).toNat) Fn.zero).outs).getD ((ex.pick).toNat) Ex.zero).count)),ve76]),v66] rfl rfl cf135 zN (IH1 (ex.num).toNat (by omega) dd76 _ S g vp dp (o) (s66) (c66) (p) ve76 (((p.getD ((ex.num).toNat) Fn.zero).outs).getD ((ex.pick).toNat) Ex.zero) v66 (x66) (fun b hb => (by have := hS b hb; omega : b < w66.heap.size)) hgS hB66 (hp.chg (good_rdS (good_rFn dp)) (hE66.drew.sub (subS hgS))) (by omega) (by omega) (by omega) ⟨hx76.rng,(hx76.rn.chg (good_rdS (good_rEx dd76)) (hE66.drew.sub (subS hgS)))⟩ hr66 hse66.1 (by exact hvp) (by omega) (by have h9 := hvp.wf (ex.num).toNat (by omega) (ex.pick).toNat (by omega); rw [show ((x66.length :Nat):Int) = (p.getD (ex.num).toNat Fn.zero).params from by omega]; exact h9) (by exact hK) (by omega)) ?_
         rintro e77 w77 ⟨v77,x77,s77,c77,rfl,hC77,hB77,hr77,hse77,hsb77,hcb77,hrl77⟩
         refine ⟨_,rfl,?_⟩
         replace hC77 := hC77.of_drew
         have hzs77:=hC77.size
         have hE77 : Chg [g] w w77 := hE66.trans hC77
         have hF81 := hF70.chg hC77 (fun hm => by have := List.mem_singleton.1 hm; omega)
         have hF82 := hr66.run g2 hgS hC77
         have hsn77 := hse77.1
         refine q_assign v77 rfl zN ?_
         refine lw_nil ?_
         refine wp_ret ?_
         refine b_ret ?_
         refine t_ret ?_
         exact post_ret [6] rfl v77 rfl ⟨v77,x77,s77,c77,rfl,hE77,hB77,hr77,(by first | assumption | exact cst_ser (by decide) | exact cst_ser (isN_iff.2 (by omega)) | exact hse _ (by omega) | exact hks _ (by omega) | exact addS_ser hK0 | exact redS_ser hK0 | exact proS_ser hK0 | exact sclS_ser hK0 | exact quoS_ser hK0),(by omega),(by omega),(by first | exact rel_code (by omega) | exact rel_budget (by omega) (by omega) | exact rel_num hc00 hs1 (by omega) | exact rel_var hc00 hs1 (by omega) | exact rel_if0 hc00 hs1 (by omega) (by omega) ‹RelV (go c0 (evE _ _ (ex.kids.getD 0 _) _ _)) _ _ _› (by omega) (by assumption) | exact rel_if1 hc00 hs1 (by omega) (by omega) ‹RelV (go c0 (evE _ _ (ex.kids.getD 0 _) _ _)) _ _ _› (by omega) (by assumption) | exact rel_let hc00 hs1 (by omega) (by omega) ‹RelV (go c0 (evE _ _ (ex.kids.getD 0 _) _ _)) _ _ _› (by assumption) | exact rel_kidsE hc00 hs1 hkg.1 hkg.2.1 hkg.2.2.1 hkg.2.2.2 hKr (by omega) | exact rel_call hc00 hs1 (by omega) (by omega) hKr (by omega) (by assumption) | exact rel_loop hc00 hs1 (by omega) (by omega) hKr (by omega) (rel_stop hrl9 (by omega) (by omega)) | exact rel_op hc00 hs1 hkg.1 hkg.2.1 hkg.2.2.1 hkg.2.2.2 (by omega) (by omega) hKr (by omega) (by rw [show c77 = 0 from by omega]; exact op_add (by omega)) | exact rel_op hc00 hs1 hkg.1 hkg.2.1 hkg.2.2.1 hkg.2.2.2 (by omega) (by omega) hKr (by omega) (by rw [show c77 = 0 from by omega]; exact op_sub (by omega)) | exact rel_op hc00 hs1 hkg.1 hkg.2.1 hkg.2.2.1 hkg.2.2.2 (by omega) (by omega) hKr (by omega) (by rw [show c77 = 0 from by omega]; exact op_mul (by omega)) | exact rel_op hc00 hs1 hkg.1 hkg.2.1 hkg.2.2.1 hkg.2.2.2 (by omega) (by omega) hKr (by omega) (by rw [show c77 = 0 from by omega]; exact op_neg (by omega)) | exact rel_op hc00 hs1 hkg.1 hkg.2.1 hkg.2.2.1 hkg.2.2.2 (by omega) (by omega) hKr (by omega) (by rw [show c77 = 0 from by omega]; exact op_div (by omega) (by omega)) | exact rel_op hc00 hs1 hkg.1 hkg.2.1 hkg.2.2.1 hkg.2.2.2 (by omega) (by omega) hKr (by omega) (op_div0 (by omega) (by omega)))⟩
        ·
         refine q_eql false rfl rfl (decide_eq_false hc74) zN ?_
         refine q_assign (.bool false) rfl zN ?_
         refine lw_nil ?_
         refine c_cond_f rfl ?_
         refine wp_seq ?_
         refine wp_plain _ [0,0] rfl ?_
         by_cases hc85 : ex.kind = ((11 :Nat):Int)
         ·
          refine q_eql true rfl rfl (decide_eq_true hc85) zN ?_
          refine q_assign (.bool true) rfl zN ?_
          refine lw_nil ?_
          refine c_cond_t rfl ?_
          refine wp_seq ?_
          refine wp_seq ?_
          refine wp_plain _ [0] rfl ?_
          refine q_assign (.int .i64 ((0 :Nat):Int)) rfl zN ?_
          refine lw_nil ?_
          refine wp_block ?_
          refine c_loop (S := Nat × Value × List (List Int) × Nat × Int) (fun (⟨i,vk,ks,s9,c9⟩ : Nat × Value × List (List Int) × Nat × Int) => ([(7,vk),(8,(.int .i64 ((i :Nat):Int))),(0,(.pointer (some ⟨g,0,none⟩))),(4,(.pointer (some ⟨w.heap.size,0,none⟩)))] : List (Nat × Value))) (fun (⟨i,vk,ks,s9,c9⟩ : Nat × Value × List (List Int) × Nat × Int) (W : World) => Chg [g] w W ∧ BX W.heap g [vp,.int .i64 ((o :Nat):Int),.int .i64 ((s9 :Nat):Int),.int .i64 c9] ∧ BX W.heap w.heap.size [(.int .i64 ex.kind),(.int .i64 ex.num),(.int .i64 ex.pick),(.int .i64 ex.count),ve] ∧ i ≤ (ex.count).toNat ∧ RN S (rdL (rdL rI)) W.heap vk ks ∧ CapS vk ∧ ks.length = (p.getD (ex.num).toNat Fn.zero).outs.length ∧ SrE (o + 1) ks ∧ s9 ≤ 3000 ∧ (0 ≤ c9 ∧ c9 ≤ 9) ∧ RelV (lop (fun a t => evs (o + 1) (evC p (o + 1) (ex.num).toNat) (p.getD (ex.num).toNat Fn.zero).outs a t) i x66 s66) ks s9 c9) (fun (⟨i,vk,ks,s9,c9⟩ : Nat × Value × List (List Int) × Nat × Int) => (ex.count).toNat - i) (0,v66,x66,s66,c66) ⟨rfl,rfl,rfl,rfl,trivial⟩ ⟨hE66,hB66,hF70,(by omega),(by assumption),(by assumption),(by omega),(by assumption),(by omega),(by omega),(by exact ⟨rfl,rfl,by omega⟩)⟩ ?_
          clear hE0 hz1 hX1 hzs1 hE1 hz9 hC9 hE9 hzs9 hF10 hC66 hzs66 hE66 hF70
          rintro ⟨i,vk,ks,s9,c9⟩ ρ86 w86 ⟨hE86,hL86_0,hL86_1,hp86_0,hrk,hck,hkl,hks,hp86_5,hp86_6,hrl9⟩
          have hzs86 : w.heap.size ≤ w86.heap.size := hE86.size
          have hq87 := hL86_0.lt
          have hq88 := hL86_1.lt
          refine wp_seq ?_
          refine wp_seq ?_
          refine wp_plain _ [0,0,2,0,0,0,0,0,2,0,0] rfl ?_
          refine q_move (.int .i64 ((i :Nat):Int)) rfl zN ?_
          refine q_fldP (p := (.pointer (some ⟨w.heap.size,0,none⟩))) (b := w.heap.size) (o := 0) 3 fd94_3 rfl rfl zN ?_
          refine q_load (p := (padd (.pointer (some ⟨w.heap.size,0,none⟩)) 3)) (.inr rfl) (.int .i64 ex.count) one2 rfl (hL86_1.ldp (i := 3) (by simp)) zN ?_
          by_cases hc89 : ((i :Nat):Int) < ex.count
          ·
           refine q_lss true rfl rfl (decide_eq_true hc89) zN ?_
           refine q_move (.bool true) rfl zN ?_
           refine q_move (.pointer (some ⟨g,0,none⟩)) rfl (zS (e := 132) rfl rfl rfl) ?_
           refine q_nil rfl (zS (e := 132) rfl rfl rfl) ?_
           refine q_fldP (p := (.pointer (some ⟨g,0,none⟩))) (b := g) (o := 0) 3 fd128_3 rfl rfl (zS (e := 132) rfl rfl rfl) ?_
           refine q_load (p := (padd (.pointer (some ⟨g,0,none⟩)) 3)) (.inr rfl) (.int .i64 c9) one2 rfl (hL86_0.ldp (i := 3) (by simp)) (zS (e := 132) rfl rfl rfl) ?_
           by_cases hc90 : c9 = ((0 :Nat):Int)
           ·
            refine q_eql true rfl rfl (decide_eq_true hc90) (zS (e := 132) rfl rfl rfl) ?_
            refine q_pick true (.bool true) rfl rfl zN ?_
            refine lw_nil ?_
            refine c_cond_t rfl ?_
            refine wp_skip ?_
            refine wp_seq ?_
            refine wp_block ?_
            refine wp_draw _ [0,0,0,0,0,1,0,1,0,0,1,0,4,0] mixed (by kernel_rfl) ?_
            refine q_move (.pointer (some ⟨g,0,none⟩)) rfl zN ?_
            refine q_move (.pointer (some ⟨g,0,none⟩)) rfl zN ?_
            have hvo := hvp.outs (ex.num).toNat (by omega)
            refine q_nil rfl zN ?_
            refine q_fldP (p := (.pointer (some ⟨g,0,none⟩))) (b := g) (o := 0) 0 fd128_0 rfl rfl zN ?_
            refine q_fldP (p := (padd (.pointer (some ⟨g,0,none⟩)) 0)) (b := g) (o := 0) 0 fd32_0 rfl rfl zN ?_
            refine q_load (p := (padd (padd (.pointer (some ⟨g,0,none⟩)) 0) 0)) (.inl rfl) vp one30 rfl (hL86_0.ldp (i := 0) (by simp)) zN ?_
            refine q_fldP (p := (.pointer (some ⟨w.heap.size,0,none⟩))) (b := w.heap.size) (o := 0) 1 fd94_1 rfl rfl zN ?_
            refine q_load (p := (padd (.pointer (some ⟨w.heap.size,0,none⟩)) 1)) (.inl rfl) (.int .i64 ex.num) one2 rfl (hL86_1.ldp (i := 1) (by simp)) zN ?_
            refine q_idx (v := vp) ((ex.num).toNat) u30 tiS80 rfl rfl hp.isSl (by omega) (by first | omega | assumption | (simp; done) | (simp; omega)) zN ?_
            obtain ⟨cs91,hr91,hl91⟩ := hp.get (good_rFn dp) Fn.zero (k := ((ex.num).toNat)) (by first | omega | assumption | (simp; done) | (simp; omega))
            obtain ⟨ve91,rfl,hx91⟩ := RF.of hr91
            have hln91 := hx91.rn.lenle
            unfold maxLen at hln91
            refine q_fldL (p := eptr vp ((ex.num).toNat) 3) 2 fd80_2 rfl (hl91 _ (hE86.drew.sub (subS hgS))) zN ?_
            refine q_load (p := (padd (eptr vp ((ex.num).toNat) 3) 2)) (.inl rfl) ve91 one78 rfl ((hl91 _ (hE86.drew.sub (subS hgS))).ld (i := 2) (by simp [exC,fnC])) zN ?_
            refine q_move vk rfl zN ?_
            refine lw_callE 104 [] [] [(.pointer (some ⟨g,0,none⟩)),ve91,vk] rfl rfl cf104 zN (c_all (ex.num).toNat dp (fun d9 h9 => IH1 (ex.num).toNat (by omega) d9) _ S g vp dp (o) (s9) (c9) (p) ve91 ((p.getD ((ex.num).toNat) Fn.zero).outs) vk (ks) (fun b hb => (by have := hS b hb; omega : b < w86.heap.size)) hgS hL86_0 (hp.chg (good_rdS (good_rFn dp)) (hE86.drew.sub (subS hgS))) (by omega) (by omega) (by omega) (hx91.rn.chg (good_rdS (good_rEx dp)) (hE86.drew.sub (subS hgS))) hrk hck (by exact hvp) (by omega) (by intro k hk; have h9 := hvp.wf (ex.num).toNat (by omega) k hk; rw [show ((ks.length :Nat):Int) = (p.getD (ex.num).toNat Fn.zero).params from by omega]; exact h9) (by exact hks) (by intro k hk; have := hvp.deep (ex.num).toNat (by omega) k hk; omega) (by omega)) ?_
            rintro e92 w92 ⟨v92,x92,s92,c92,rfl,hC92,hB92,hr92,hse92,hsb92,hcb92,hrl92⟩
            refine ⟨_,rfl,?_⟩
            replace hC92 := hC92.of_drew
            have hzs92:=hC92.size
            have hE92 : Chg [g] w w92 := hE86.trans hC92
            have hF96 := hL86_1.chg hC92 (fun hm => by have := List.mem_singleton.1 hm; omega)
            have hF97 := hrk.run g2 hgS hC92
            have hsn92 := hse92.2.1
            have hsr92 := hse92.2.2
            have hcp92 := hse92.1
            refine q_assign v92 rfl zN ?_
            refine lw_nil ?_
            refine wp_plain _ [0,0,0] rfl ?_
            refine q_move (.int .i64 ((i :Nat):Int)) rfl zN ?_
            refine q_add ((i + 1 :Nat):Int) rfl rfl (w64n (by omega) (by omega)) zN ?_
            refine q_assign (.int .i64 ((i + 1 :Nat):Int)) rfl zN ?_
            refine lw_nil ?_
            exact ⟨((i + 1),v92,x92,s92,c92),_,rfl,⟨rfl,rfl,rfl,rfl,trivial⟩,⟨hE92,hB92,hF96,(by omega),(by assumption),(by assumption),(by omega),(by assumption),(by omega),(by omega),(by exact rel_lop hrl9 (by omega) (by assumption))⟩,by first | omega | (dsimp only; omega)⟩
           ·
            refine q_eql false rfl rfl (decide_eq_false hc90) (zS (e := 132) rfl rfl rfl) ?_
            refine q_pick true (.bool false) rfl rfl zN ?_
            refine lw_nil ?_
            refine c_cond_f rfl ?_
            refine wp_exit ?_
            refine t_exit ?_
            refine t_exit ?_
            refine c_exit_here ?_
            refine wp_seq ?_
            refine wp_plain _ [0,0,2,0,2,0] rfl ?_
            refine q_move vk rfl zN ?_
            refine q_fldP (p := (.pointer (some ⟨w.heap.size,0,none⟩))) (b := w.heap.size) (o := 0) 2 fd94_2 rfl rfl zN ?_
            refine q_load (p := (padd (.pointer (some ⟨w.heap.size,0,none⟩)) 2)) (.inr rfl) (.int .i64 ex.pick) one2 rfl (hL86_1.ldp (i := 2) (by simp)) zN ?_
            refine q_idx (v := vk) ((ex.pick).toNat) u27 ti25 rfl rfl hrk.slL (by omega) (by first | omega | assumption | (simp; done) | (simp; omega)) zN ?_
            obtain ⟨ue99,hl99,hr99⟩ := RN.getL (w := w86) g1 [] (k := (ex.pick).toNat) hrk (by first | omega | assumption | (simp; done) | (simp; omega))
            have hln99 := hr99.lenL
            unfold maxLen at hln99
            refine q_load (p := eptr vk ((ex.pick).toNat) 1) (.inr rfl) ue99 one25 rfl (hl99 _ (Chg.refl _ _)) zN ?_
            refine q_assign ue99 rfl zN ?_
            refine lw_nil ?_
            refine wp_ret ?_
            refine b_ret ?_
            refine t_ret ?_
            exact post_ret [6] rfl ue99 rfl ⟨ue99,ks.getD ((ex.pick).toNat) [],s9,c9,rfl,hE86,hL86_0,hr99,(by first | assumption | exact cst_ser (by decide) | exact cst_ser (isN_iff.2 (by omega)) | exact hse _ (by omega) | exact hks _ (by omega) | exact addS_ser hK0 | exact redS_ser hK0 | exact proS_ser hK0 | exact sclS_ser hK0 | exact quoS_ser hK0),(by omega),(by omega),(by first | exact rel_code (by omega) | exact rel_budget (by omega) (by omega) | exact rel_num hc00 hs1 (by omega) | exact rel_var hc00 hs1 (by omega) | exact rel_if0 hc00 hs1 (by omega) (by omega) ‹RelV (go c0 (evE _ _ (ex.kids.getD 0 _) _ _)) _ _ _› (by omega) (by assumption) | exact rel_if1 hc00 hs1 (by omega) (by omega) ‹RelV (go c0 (evE _ _ (ex.kids.getD 0 _) _ _)) _ _ _› (by omega) (by assumption) | exact rel_let hc00 hs1 (by omega) (by omega) ‹RelV (go c0 (evE _ _ (ex.kids.getD 0 _) _ _)) _ _ _› (by assumption) | exact rel_kidsE hc00 hs1 hkg.1 hkg.2.1 hkg.2.2.1 hkg.2.2.2 hKr (by omega) | exact rel_call hc00 hs1 (by omega) (by omega) hKr (by omega) (by assumption) | exact rel_loop hc00 hs1 (by omega) (by omega) hKr (by omega) (rel_stop hrl9 (by omega) (by omega)) | exact rel_op hc00 hs1 hkg.1 hkg.2.1 hkg.2.2.1 hkg.2.2.2 (by omega) (by omega) hKr (by omega) (by rw [show c9 = 0 from by omega]; exact op_add (by omega)) | exact rel_op hc00 hs1 hkg.1 hkg.2.1 hkg.2.2.1 hkg.2.2.2 (by omega) (by omega) hKr (by omega) (by rw [show c9 = 0 from by omega]; exact op_sub (by omega)) | exact rel_op hc00 hs1 hkg.1 hkg.2.1 hkg.2.2.1 hkg.2.2.2 (by omega) (by omega) hKr (by omega) (by rw [show c9 = 0 from by omega]; exact op_mul (by omega)) | exact rel_op hc00 hs1 hkg.1 hkg.2.1 hkg.2.2.1 hkg.2.2.2 (by omega) (by omega) hKr (by omega) (by rw [show c9 = 0 from by omega]; exact op_neg (by omega)) | exact rel_op hc00 hs1 hkg.1 hkg.2.1 hkg.2.2.1 hkg.2.2.2 (by omega) (by omega) hKr (by omega) (by rw [show c9 = 0 from by omega]; exact op_div (by omega) (by omega)) | exact rel_op hc00 hs1 hkg.1 hkg.2.1 hkg.2.2.1 hkg.2.2.2 (by omega) (by omega) hKr (by omega) (op_div0 (by omega) (by omega)))⟩
          ·
           refine q_lss false rfl rfl (decide_eq_false hc89) zN ?_
           refine q_move (.bool false) rfl zN ?_
           refine lw_skip (e := 132) (c := false) rfl rfl rfl rfl ?_
           refine lw_skip (e := 132) (c := false) rfl rfl rfl rfl ?_
           refine lw_skip (e := 132) (c := false) rfl rfl rfl rfl ?_
           refine lw_skip (e := 132) (c := false) rfl rfl rfl rfl ?_
           refine lw_skip (e := 132) (c := false) rfl rfl rfl rfl ?_
           refine q_pick false (.bool false) rfl rfl zN ?_
           refine lw_nil ?_
           refine c_cond_f rfl ?_
           refine wp_exit ?_
           refine t_exit ?_
           refine t_exit ?_
           refine c_exit_here ?_
           refine wp_seq ?_
           refine wp_plain _ [0,0,2,0,2,0] rfl ?_
           refine q_move vk rfl zN ?_
           refine q_fldP (p := (.pointer (some ⟨w.heap.size,0,none⟩))) (b := w.heap.size) (o := 0) 2 fd94_2 rfl rfl zN ?_
           refine q_load (p := (padd (.pointer (some ⟨w.heap.size,0,none⟩)) 2)) (.inr rfl) (.int .i64 ex.pick) one2 rfl (hL86_1.ldp (i := 2) (by simp)) zN ?_
           refine q_idx (v := vk) ((ex.pick).toNat) u27 ti25 rfl rfl hrk.slL (by omega) (by first | omega | assumption | (simp; done) | (simp; omega)) zN ?_
           obtain ⟨ue100,hl100,hr100⟩ := RN.getL (w := w86) g1 [] (k := (ex.pick).toNat) hrk (by first | omega | assumption | (simp; done) | (simp; omega))
           have hln100 := hr100.lenL
           unfold maxLen at hln100
           refine q_load (p := eptr vk ((ex.pick).toNat) 1) (.inr rfl) ue100 one25 rfl (hl100 _ (Chg.refl _ _)) zN ?_
           refine q_assign ue100 rfl zN ?_
           refine lw_nil ?_
           refine wp_ret ?_
           refine b_ret ?_
           refine t_ret ?_
           exact post_ret [6] rfl ue100 rfl ⟨ue100,ks.getD ((ex.pick).toNat) [],s9,c9,rfl,hE86,hL86_0,hr100,(by first | assumption | exact cst_ser (by decide) | exact cst_ser (isN_iff.2 (by omega)) | exact hse _ (by omega) | exact hks _ (by omega) | exact addS_ser hK0 | exact redS_ser hK0 | exact proS_ser hK0 | exact sclS_ser hK0 | exact quoS_ser hK0),(by omega),(by omega),(by first | exact rel_code (by omega) | exact rel_budget (by omega) (by omega) | exact rel_num hc00 hs1 (by omega) | exact rel_var hc00 hs1 (by omega) | exact rel_if0 hc00 hs1 (by omega) (by omega) ‹RelV (go c0 (evE _ _ (ex.kids.getD 0 _) _ _)) _ _ _› (by omega) (by assumption) | exact rel_if1 hc00 hs1 (by omega) (by omega) ‹RelV (go c0 (evE _ _ (ex.kids.getD 0 _) _ _)) _ _ _› (by omega) (by assumption) | exact rel_let hc00 hs1 (by omega) (by omega) ‹RelV (go c0 (evE _ _ (ex.kids.getD 0 _) _ _)) _ _ _› (by assumption) | exact rel_kidsE hc00 hs1 hkg.1 hkg.2.1 hkg.2.2.1 hkg.2.2.2 hKr (by omega) | exact rel_call hc00 hs1 (by omega) (by omega) hKr (by omega) (by assumption) | exact rel_loop hc00 hs1 (by omega) (by omega) hKr (by omega) (rel_stop hrl9 (by omega) (by omega)) | exact rel_op hc00 hs1 hkg.1 hkg.2.1 hkg.2.2.1 hkg.2.2.2 (by omega) (by omega) hKr (by omega) (by rw [show c9 = 0 from by omega]; exact op_add (by omega)) | exact rel_op hc00 hs1 hkg.1 hkg.2.1 hkg.2.2.1 hkg.2.2.2 (by omega) (by omega) hKr (by omega) (by rw [show c9 = 0 from by omega]; exact op_sub (by omega)) | exact rel_op hc00 hs1 hkg.1 hkg.2.1 hkg.2.2.1 hkg.2.2.2 (by omega) (by omega) hKr (by omega) (by rw [show c9 = 0 from by omega]; exact op_mul (by omega)) | exact rel_op hc00 hs1 hkg.1 hkg.2.1 hkg.2.2.1 hkg.2.2.2 (by omega) (by omega) hKr (by omega) (by rw [show c9 = 0 from by omega]; exact op_neg (by omega)) | exact rel_op hc00 hs1 hkg.1 hkg.2.1 hkg.2.2.1 hkg.2.2.2 (by omega) (by omega) hKr (by omega) (by rw [show c9 = 0 from by omega]; exact op_div (by omega) (by omega)) | exact rel_op hc00 hs1 hkg.1 hkg.2.1 hkg.2.2.1 hkg.2.2.2 (by omega) (by omega) hKr (by omega) (op_div0 (by omega) (by omega)))⟩
         ·
          refine q_eql false rfl rfl (decide_eq_false hc85) zN ?_
          refine q_assign (.bool false) rfl zN ?_
          refine lw_nil ?_
          refine c_cond_f rfl ?_
          refine wp_seq ?_
          refine wp_plain _ [0,0] rfl ?_
          by_cases hc101 : ex.kind = ((3 :Nat):Int)
          ·
           refine q_eql true rfl rfl (decide_eq_true hc101) zN ?_
           refine q_assign (.bool true) rfl zN ?_
           refine lw_nil ?_
           refine c_cond_t rfl ?_
           refine wp_seq ?_
           refine wp_draw _ [0,0,1,0,0,1,3,0] mixed (by kernel_rfl) ?_
           have hK0 := hK 0 (by omega)
           have hK1 := hK 1 (by omega)
           have hK1l := hK1.1
           refine q_move v66 rfl zN ?_
           refine q_idx (v := v66) 0 u27 ti25 rfl rfl hr66.slL rfl (by first | omega | assumption | (simp; done) | (simp; omega)) zN ?_
           obtain ⟨ue102,hl102,hr102⟩ := RN.getL (w := w66) g1 [] (k := 0) hr66 (by first | omega | assumption | (simp; done) | (simp; omega))
           have hln102 := hr102.lenL
           unfold maxLen at hln102
           refine q_load (p := eptr v66 0 1) (.inl rfl) ue102 one25 rfl (hl102 _ (Chg.refl _ _).drew) zN ?_
           refine q_move v66 rfl zN ?_
           refine q_idx (v := v66) 1 u27 ti25 rfl rfl hr66.slL rfl (by first | omega | assumption | (simp; done) | (simp; omega)) zN ?_
           obtain ⟨ue103,hl103,hr103⟩ := RN.getL (w := w66) g1 [] (k := 1) hr66 (by first | omega | assumption | (simp; done) | (simp; omega))
           have hln103 := hr103.lenL
           unfold maxLen at hln103
           refine q_load (p := eptr v66 1 1) (.inl rfl) ue103 one25 rfl (hl103 _ (Chg.refl _ _).drew) zN ?_
           refine lw_call 158 [] [] [ue102,ue103] rfl rfl cf158 zN (c_impl_added _ _ _ _ _ (hr102).rd (hr103).rd (by have := hK0.1; omega) (by have := hK0.1; have := hK1.1; omega) (by exact hK0.2) (by exact hK1.2)) ?_
           rintro e104 w104 ⟨v104_0,rfl,hX104,hO104_0⟩
           refine ⟨_,rfl,hX104,?_⟩
           replace hX104 := hX104.of_drew
           have hzs104:=hX104.size
           have hE104 : Chg [g] w w104 := hE66.ext hX104
           have hB66x104 := hB66.ext hX104
           have hF70x104 := hF70.ext hX104
           have hN105 := hr66.ext g2 hX104
           have hN106 := hr102.ext g1 hX104
           have hN107 := hr103.ext g1 hX104
           replace hO104_0 := hO104_0.low (B' := w66.heap.size) (Nat.le_refl _)
           refine q_assign v104_0 rfl zN ?_
           refine lw_nil ?_
           refine wp_ret ?_
           refine b_ret ?_
           refine t_ret ?_
           exact post_ret [6] rfl v104_0 rfl ⟨v104_0,addS (x66.getD 0 []) (x66.getD 1 []),s66,c66,rfl,hE104,hB66x104,(RN.of_fr1 hO104_0 (fun b hb => by have := hS b hb; omega)),(by first | assumption | exact cst_ser (by decide) | exact cst_ser (isN_iff.2 (by omega)) | exact hse _ (by omega) | exact hks _ (by omega) | exact addS_ser hK0 | exact redS_ser hK0 | exact proS_ser hK0 | exact sclS_ser hK0 | exact quoS_ser hK0),(by omega),(by omega),(by first | exact rel_code (by omega) | exact rel_budget (by omega) (by omega) | exact rel_num hc00 hs1 (by omega) | exact rel_var hc00 hs1 (by omega) | exact rel_if0 hc00 hs1 (by omega) (by omega) ‹RelV (go c0 (evE _ _ (ex.kids.getD 0 _) _ _)) _ _ _› (by omega) (by assumption) | exact rel_if1 hc00 hs1 (by omega) (by omega) ‹RelV (go c0 (evE _ _ (ex.kids.getD 0 _) _ _)) _ _ _› (by omega) (by assumption) | exact rel_let hc00 hs1 (by omega) (by omega) ‹RelV (go c0 (evE _ _ (ex.kids.getD 0 _) _ _)) _ _ _› (by assumption) | exact rel_kidsE hc00 hs1 hkg.1 hkg.2.1 hkg.2.2.1 hkg.2.2.2 hKr (by omega) | exact rel_call hc00 hs1 (by omega) (by omega) hKr (by omega) (by assumption) | exact rel_loop hc00 hs1 (by omega) (by omega) hKr (by omega) (rel_stop hrl9 (by omega) (by omega)) | exact rel_op hc00 hs1 hkg.1 hkg.2.1 hkg.2.2.1 hkg.2.2.2 (by omega) (by omega) hKr (by omega) (by rw [show c66 = 0 from by omega]; exact op_add (by omega)) | exact rel_op hc00 hs1 hkg.1 hkg.2.1 hkg.2.2.1 hkg.2.2.2 (by omega) (by omega) hKr (by omega) (by rw [show c66 = 0 from by omega]; exact op_sub (by omega)) | exact rel_op hc00 hs1 hkg.1 hkg.2.1 hkg.2.2.1 hkg.2.2.2 (by omega) (by omega) hKr (by omega) (by rw [show c66 = 0 from by omega]; exact op_mul (by omega)) | exact rel_op hc00 hs1 hkg.1 hkg.2.1 hkg.2.2.1 hkg.2.2.2 (by omega) (by omega) hKr (by omega) (by rw [show c66 = 0 from by omega]; exact op_neg (by omega)) | exact rel_op hc00 hs1 hkg.1 hkg.2.1 hkg.2.2.1 hkg.2.2.2 (by omega) (by omega) hKr (by omega) (by rw [show c66 = 0 from by omega]; exact op_div (by omega) (by omega)) | exact rel_op hc00 hs1 hkg.1 hkg.2.1 hkg.2.2.1 hkg.2.2.2 (by omega) (by omega) hKr (by omega) (op_div0 (by omega) (by omega)))⟩
          ·
           refine q_eql false rfl rfl (decide_eq_false hc101) zN ?_
           refine q_assign (.bool false) rfl zN ?_
           refine lw_nil ?_
           refine c_cond_f rfl ?_
           refine wp_seq ?_
           refine wp_plain _ [0,0] rfl ?_
           by_cases hc108 : ex.kind = ((4 :Nat):Int)
           ·
            refine q_eql true rfl rfl (decide_eq_true hc108) zN ?_
            refine q_assign (.bool true) rfl zN ?_
            refine lw_nil ?_
            refine c_cond_t rfl ?_
            refine wp_seq ?_
            refine wp_draw _ [0,0,1,0,0,1,3,0] mixed (by kernel_rfl) ?_
            have hK0 := hK 0 (by omega)
            have hK1 := hK 1 (by omega)
            have hK1l := hK1.1
            refine q_move v66 rfl zN ?_
            refine q_idx (v := v66) 0 u27 ti25 rfl rfl hr66.slL rfl (by first | omega | assumption | (simp; done) | (simp; omega)) zN ?_
            obtain ⟨ue109,hl109,hr109⟩ := RN.getL (w := w66) g1 [] (k := 0) hr66 (by first | omega | assumption | (simp; done) | (simp; omega))
            have hln109 := hr109.lenL
            unfold maxLen at hln109
            refine q_load (p := eptr v66 0 1) (.inl rfl) ue109 one25 rfl (hl109 _ (Chg.refl _ _).drew) zN ?_
            refine q_move v66 rfl zN ?_
            refine q_idx (v := v66) 1 u27 ti25 rfl rfl hr66.slL rfl (by first | omega | assumption | (simp; done) | (simp; omega)) zN ?_
            obtain ⟨ue110,hl110,hr110⟩ := RN.getL (w := w66) g1 [] (k := 1) hr66 (by first | omega | assumption | (simp; done) | (simp; omega))
            have hln110 := hr110.lenL
            unfold maxLen at hln110
            refine q_load (p := eptr v66 1 1) (.inl rfl) ue110 one25 rfl (hl110 _ (Chg.refl _ _).drew) zN ?_
            refine lw_call 159 [] [] [ue109,ue110] rfl rfl cf159 zN (c_impl_reduced _ _ _ _ _ (hr109).rd (hr110).rd (by have := hK0.1; omega) (by have := hK1.1; omega) (by have := hK0.1; have := hK1.1; omega) (by exact hK0.2) (by exact hK1.2)) ?_
            rintro e111 w111 ⟨v111_0,rfl,hX111,hO111_0⟩
            refine ⟨_,rfl,hX111,?_⟩
            replace hX111 := hX111.of_drew
            have hzs111:=hX111.size
            have hE111 : Chg [g] w w111 := hE66.ext hX111
            have hB66x111 := hB66.ext hX111
            have hF70x111 := hF70.ext hX111
            have hN112 := hr66.ext g2 hX111
            have hN113 := hr109.ext g1 hX111
            have hN114 := hr110.ext g1 hX111
            replace hO111_0 := hO111_0.low (B' := w66.heap.size) (Nat.le_refl _)
            refine q_assign v111_0 rfl zN ?_
            refine lw_nil ?_
            refine wp_ret ?_
            refine b_ret ?_
            refine t_ret ?_
            exact post_ret [6] rfl v111_0 rfl ⟨v111_0,redS (x66.getD 0 []) (x66.getD 1 []),s66,c66,rfl,hE111,hB66x111,(RN.of_fr1 hO111_0 (fun b hb => by have := hS b hb; omega)),(by first | assumption | exact cst_ser (by decide) | exact cst_ser (isN_iff.2 (by omega)) | exact hse _ (by omega) | exact hks _ (by omega) | exact addS_ser hK0 | exact redS_ser hK0 | exact proS_ser hK0 | exact sclS_ser hK0 | exact quoS_ser hK0),(by omega),(by omega),(by first | exact rel_code (by omega) | exact rel_budget (by omega) (by omega) | exact rel_num hc00 hs1 (by omega) | exact rel_var hc00 hs1 (by omega) | exact rel_if0 hc00 hs1 (by omega) (by omega) ‹RelV (go c0 (evE _ _ (ex.kids.getD 0 _) _ _)) _ _ _› (by omega) (by assumption) | exact rel_if1 hc00 hs1 (by omega) (by omega) ‹RelV (go c0 (evE _ _ (ex.kids.getD 0 _) _ _)) _ _ _› (by omega) (by assumption) | exact rel_let hc00 hs1 (by omega) (by omega) ‹RelV (go c0 (evE _ _ (ex.kids.getD 0 _) _ _)) _ _ _› (by assumption) | exact rel_kidsE hc00 hs1 hkg.1 hkg.2.1 hkg.2.2.1 hkg.2.2.2 hKr (by omega) | exact rel_call hc00 hs1 (by omega) (by omega) hKr (by omega) (by assumption) | exact rel_loop hc00 hs1 (by omega) (by omega) hKr (by omega) (rel_stop hrl9 (by omega) (by omega)) | exact rel_op hc00 hs1 hkg.1 hkg.2.1 hkg.2.2.1 hkg.2.2.2 (by omega) (by omega) hKr (by omega) (by rw [show c66 = 0 from by omega]; exact op_add (by omega)) | exact rel_op hc00 hs1 hkg.1 hkg.2.1 hkg.2.2.1 hkg.2.2.2 (by omega) (by omega) hKr (by omega) (by rw [show c66 = 0 from by omega]; exact op_sub (by omega)) | exact rel_op hc00 hs1 hkg.1 hkg.2.1 hkg.2.2.1 hkg.2.2.2 (by omega) (by omega) hKr (by omega) (by rw [show c66 = 0 from by omega]; exact op_mul (by omega)) | exact rel_op hc00 hs1 hkg.1 hkg.2.1 hkg.2.2.1 hkg.2.2.2 (by omega) (by omega) hKr (by omega) (by rw [show c66 = 0 from by omega]; exact op_neg (by omega)) | exact rel_op hc00 hs1 hkg.1 hkg.2.1 hkg.2.2.1 hkg.2.2.2 (by omega) (by omega) hKr (by omega) (by rw [show c66 = 0 from by omega]; exact op_div (by omega) (by omega)) | exact rel_op hc00 hs1 hkg.1 hkg.2.1 hkg.2.2.1 hkg.2.2.2 (by omega) (by omega) hKr (by omega) (op_div0 (by omega) (by omega)))⟩
           ·
            refine q_eql false rfl rfl (decide_eq_false hc108) zN ?_
            refine q_assign (.bool false) rfl zN ?_
            refine lw_nil ?_
            refine c_cond_f rfl ?_
            refine wp_seq ?_
            refine wp_plain _ [0,0] rfl ?_
            by_cases hc115 : ex.kind = ((5 :Nat):Int)
            ·
             refine q_eql true rfl rfl (decide_eq_true hc115) zN ?_
             refine q_assign (.bool true) rfl zN ?_
             refine lw_nil ?_
             refine c_cond_t rfl ?_
             refine wp_seq ?_
             refine wp_draw _ [0,0,1,0,0,1,3,0] mixed (by kernel_rfl) ?_
             have hK0 := hK 0 (by omega)
             have hK1 := hK 1 (by omega)
             have hK1l := hK1.1
             refine q_move v66 rfl zN ?_
             refine q_idx (v := v66) 0 u27 ti25 rfl rfl hr66.slL rfl (by first | omega | assumption | (simp; done) | (simp; omega)) zN ?_
             obtain ⟨ue116,hl116,hr116⟩ := RN.getL (w := w66) g1 [] (k := 0) hr66 (by first | omega | assumption | (simp; done) | (simp; omega))
             have hln116 := hr116.lenL
             unfold maxLen at hln116
             refine q_load (p := eptr v66 0 1) (.inl rfl) ue116 one25 rfl (hl116 _ (Chg.refl _ _).drew) zN ?_
             refine q_move v66 rfl zN ?_
             refine q_idx (v := v66) 1 u27 ti25 rfl rfl hr66.slL rfl (by first | omega | assumption | (simp; done) | (simp; omega)) zN ?_
             obtain ⟨ue117,hl117,hr117⟩ := RN.getL (w := w66) g1 [] (k := 1) hr66 (by first | omega | assumption | (simp; done) | (simp; omega))
             have hln117 := hr117.lenL
             unfold maxLen at hln117
             refine q_load (p := eptr v66 1 1) (.inl rfl) ue117 one25 rfl (hl117 _ (Chg.refl _ _).drew) zN ?_
             refine lw_call 160 [] [] [ue116,ue117] rfl rfl cf160 zN (c_impl_product _ _ _ _ _ (hr116).rd (hr117).rd (by have := hK0.1; omega) (by have := hK0.1; have := hK1.1; omega) (by exact hK0.2) (by exact hK1.2)) ?_
             rintro e118 w118 ⟨v118_0,rfl,hX118,hO118_0⟩
             refine ⟨_,rfl,hX118,?_⟩
             replace hX118 := hX118.of_drew
             have hzs118:=hX118.size
             have hE118 : Chg [g] w w118 := hE66.ext hX118
             have hB66x118 := hB66.ext hX118
             have hF70x118 := hF70.ext hX118
             have hN119 := hr66.ext g2 hX118
             have hN120 := hr116.ext g1 hX118
             have hN121 := hr117.ext g1 hX118
             replace hO118_0 := hO118_0.low (B' := w66.heap.size) (Nat.le_refl _)
             refine q_assign v118_0 rfl zN ?_
             refine lw_nil ?_
             refine wp_ret ?_
             refine b_ret ?_
             refine t_ret ?_
             exact post_ret [6] rfl v118_0 rfl ⟨v118_0,proS (x66.getD 0 []) (x66.getD 1 []),s66,c66,rfl,hE118,hB66x118,(RN.of_fr1 hO118_0 (fun b hb => by have := hS b hb; omega)),(by first | assumption | exact cst_ser (by decide) | exact cst_ser (isN_iff.2 (by omega)) | exact hse _ (by omega) | exact hks _ (by omega) | exact addS_ser hK0 | exact redS_ser hK0 | exact proS_ser hK0 | exact sclS_ser hK0 | exact quoS_ser hK0),(by omega),(by omega),(by first | exact rel_code (by omega) | exact rel_budget (by omega) (by omega) | exact rel_num hc00 hs1 (by omega) | exact rel_var hc00 hs1 (by omega) | exact rel_if0 hc00 hs1 (by omega) (by omega) ‹RelV (go c0 (evE _ _ (ex.kids.getD 0 _) _ _)) _ _ _› (by omega) (by assumption) | exact rel_if1 hc00 hs1 (by omega) (by omega) ‹RelV (go c0 (evE _ _ (ex.kids.getD 0 _) _ _)) _ _ _› (by omega) (by assumption) | exact rel_let hc00 hs1 (by omega) (by omega) ‹RelV (go c0 (evE _ _ (ex.kids.getD 0 _) _ _)) _ _ _› (by assumption) | exact rel_kidsE hc00 hs1 hkg.1 hkg.2.1 hkg.2.2.1 hkg.2.2.2 hKr (by omega) | exact rel_call hc00 hs1 (by omega) (by omega) hKr (by omega) (by assumption) | exact rel_loop hc00 hs1 (by omega) (by omega) hKr (by omega) (rel_stop hrl9 (by omega) (by omega)) | exact rel_op hc00 hs1 hkg.1 hkg.2.1 hkg.2.2.1 hkg.2.2.2 (by omega) (by omega) hKr (by omega) (by rw [show c66 = 0 from by omega]; exact op_add (by omega)) | exact rel_op hc00 hs1 hkg.1 hkg.2.1 hkg.2.2.1 hkg.2.2.2 (by omega) (by omega) hKr (by omega) (by rw [show c66 = 0 from by omega]; exact op_sub (by omega)) | exact rel_op hc00 hs1 hkg.1 hkg.2.1 hkg.2.2.1 hkg.2.2.2 (by omega) (by omega) hKr (by omega) (by rw [show c66 = 0 from by omega]; exact op_mul (by omega)) | exact rel_op hc00 hs1 hkg.1 hkg.2.1 hkg.2.2.1 hkg.2.2.2 (by omega) (by omega) hKr (by omega) (by rw [show c66 = 0 from by omega]; exact op_neg (by omega)) | exact rel_op hc00 hs1 hkg.1 hkg.2.1 hkg.2.2.1 hkg.2.2.2 (by omega) (by omega) hKr (by omega) (by rw [show c66 = 0 from by omega]; exact op_div (by omega) (by omega)) | exact rel_op hc00 hs1 hkg.1 hkg.2.1 hkg.2.2.1 hkg.2.2.2 (by omega) (by omega) hKr (by omega) (op_div0 (by omega) (by omega)))⟩
            ·
             refine q_eql false rfl rfl (decide_eq_false hc115) zN ?_
             refine q_assign (.bool false) rfl zN ?_
             refine lw_nil ?_
             refine c_cond_f rfl ?_
             refine wp_seq ?_
             refine wp_plain _ [0,0] rfl ?_
             by_cases hc122 : ex.kind = ((7 :Nat):Int)
             ·
              refine q_eql true rfl rfl (decide_eq_true hc122) zN ?_
              refine q_assign (.bool true) rfl zN ?_
              refine lw_nil ?_
              refine c_cond_t rfl ?_
              refine wp_seq ?_
              refine wp_plain _ [0,0,2,3,0] rfl ?_
              have hK0 := hK 0 (by omega)
              refine q_move v66 rfl zN ?_
              refine q_idx (v := v66) 0 u27 ti25 rfl rfl hr66.slL rfl (by first | omega | assumption | (simp; done) | (simp; omega)) zN ?_
              obtain ⟨ue123,hl123,hr123⟩ := RN.getL (w := w66) g1 [] (k := 0) hr66 (by first | omega | assumption | (simp; done) | (simp; omega))
              have hln123 := hr123.lenL
              unfold maxLen at hln123
              refine q_load (p := eptr v66 0 1) (.inr rfl) ue123 one25 rfl (hl123 _ (Chg.refl _ _)) zN ?_
              refine lw_call 161 [] [] [ue123,(.int .i64 ((1000002 :Nat):Int))] rfl rfl cf161 zN (c_impl_scaled _ _ _ _ (hr123).rd (by omega) (by have := hK0.1; omega) (by exact hK0.2) (by omega)) ?_
              rintro e124 w124 ⟨v124_0,rfl,hX124,hO124_0⟩
              refine ⟨_,rfl,hX124,?_⟩
              have hzs124:=hX124.size
              have hE124 : Chg [g] w w124 := hE66.ext hX124
              have hB66x124 := hB66.ext hX124
              have hF70x124 := hF70.ext hX124
              have hN125 := hr66.ext g2 hX124
              have hN126 := hr123.ext g1 hX124
              refine q_assign v124_0 rfl zN ?_
              refine lw_nil ?_
              refine wp_ret ?_
              refine b_ret ?_
              refine t_ret ?_
              exact post_ret [6] rfl v124_0 rfl ⟨v124_0,sclS (x66.getD 0 []) ((1000002 :Nat):Int),s66,c66,rfl,hE124,hB66x124,(RN.of_fr1 hO124_0 (fun b hb => by have := hS b hb; omega)),(by first | assumption | exact cst_ser (by decide) | exact cst_ser (isN_iff.2 (by omega)) | exact hse _ (by omega) | exact hks _ (by omega) | exact addS_ser hK0 | exact redS_ser hK0 | exact proS_ser hK0 | exact sclS_ser hK0 | exact quoS_ser hK0),(by omega),(by omega),(by first | exact rel_code (by omega) | exact rel_budget (by omega) (by omega) | exact rel_num hc00 hs1 (by omega) | exact rel_var hc00 hs1 (by omega) | exact rel_if0 hc00 hs1 (by omega) (by omega) ‹RelV (go c0 (evE _ _ (ex.kids.getD 0 _) _ _)) _ _ _› (by omega) (by assumption) | exact rel_if1 hc00 hs1 (by omega) (by omega) ‹RelV (go c0 (evE _ _ (ex.kids.getD 0 _) _ _)) _ _ _› (by omega) (by assumption) | exact rel_let hc00 hs1 (by omega) (by omega) ‹RelV (go c0 (evE _ _ (ex.kids.getD 0 _) _ _)) _ _ _› (by assumption) | exact rel_kidsE hc00 hs1 hkg.1 hkg.2.1 hkg.2.2.1 hkg.2.2.2 hKr (by omega) | exact rel_call hc00 hs1 (by omega) (by omega) hKr (by omega) (by assumption) | exact rel_loop hc00 hs1 (by omega) (by omega) hKr (by omega) (rel_stop hrl9 (by omega) (by omega)) | exact rel_op hc00 hs1 hkg.1 hkg.2.1 hkg.2.2.1 hkg.2.2.2 (by omega) (by omega) hKr (by omega) (by rw [show c66 = 0 from by omega]; exact op_add (by omega)) | exact rel_op hc00 hs1 hkg.1 hkg.2.1 hkg.2.2.1 hkg.2.2.2 (by omega) (by omega) hKr (by omega) (by rw [show c66 = 0 from by omega]; exact op_sub (by omega)) | exact rel_op hc00 hs1 hkg.1 hkg.2.1 hkg.2.2.1 hkg.2.2.2 (by omega) (by omega) hKr (by omega) (by rw [show c66 = 0 from by omega]; exact op_mul (by omega)) | exact rel_op hc00 hs1 hkg.1 hkg.2.1 hkg.2.2.1 hkg.2.2.2 (by omega) (by omega) hKr (by omega) (by rw [show c66 = 0 from by omega]; exact op_neg (by omega)) | exact rel_op hc00 hs1 hkg.1 hkg.2.1 hkg.2.2.1 hkg.2.2.2 (by omega) (by omega) hKr (by omega) (by rw [show c66 = 0 from by omega]; exact op_div (by omega) (by omega)) | exact rel_op hc00 hs1 hkg.1 hkg.2.1 hkg.2.2.1 hkg.2.2.2 (by omega) (by omega) hKr (by omega) (op_div0 (by omega) (by omega)))⟩
             ·
              refine q_eql false rfl rfl (decide_eq_false hc122) zN ?_
              refine q_assign (.bool false) rfl zN ?_
              refine lw_nil ?_
              refine c_cond_f rfl ?_
              refine wp_skip ?_
              refine wp_seq ?_
              refine wp_seq ?_
              refine wp_plain _ [0,0,2,0,2,0] rfl ?_
              have hK0 := hK 0 (by omega)
              have hK1 := hK 1 (by omega)
              have hK1l := hK1.1
              refine q_move v66 rfl zN ?_
              refine q_idx (v := v66) 1 u27 ti25 rfl rfl hr66.slL rfl (by first | omega | assumption | (simp; done) | (simp; omega)) zN ?_
              obtain ⟨ue127,hl127,hr127⟩ := RN.getL (w := w66) g1 [] (k := 1) hr66 (by first | omega | assumption | (simp; done) | (simp; omega))
              have hln127 := hr127.lenL
              unfold maxLen at hln127
              refine q_load (p := eptr v66 1 1) (.inr rfl) ue127 one25 rfl (hl127 _ (Chg.refl _ _)) zN ?_
              refine q_idx (v := ue127) 0 u25 ti2 rfl rfl hr127.slL rfl (by first | omega | assumption | (simp; done) | (simp; omega)) zN ?_
              have hg128 := RN.getI (w := w66) (k := 0) hr127 (by first | omega | assumption | (simp; done) | (simp; omega))
              refine q_load (p := eptr ue127 0 1) (.inr rfl) (.int .i64 ((x66.getD 1 []).getD 0 0)) one2 rfl (hg128.1 _ (Chg.refl _ _)) zN ?_
              by_cases hc129 : (x66.getD 1 []).getD 0 0 = ((0 :Nat):Int)
              ·
               refine q_eql true rfl rfl (decide_eq_true hc129) zN ?_
               refine lw_nil ?_
               refine c_cond_t rfl ?_
               refine wp_seq ?_
               refine wp_plain _ [0,0,0,4] rfl ?_
               refine q_move (.pointer (some ⟨g,0,none⟩)) rfl zN ?_
               refine q_nil rfl zN ?_
               refine q_fldP (p := (.pointer (some ⟨g,0,none⟩))) (b := g) (o := 0) 3 fd128_3 rfl rfl zN ?_
               refine e_setB (k := 3) (w := w66) sz2 rfl rfl ⟨rfl,rfl⟩ hB66 (by simp) zN ?_
               intro w130 hC130 hz130 hB130
               replace hB130 : BX w130.heap g [vp,(.int .i64 ((o :Nat):Int)),(.int .i64 ((s66 :Nat):Int)),(.int .i64 ((6 :Nat):Int))] := hB130
               have hE130 : Chg [g] w w130 := hE66.trans hC130
               have hzs130:=hC130.size
               have hF131 := hF70.chg hC130 (fun hm => by have := List.mem_singleton.1 hm; omega)
               have hN132 := hr66.run g2 hgS hC130
               have hN133 := hr127.run g1 hgS hC130
               refine lw_nil ?_
               refine wp_seq ?_
               refine wp_plain _ [0,3,0] rfl ?_
               refine q_move (.pointer (some ⟨g,0,none⟩)) rfl zN ?_
               refine lw_call 156 [] [] [(.pointer (some ⟨g,0,none⟩)),(.int .i64 ((0 :Nat):Int))] rfl rfl cf156 zN (c_impl_evaluation_constant _ S g vp dp (o) (s66) (((6 :Nat):Int)) (p) _ (fun b hb => (by have := hS b hb; omega : b < w130.heap.size)) hgS hB130 (hp.chg (good_rdS (good_rFn dp)) (hE130.sub (subS hgS))) (by omega) (by omega) (by omega) (by omega)) ?_
               rintro e134 w134 ⟨v134_0,rfl,hX134,hO134_0⟩
               refine ⟨_,rfl,hX134,?_⟩
               have hzs134:=hX134.size
               have hE134 : Chg [g] w w134 := hE130.ext hX134
               have hB130x134 := hB130.ext hX134
               have hF131x134 := hF131.ext hX134
               have hN135 := hN132.ext g2 hX134
               have hN136 := hN133.ext g1 hX134
               refine q_assign v134_0 rfl zN ?_
               refine lw_nil ?_
               refine wp_ret ?_
               refine t_ret ?_
               exact post_ret [6] rfl v134_0 rfl ⟨v134_0,cst (o + 1) ((0 :Nat):Int),s66,((6 :Nat):Int),rfl,hE134,hB130x134,(RN.of_fr1 hO134_0 (fun b hb => by have := hS b hb; omega)),(by first | assumption | exact cst_ser (by decide) | exact cst_ser (isN_iff.2 (by omega)) | exact hse _ (by omega) | exact hks _ (by omega) | exact addS_ser hK0 | exact redS_ser hK0 | exact proS_ser hK0 | exact sclS_ser hK0 | exact quoS_ser hK0),(by omega),(by omega),(by first | exact rel_code (by omega) | exact rel_budget (by omega) (by omega) | exact rel_num hc00 hs1 (by omega) | exact rel_var hc00 hs1 (by omega) | exact rel_if0 hc00 hs1 (by omega) (by omega) ‹RelV (go c0 (evE _ _ (ex.kids.getD 0 _) _ _)) _ _ _› (by omega) (by assumption) | exact rel_if1 hc00 hs1 (by omega) (by omega) ‹RelV (go c0 (evE _ _ (ex.kids.getD 0 _) _ _)) _ _ _› (by omega) (by assumption) | exact rel_let hc00 hs1 (by omega) (by omega) ‹RelV (go c0 (evE _ _ (ex.kids.getD 0 _) _ _)) _ _ _› (by assumption) | exact rel_kidsE hc00 hs1 hkg.1 hkg.2.1 hkg.2.2.1 hkg.2.2.2 hKr (by omega) | exact rel_call hc00 hs1 (by omega) (by omega) hKr (by omega) (by assumption) | exact rel_loop hc00 hs1 (by omega) (by omega) hKr (by omega) (rel_stop hrl9 (by omega) (by omega)) | exact rel_op hc00 hs1 hkg.1 hkg.2.1 hkg.2.2.1 hkg.2.2.2 (by omega) (by omega) hKr (by omega) (by rw [show ((6 :Nat):Int) = 0 from by omega]; exact op_add (by omega)) | exact rel_op hc00 hs1 hkg.1 hkg.2.1 hkg.2.2.1 hkg.2.2.2 (by omega) (by omega) hKr (by omega) (by rw [show ((6 :Nat):Int) = 0 from by omega]; exact op_sub (by omega)) | exact rel_op hc00 hs1 hkg.1 hkg.2.1 hkg.2.2.1 hkg.2.2.2 (by omega) (by omega) hKr (by omega) (by rw [show ((6 :Nat):Int) = 0 from by omega]; exact op_mul (by omega)) | exact rel_op hc00 hs1 hkg.1 hkg.2.1 hkg.2.2.1 hkg.2.2.2 (by omega) (by omega) hKr (by omega) (by rw [show ((6 :Nat):Int) = 0 from by omega]; exact op_neg (by omega)) | exact rel_op hc00 hs1 hkg.1 hkg.2.1 hkg.2.2.1 hkg.2.2.2 (by omega) (by omega) hKr (by omega) (by rw [show ((6 :Nat):Int) = 0 from by omega]; exact op_div (by omega) (by omega)) | exact rel_op hc00 hs1 hkg.1 hkg.2.1 hkg.2.2.1 hkg.2.2.2 (by omega) (by omega) hKr (by omega) (op_div0 (by omega) (by omega)))⟩
              ·
               refine q_eql false rfl rfl (decide_eq_false hc129) zN ?_
               refine lw_nil ?_
               refine c_cond_f rfl ?_
               refine wp_skip ?_
               refine wp_seq ?_
               refine wp_draw _ [0,0,1,0,0,1,3,0] mixed (by kernel_rfl) ?_
               refine q_move v66 rfl zN ?_
               refine q_idx (v := v66) 0 u27 ti25 rfl rfl hr66.slL rfl (by first | omega | assumption | (simp; done) | (simp; omega)) zN ?_
               obtain ⟨ue137,hl137,hr137⟩ := RN.getL (w := w66) g1 [] (k := 0) hr66 (by first | omega | assumption | (simp; done) | (simp; omega))
               have hln137 := hr137.lenL
               unfold maxLen at hln137
               refine q_load (p := eptr v66 0 1) (.inl rfl) ue137 one25 rfl (hl137 _ (Chg.refl _ _).drew) zN ?_
               refine q_move v66 rfl zN ?_
               refine q_idx (v := v66) 1 u27 ti25 rfl rfl hr66.slL rfl (by first | omega | assumption | (simp; done) | (simp; omega)) zN ?_
               obtain ⟨ue138,hl138,hr138⟩ := RN.getL (w := w66) g1 [] (k := 1) hr66 (by first | omega | assumption | (simp; done) | (simp; omega))
               have hln138 := hr138.lenL
               unfold maxLen at hln138
               refine q_load (p := eptr v66 1 1) (.inl rfl) ue138 one25 rfl (hl138 _ (Chg.refl _ _).drew) zN ?_
               refine lw_call 162 [] [] [ue137,ue138] rfl rfl cf162 zN (c_impl_quotient _ _ _ _ _ (hr137).rd (hr138).rd (by have := hK0.1; omega) (by have := hK0.1; have := hK1.1; omega) (by have := hK1.1; omega) (by exact hK0.2) (by exact hK1.2)) ?_
               rintro e139 w139 ⟨v139_0,rfl,hX139,hO139_0⟩
               refine ⟨_,rfl,hX139,?_⟩
               replace hX139 := hX139.of_drew
               have hzs139:=hX139.size
               have hE139 : Chg [g] w w139 := hE66.ext hX139
               have hB66x139 := hB66.ext hX139
               have hF70x139 := hF70.ext hX139
               have hN140 := hr66.ext g2 hX139
               have hN141 := hr127.ext g1 hX139
               have hN142 := hr137.ext g1 hX139
               have hN143 := hr138.ext g1 hX139
               replace hO139_0 := hO139_0.low (B' := w66.heap.size) (Nat.le_refl _)
               refine q_assign v139_0 rfl zN ?_
               refine lw_nil ?_
               refine wp_ret ?_
               exact post_ret [6] rfl v139_0 rfl ⟨v139_0,quoS (x66.getD 0 []) (x66.getD 1 []),s66,c66,rfl,hE139,hB66x139,(RN.of_fr1 hO139_0 (fun b hb => by have := hS b hb; omega)),(by first | assumption | exact cst_ser (by decide) | exact cst_ser (isN_iff.2 (by omega)) | exact hse _ (by omega) | exact hks _ (by omega) | exact addS_ser hK0 | exact redS_ser hK0 | exact proS_ser hK0 | exact sclS_ser hK0 | exact quoS_ser hK0),(by omega),(by omega),(by first | exact rel_code (by omega) | exact rel_budget (by omega) (by omega) | exact rel_num hc00 hs1 (by omega) | exact rel_var hc00 hs1 (by omega) | exact rel_if0 hc00 hs1 (by omega) (by omega) ‹RelV (go c0 (evE _ _ (ex.kids.getD 0 _) _ _)) _ _ _› (by omega) (by assumption) | exact rel_if1 hc00 hs1 (by omega) (by omega) ‹RelV (go c0 (evE _ _ (ex.kids.getD 0 _) _ _)) _ _ _› (by omega) (by assumption) | exact rel_let hc00 hs1 (by omega) (by omega) ‹RelV (go c0 (evE _ _ (ex.kids.getD 0 _) _ _)) _ _ _› (by assumption) | exact rel_kidsE hc00 hs1 hkg.1 hkg.2.1 hkg.2.2.1 hkg.2.2.2 hKr (by omega) | exact rel_call hc00 hs1 (by omega) (by omega) hKr (by omega) (by assumption) | exact rel_loop hc00 hs1 (by omega) (by omega) hKr (by omega) (rel_stop hrl9 (by omega) (by omega)) | exact rel_op hc00 hs1 hkg.1 hkg.2.1 hkg.2.2.1 hkg.2.2.2 (by omega) (by omega) hKr (by omega) (by rw [show c66 = 0 from by omega]; exact op_add (by omega)) | exact rel_op hc00 hs1 hkg.1 hkg.2.1 hkg.2.2.1 hkg.2.2.2 (by omega) (by omega) hKr (by omega) (by rw [show c66 = 0 from by omega]; exact op_sub (by omega)) | exact rel_op hc00 hs1 hkg.1 hkg.2.1 hkg.2.2.1 hkg.2.2.2 (by omega) (by omega) hKr (by omega) (by rw [show c66 = 0 from by omega]; exact op_mul (by omega)) | exact rel_op hc00 hs1 hkg.1 hkg.2.1 hkg.2.2.1 hkg.2.2.2 (by omega) (by omega) hKr (by omega) (by rw [show c66 = 0 from by omega]; exact op_neg (by omega)) | exact rel_op hc00 hs1 hkg.1 hkg.2.1 hkg.2.2.1 hkg.2.2.2 (by omega) (by omega) hKr (by omega) (by rw [show c66 = 0 from by omega]; exact op_div (by omega) (by omega)) | exact rel_op hc00 hs1 hkg.1 hkg.2.1 hkg.2.2.1 hkg.2.2.2 (by omega) (by omega) hKr (by omega) (op_div0 (by omega) (by omega)))⟩
end Go.Proofs.YtnofbmdpabcjaaaGreat
namespace Go.Proofs.YtnofbmdpabcjaaaGreat
open Go Go.RowKit
set_option linter.unusedVariables false
set_option linter.unusedSimpArgs false
attribute [local irreducible] LW
theorem c_value : ∀ F d,PV F d := by
 intro F
 induction F using Nat.strongRecOn with
 | _ F ihF =>
  intro d
  induction d using Nat.strongRecOn with
  | _ d ihd =>
   intro w S g vp dp o s0 c0 p ve ex vv env hS hgS hB0 hp ho hs0 hc0 hex henv hqenv hvp hF hwf hse hdp
   exact c_impl_evaluation_value w S F g vp dp o s0 c0 p d ve ex vv env hS hgS hB0 hp ho hs0 hc0 hex henv hqenv hvp hF hwf hse hdp ihF ihd
theorem c_alls (F d : Nat) : PA F d := c_all F d fun d' _ => c_value F d'
set_option maxHeartbeats 4000000 in
set_option maxRecDepth 100000 in
theorem c_impl_Program_evaluated (w : World) (dp : Nat) (vp : Value) (p : List Fn) (f : Int) (va : Value) (a : List (List Int)) (o : Nat) (hp : RP [] dp w.heap vp p) (_hf : -9223372036854775808 ≤ f ∧ f ≤ 9223372036854775807) (ha : RN [] (rdL (rdL rI)) w.heap va a) (hqa : CapS va) (hvp : VPr p) (hf : 0 ≤ f ∧ f < ((p.length :Nat):Int)) (hl : ((a.length :Nat):Int) = (p.getD f.toNat Fn.zero).params) (hse : SrE (o + 1) a) (ho : o ≤ 12) :
  Calls Tryz.prog 69 #[(.agg #[vp]),.int .i64 f,va,.int .i64 ((o :Nat):Int)] w (fun e w' => ∃ v0 : Value,e = .returned (.tuple #[v0,.int .i64 ((evT p (o + 1) f.toNat a :Nat):Int),.int .i64 (evD p (o + 1) f.toNat a)]) ∧ Ext w w' ∧ Fr (owL (owL rI 2) 25) w.heap.size w'.heap.size w'.heap v0 (evR p (o + 1) f.toNat a) ∧ EvP p (o + 1) f.toNat a) := by
 refine calls_mk [(.agg #[vp]),.int .i64 f,va,.int .i64 ((o :Nat):Int)] 56 Tryz.func69 rfl rfl (by simp) ?_
 have hE0 : Ext w w := Ext.refl w
 have hl_vp := hp.lenle
 unfold maxLen at hl_vp
 have hl_va := ha.lenL
 unfold maxLen at hl_va
 refine wp_seq ?_
 refine wp_plain _ [3,0,0,0] rfl ?_
 refine r_boxA (cs := #[vp]) rfl zN ?_
 intro w1 hX1 hz1 hB1
 have hzs1:=hX1.size
 have hE1:=hE0.trans hX1
 replace hB1 : BX w1.heap w.heap.size [vp] := hB1
 refine q_assign (.slice none 0 0) rfl zN ?_
 refine q_assign (.int .i64 ((0 :Nat):Int)) rfl zN ?_
 refine q_assign (.int .i64 ((0 :Nat):Int)) rfl zN ?_
 refine lw_nil ?_
 refine wp_seq ?_
 refine wp_plain _ [2,0,0,3,0] rfl ?_
 refine q_loadA (p := (.pointer (some ⟨w.heap.size,0,none⟩))) (.inr rfl) [vp] agg32 rfl (fun w9 hw9 => LD.of_box (BX.ext (w := w1) hB1 hw9)) rfl zN ?_
 refine q_move (.int .i64 ((o :Nat):Int)) rfl zN ?_
 have hbd2 : ∀ (vp : Value) (m2_0 : Nat) (h2_0 : isSl vp m2_0) (wq : World),(Instr.build 128 #[(0,(.agg #[vp])),(1,(.int .i64 ((o :Nat):Int)))]).run Tryz.prog wq = .ok (.agg #[vp,(.int .i64 ((o :Nat):Int)),(.int .i64 0),(.int .i64 0)]) wq := by intro vp m2_0 h2_0 wq; obtain ⟨a2_0,c2_0,rfl,_⟩ := h2_0; kernel_rfl
 refine q_build (ps := #[(0,(.agg #[vp])),(1,(.int .i64 ((o :Nat):Int)))]) (.agg #[vp,(.int .i64 ((o :Nat):Int)),(.int .i64 0),(.int .i64 0)]) (by simp only [List.map_toArray,List.map_cons,List.map_nil]; rfl) (fun wq => hbd2 vp _ hp.isSl wq) zN ?_
 have hq4 := hB1.lt
 refine r_boxA (cs := #[vp,(.int .i64 ((o :Nat):Int)),(.int .i64 0),(.int .i64 0)]) rfl zN ?_
 intro w3 hX3 hz3 hB3
 have hzs3:=hX3.size
 have hE3:=hE1.trans hX3
 have hB1x3 := hB1.ext hX3
 replace hB3 : BX w3.heap w1.heap.size [vp,(.int .i64 ((o :Nat):Int)),(.int .i64 0),(.int .i64 0)] := hB3
 refine q_assign (.pointer (some ⟨w1.heap.size,0,none⟩)) rfl zN ?_
 refine lw_nil ?_
 refine wp_seq ?_
 refine wp_plain _ [0,0,2,0,0,0,2,0,4,0] rfl ?_
 have hpr := hvp.par f.toNat (by omega)
 have hou := hvp.outs f.toNat (by omega)
 refine q_move (.pointer (some ⟨w1.heap.size,0,none⟩)) rfl zN ?_
 refine q_fldP (p := (.pointer (some ⟨w.heap.size,0,none⟩))) (b := w.heap.size) (o := 0) 0 fd32_0 rfl rfl zN ?_
 refine q_load (p := (padd (.pointer (some ⟨w.heap.size,0,none⟩)) 0)) (.inr rfl) vp one30 rfl (hB1x3.ldp (i := 0) (by simp)) zN ?_
 refine q_move (.int .i64 f) rfl zN ?_
 refine q_idx (v := vp) ((f).toNat) u30 tiS80 rfl rfl hp.isSl (by omega) (by first | omega | assumption | (simp; done) | (simp; omega)) zN ?_
 obtain ⟨cs5,hr5,hl5⟩ := hp.get (good_rFn dp) Fn.zero (k := ((f).toNat)) (by first | omega | assumption | (simp; done) | (simp; omega))
 obtain ⟨ve5,rfl,hx5⟩ := RF.of hr5
 have hln5 := hx5.rn.lenle
 unfold maxLen at hln5
 refine q_fldL (p := eptr vp ((f).toNat) 3) 2 fd80_2 rfl (hl5 _ (Chg.of_ext [] hE3)) zN ?_
 refine q_load (p := (padd (eptr vp ((f).toNat) 3) 2)) (.inr rfl) ve5 one78 rfl ((hl5 _ (Chg.of_ext [] hE3)).ld (i := 2) (by simp [exC,fnC])) zN ?_
 refine q_move va rfl zN ?_
 refine lw_callE 104 [] [] [(.pointer (some ⟨w1.heap.size,0,none⟩)),ve5,va] rfl rfl cf104 zN (c_alls (f.toNat) dp _ [w1.heap.size] w1.heap.size vp dp (o) (0) (0) (p) ve5 ((p.getD ((f).toNat) Fn.zero).outs) va (a) (fun b hb => (by have := List.mem_singleton.1 hb; omega : b < w3.heap.size)) (List.mem_singleton.2 rfl) hB3 ((hp.add (F := [w1.heap.size]) (good_rdS (good_rFn dp)) (fun b hb => by have := List.mem_singleton.1 hb; omega)).ext (good_rdS (good_rFn dp)) hE3) (by omega) (by omega) (by omega) ((hx5.rn.add (F := [w1.heap.size]) (good_rdS (good_rEx dp)) (fun b hb => by have := List.mem_singleton.1 hb; omega)).ext (good_rdS (good_rEx dp)) hE3) ((ha.add (F := [w1.heap.size]) g2 (fun b hb => by have := List.mem_singleton.1 hb; omega)).ext g2 hE3) hqa (by exact hvp) (by omega) (by intro k hk; have h9 := hvp.wf f.toNat (by omega) k hk; rw [hl]; exact h9) (by exact hse) (by intro k hk; have := hvp.deep f.toNat (by omega) k hk; omega) (by omega)) ?_
 rintro e6 w6 ⟨v6,x6,s6,c6,rfl,hC6,hB6,hr6,hse6,hsb6,hcb6,hrl6⟩
 refine ⟨_,rfl,?_⟩
 have hzs6:=hC6.size
 have hE6 : Ext w w6 := hC6.below hE3 (fun b hb => by have : b = w1.heap.size := (by simpa using hb); omega) hE3.size
 have hF9 := hB1x3.chg hC6 (fun hm => by have := List.mem_singleton.1 hm; omega)
 have hsn6 := hse6.2.1
 have hsr6 := hse6.2.2
 have hcp6 := hse6.1
 have hrt6 := hr6.rt g2
 have hRL := hrl6
 have hCB := hcb6
 have hEP := EvP.mk' hRL hCB hsb6 hsn6 hsr6
 have hXS := hsr6
 have hXL := hsn6
 refine q_assign v6 rfl zN ?_
 refine lw_nil ?_
 refine wp_seq ?_
 refine wp_seq ?_
 refine wp_plain _ [0,0,0,2,0] rfl ?_
 refine q_move (.pointer (some ⟨w1.heap.size,0,none⟩)) rfl zN ?_
 refine q_nil rfl zN ?_
 refine q_fldP (p := (.pointer (some ⟨w1.heap.size,0,none⟩))) (b := w1.heap.size) (o := 0) 3 fd128_3 rfl rfl zN ?_
 refine q_load (p := (padd (.pointer (some ⟨w1.heap.size,0,none⟩)) 3)) (.inr rfl) (.int .i64 c6) one2 rfl (hB6.ldp (i := 3) (by simp)) zN ?_
 by_cases hc11 : c6 ≠ ((0 :Nat):Int)
 ·
  refine q_neq true rfl rfl (decide_eq_true hc11) zN ?_
  refine lw_nil ?_
  refine c_cond_t rfl ?_
  refine wp_seq ?_
  refine wp_draw _ [0,0,0,1,0,0,0] mixed (by kernel_rfl) ?_
  refine q_move (.pointer (some ⟨w1.heap.size,0,none⟩)) rfl zN ?_
  refine q_nil rfl zN ?_
  refine q_fldP (p := (.pointer (some ⟨w1.heap.size,0,none⟩))) (b := w1.heap.size) (o := 0) 3 fd128_3 rfl rfl zN ?_
  refine q_load (p := (padd (.pointer (some ⟨w1.heap.size,0,none⟩)) 3)) (.inl rfl) (.int .i64 c6) one2 rfl (hB6.ldp (i := 3) (by simp)) zN ?_
  refine q_assign (.slice none 0 0) rfl zN ?_
  refine q_assign (.int .i64 ((0 :Nat):Int)) rfl zN ?_
  refine q_assign (.int .i64 c6) rfl zN ?_
  refine lw_nil ?_
  refine wp_ret ?_
  refine t_ret ?_
  exact post_ret [8,9,10] rfl (.tuple #[(.slice none 0 0),(.int .i64 ((0 :Nat):Int)),(.int .i64 c6)]) rfl ⟨(.slice none 0 0),(by rw [evT_e (ev_err hRL (by omega)),evD_e (ev_err hRL (by omega))] <;> rfl),hE6.drew,(by rw [evR_e (ev_err hRL (by omega))]; exact frNil _ _ _),hEP⟩
 ·
  refine q_neq false rfl rfl (decide_eq_false hc11) zN ?_
  refine lw_nil ?_
  refine c_cond_f rfl ?_
  refine wp_skip ?_
  refine wp_seq ?_
  refine wp_plain _ [3,0] rfl ?_
  refine r_nil (owL rI 2) o1 u27 ti25 zN ?_
  intro v12 w12 hX12 hz12 hO12
  have hzs12:=hX12.size
  have hE12:=hE6.trans hX12
  have hF9x12 := hF9.ext hX12
  have hB6x12 := hB6.ext hX12
  have hN13 := hrt6.ext g2 hX12
  refine q_assign v12 rfl zN ?_
  refine lw_nil ?_
  refine wp_seq ?_
  refine wp_seq ?_
  refine wp_plain _ [0,0,0] rfl ?_
  refine q_move v6 rfl zN ?_
  refine q_len (v := v6) u27 rfl hN13.slL zN ?_
  refine q_move (.int .i64 ((0 :Nat):Int)) rfl zN ?_
  refine lw_nil ?_
  refine wp_block ?_
  refine c_loop (S := Nat × Value) (fun (⟨k,vo⟩ : Nat × Value) => ([(13,vo),(41,(.int .i64 ((k :Nat):Int))),(11,(.pointer (some ⟨w1.heap.size,0,none⟩))),(39,v6),(40,(.int .i64 ((x6.length :Nat):Int)))] : List (Nat × Value))) (fun (⟨k,vo⟩ : Nat × Value) (W : World) => Ext w W ∧ Fr (owL (owL rI 2) 25) w6.heap.size W.heap.size W.heap vo ((x6).take k) ∧ BX W.heap w1.heap.size [vp,(.int .i64 ((o :Nat):Int)),(.int .i64 ((s6 :Nat):Int)),(.int .i64 c6)] ∧ k ≤ (x6).length ∧ RT w6.heap.size (rdL (rdL rI)) W.heap v6 x6 ∧ w6.heap.size ≤ W.heap.size ∧ w1.heap.size < w6.heap.size ∧ w6.heap.size ≤ w6.heap.size ∧ w6.heap.size ≤ W.heap.size) (fun (⟨k,vo⟩ : Nat × Value) => (x6).length - k) (0,v12) ⟨rfl,rfl,rfl,rfl,rfl,trivial⟩ ⟨hE12,hO12.up o2,hB6x12,(by first | omega | assumption | (simp; done) | (simp; omega)),(by assumption),(by omega),(by omega),(by omega),(by omega)⟩ ?_
  clear hE0 hz1 hX1 hzs1 hE1 hz3 hX3 hzs3 hE3 hln5 hC6 hF9 hO12 hz12 hX12 hzs12 hE12 hF9x12
  rintro ⟨k,vo⟩ ρ18 w18 ⟨hE18,hL18_0,hL18_1,hp18_0,hrk14,hkB15,hkg16,hkt17,hkB19⟩
  have hzs18 : w.heap.size ≤ w18.heap.size := hE18.size
  have hq20 := hL18_1.lt
  refine wp_seq ?_
  refine wp_plain _ [0] rfl ?_
  by_cases hc21 : ((k :Nat):Int) < ((x6.length :Nat):Int)
  ·
   refine q_lss true rfl rfl (decide_eq_true hc21) zN ?_
   refine lw_nil ?_
   refine wp_seq ?_
   refine c_cond_t rfl ?_
   refine wp_skip ?_
   refine wp_seq ?_
   refine wp_block ?_
   refine wp_seq ?_
   refine wp_plain _ [0,2,0] rfl ?_
   have hkx := hXS k (by omega)
   have hkl := hkx.1
   refine q_idx (v := v6) k u27 ti25 rfl rfl hrk14.slL rfl (by first | omega | assumption | (simp; done) | (simp; omega)) zN ?_
   obtain ⟨ue22,hl22,hr22⟩ := RT.getL g1 [] (k := k) hrk14 (by first | omega | assumption | (simp; done) | (simp; omega))
   have hln22 := hr22.lenL
   unfold maxLen at hln22
   refine q_load (p := eptr v6 k 1) (.inr rfl) ue22 one25 rfl hl22 zN ?_
   refine q_assign ue22 rfl zN ?_
   refine lw_nil ?_
   refine wp_plain _ [0,0,3,3,4,0] rfl ?_
   refine q_move vo rfl zN ?_
   refine q_move ue22 rfl zN ?_
   refine lw_call 86 [] [] [ue22] rfl rfl cf86 zN (c_slices_Clone___int64_int64_ _ _ _ hr22.rd (by omega)) ?_
   rintro e23 w23 ⟨v23_0,rfl,hX23,hO23_0⟩
   refine ⟨_,rfl,hX23,?_⟩
   have hzs23:=hX23.size
   have hE23:=hE18.trans hX23
   have hL18_0x23 := hL18_0.ext (o2) hX23
   have hL18_1x23 := hL18_1.ext hX23
   have hN24 := hrk14.ext g2 hX23
   have hN25 := hr22.ext g1 hX23
   refine r_one (u := v23_0) (B := w18.heap.size) o1 u27 ti25 rfl rfl hO23_0 (by first | exact Nat.le_refl _ | omega) zN ?_
   intro v26 w26 hX26 hz26 hO26
   have hzs26:=hX26.size
   have hE26:=hE23.trans hX26
   have hL18_0x26 := hL18_0x23.ext (o2) hX26
   have hL18_1x26 := hL18_1x23.ext hX26
   have hN27 := hN24.ext g2 hX26
   have hN28 := hN25.ext g1 hX26
   refine e_appF o1 (v := vo) (a := v26) u27 ti25 rfl rfl rfl hL18_0x26 (by omega) hO26 (by omega) (by omega) (by first | omega | assumption | (simp; done) | (simp; omega)) (by unfold maxLen; first | omega | assumption | (simp; done) | (simp; omega)) zN ?_
   intro v29 w29 F29 hC29 hF29 hO29
   have hE29 : Ext w w29 := hC29.below hE26 (fun c hc => Nat.le_trans hE6.size (hF29 c hc).1) hE26.size
   have hzs29:=hC29.size
   have hN30 := hN27.chg g2 hC29 (fun c hc => by have := hF29 c hc; omega)
   have hN31 := hN28.chg g1 hC29 (fun c hc => by have := hF29 c hc; omega)
   have hF32 := hL18_1x26.chg hC29 (fun hm => by have := hF29 _ hm; omega)
   refine q_assign v29 rfl zN ?_
   refine lw_nil ?_
   refine wp_plain _ [0,0] rfl ?_
   refine q_add ((k + 1 :Nat):Int) rfl rfl (w64n (by omega) (by first | omega | assumption | (simp; done) | (simp; omega))) zN ?_
   refine q_move (.int .i64 ((k + 1 :Nat):Int)) rfl zN ?_
   refine lw_nil ?_
   exact ⟨((k + 1),v29),_,rfl,⟨rfl,rfl,rfl,rfl,rfl,trivial⟩,⟨hE29,(by rw [take_snoc [] (by omega)]; exact hO29.up o2),hF32,(by first | omega | assumption | (simp; done) | (simp; omega)),(by assumption),(by omega),(by omega),(by omega),(by omega)⟩,by first | omega | (dsimp only; omega)⟩
  ·
   refine q_lss false rfl rfl (decide_eq_false hc21) zN ?_
   refine lw_nil ?_
   refine wp_seq ?_
   refine c_cond_f rfl ?_
   refine wp_exit ?_
   refine t_exit ?_
   refine t_exit ?_
   refine c_exit_here ?_
   refine wp_seq ?_
   refine wp_draw _ [0,0,0,0,1,0,0,0] mixed (by kernel_rfl) ?_
   refine q_move vo rfl zN ?_
   refine q_move (.pointer (some ⟨w1.heap.size,0,none⟩)) rfl zN ?_
   refine q_nil rfl zN ?_
   refine q_fldP (p := (.pointer (some ⟨w1.heap.size,0,none⟩))) (b := w1.heap.size) (o := 0) 2 fd128_2 rfl rfl zN ?_
   refine q_load (p := (padd (.pointer (some ⟨w1.heap.size,0,none⟩)) 2)) (.inl rfl) (.int .i64 ((s6 :Nat):Int)) one2 rfl (hL18_1.ldp (i := 2) (by simp)) zN ?_
   refine q_assign vo rfl zN ?_
   refine q_assign (.int .i64 ((s6 :Nat):Int)) rfl zN ?_
   refine q_assign (.int .i64 ((0 :Nat):Int)) rfl zN ?_
   refine lw_nil ?_
   refine wp_ret ?_
   exact post_ret [8,9,10] rfl (.tuple #[vo,(.int .i64 ((s6 :Nat):Int)),(.int .i64 ((0 :Nat):Int))]) rfl ⟨vo,(by rw [evT_o (ev_ok hRL (by omega)),evD_o (ev_ok hRL (by omega))] <;> rfl),hE18.drew,(by have h := (hL18_0.up o2).low hE6.size; rw [evR_o (ev_ok hRL (by omega))]; rwa [List.take_of_length_le (by omega)] at h),hEP⟩
end Go.Proofs.YtnofbmdpabcjaaaGreat
namespace Go.Proofs.YtnofbmdpabcjaaaGreat
open Go Go.RowKit
set_option linter.unusedVariables false
set_option linter.unusedSimpArgs false
attribute [local irreducible] LW
set_option maxHeartbeats 4000000 in
set_option maxRecDepth 100000 in
theorem c_impl_ExprSize (w : World) (dex : Nat) (ve : Value) (ex : Ex) (hex : RX [] dex w.heap ve ex) (hs : ex.size ≤ 1000000000) :
  Calls Tryz.prog 120 #[(.agg #[(.int .i64 ex.kind),(.int .i64 ex.num),(.int .i64 ex.pick),(.int .i64 ex.count),ve])] w (fun e w' => e = .returned (.int .i64 ((ex.size :Nat):Int)) ∧ Ext w w') := by
 induction dex using Nat.strongRecOn generalizing w ve ex
 rename_i dex ih
 refine calls_mk [(.agg #[(.int .i64 ex.kind),(.int .i64 ex.num),(.int .i64 ex.pick),(.int .i64 ex.count),ve])] 19 Tryz.func120 rfl rfl (by simp) ?_
 have hE0 : Ext w w := Ext.refl w
 have hl_ve := hex.rn.lenle
 unfold maxLen at hl_ve
 have hsk := size_kids ex
 refine wp_seq ?_
 refine wp_plain _ [3,0] rfl ?_
 refine r_boxA (cs := #[(.int .i64 ex.kind),(.int .i64 ex.num),(.int .i64 ex.pick),(.int .i64 ex.count),ve]) rfl zN ?_
 intro w1 hX1 hz1 hB1
 have hzs1:=hX1.size
 have hE1:=hE0.trans hX1
 replace hB1 : BX w1.heap w.heap.size [(.int .i64 ex.kind),(.int .i64 ex.num),(.int .i64 ex.pick),(.int .i64 ex.count),ve] := hB1
 refine q_assign (.int .i64 ((0 :Nat):Int)) rfl zN ?_
 refine lw_nil ?_
 refine wp_seq ?_
 refine wp_plain _ [0] rfl ?_
 refine q_assign (.int .i64 ((1 :Nat):Int)) rfl zN ?_
 refine lw_nil ?_
 refine wp_seq ?_
 refine wp_seq ?_
 refine wp_plain _ [0,2,0,0] rfl ?_
 refine q_fldP (p := (.pointer (some ⟨w.heap.size,0,none⟩))) (b := w.heap.size) (o := 0) 4 fd94_4 rfl rfl zN ?_
 refine q_load (p := (padd (.pointer (some ⟨w.heap.size,0,none⟩)) 4)) (.inr rfl) ve one78 rfl (hB1.ldp (i := 4) (by simp)) zN ?_
 refine q_len (v := ve) u78 rfl hex.rn.isSl zN ?_
 refine q_move (.int .i64 ((0 :Nat):Int)) rfl zN ?_
 refine lw_nil ?_
 refine wp_block ?_
 refine c_loop (S := Nat × Nat) (fun (⟨k,sz⟩ : Nat × Nat) => ([(3,(.int .i64 ((sz :Nat):Int))),(9,(.int .i64 ((k :Nat):Int))),(7,ve),(8,(.int .i64 ((ex.kids.length :Nat):Int)))] : List (Nat × Value))) (fun (⟨k,sz⟩ : Nat × Nat) (W : World) => Ext w W ∧ k ≤ ex.kids.length ∧ sz = 1 + Ex.sizes (ex.kids.take k)) (fun (⟨k,sz⟩ : Nat × Nat) => ex.kids.length - k) (0,1) ⟨rfl,rfl,rfl,rfl,trivial⟩ ⟨hE1,(by first | omega | assumption | (simp; done) | (simp; omega)),(by rw [List.take_zero,sizes_nil])⟩ ?_
 clear hE0 hz1 hX1 hzs1 hE1
 rintro ⟨k,sz⟩ ρ2 w2 ⟨hE2,hp2_0,hsz⟩
 have hzs2 : w.heap.size ≤ w2.heap.size := hE2.size
 refine wp_seq ?_
 refine wp_plain _ [0] rfl ?_
 by_cases hc3 : ((k :Nat):Int) < ((ex.kids.length :Nat):Int)
 ·
  refine q_lss true rfl rfl (decide_eq_true hc3) zN ?_
  refine lw_nil ?_
  refine wp_seq ?_
  refine c_cond_t rfl ?_
  refine wp_skip ?_
  refine wp_seq ?_
  refine wp_block ?_
  refine wp_seq ?_
  refine wp_plain _ [0,2,3,4] rfl ?_
  have hst := sizes_step (l := ex.kids) (k := k) (by omega)
  have hle := sizes_take ex.kids (k + 1)
  have hdt := deeps_step (l := ex.kids) (k := k) (by omega)
  have hda := deep_size (ex.kids.getD k Ex.zero)
  refine q_idx (v := ve) k u78 tiS94 rfl rfl hex.rn.isSl rfl (by first | omega | assumption | (simp; done) | (simp; omega)) zN ?_
  obtain ⟨cs4,hr4,hl4⟩ := hex.rn.get (good_rEx dex) Ex.zero (k := k) (by first | omega | assumption | (simp; done) | (simp; omega))
  obtain ⟨dd4,ve4,hd4,rfl,hx4⟩ := RX.of hr4
  have hln4 := hx4.rn.lenle
  unfold maxLen at hln4
  refine q_loadA (p := eptr ve k 5) (.inr rfl) [(.int .i64 ((ex.kids.getD k Ex.zero).kind)),(.int .i64 ((ex.kids.getD k Ex.zero).num)),(.int .i64 ((ex.kids.getD k Ex.zero).pick)),(.int .i64 ((ex.kids.getD k Ex.zero).count)),ve4] agg94 rfl (fun w9 hw9 => hl4 w9 (Chg.of_ext [] (hE2.trans hw9))) rfl zN ?_
  refine r_allocA (z := .agg #[.int .i64 0,.int .i64 0,.int .i64 0,.int .i64 0,.slice none 0 0]) zr94 zN ?_
  intro w5 hX5 hz5 hB5
  have hzs5:=hX5.size
  have hE5:=hE2.trans hX5
  replace hB5 : BX w5.heap w2.heap.size [(.int .i64 0),(.int .i64 0),(.int .i64 0),(.int .i64 0),(.slice none 0 0)] := hB5
  refine e_setA (vs := [(.int .i64 ((ex.kids.getD k Ex.zero).kind)),(.int .i64 ((ex.kids.getD k Ex.zero).num)),(.int .i64 ((ex.kids.getD k Ex.zero).pick)),(.int .i64 ((ex.kids.getD k Ex.zero).count)),ve4]) agg94 rfl rfl hx4.ones hB5 rfl rfl zN ?_
  intro w6 hC6 hz6 hB6
  replace hB6 : BX w6.heap w2.heap.size [(.int .i64 ((ex.kids.getD k Ex.zero).kind)),(.int .i64 ((ex.kids.getD k Ex.zero).num)),(.int .i64 ((ex.kids.getD k Ex.zero).pick)),(.int .i64 ((ex.kids.getD k Ex.zero).count)),ve4] := hB6
  have hE6 : Ext w w6 := hC6.below hE5 (fun c hc => by have := List.mem_singleton.1 hc; omega) hE5.size
  have hzs6:=hC6.size
  refine lw_nil ?_
  refine wp_plain _ [0,2,3,0,0] rfl ?_
  refine q_move (.int .i64 ((sz :Nat):Int)) rfl zN ?_
  refine q_loadA (p := (.pointer (some ⟨w2.heap.size,0,none⟩))) (.inr rfl) [(.int .i64 ((ex.kids.getD k Ex.zero).kind)),(.int .i64 ((ex.kids.getD k Ex.zero).num)),(.int .i64 ((ex.kids.getD k Ex.zero).pick)),(.int .i64 ((ex.kids.getD k Ex.zero).count)),ve4] agg94 rfl (fun w9 hw9 => LD.of_box (BX.ext (w := w6) hB6 hw9)) rfl zN ?_
  refine lw_call 120 [] [] [(.agg #[(.int .i64 ((ex.kids.getD k Ex.zero).kind)),(.int .i64 ((ex.kids.getD k Ex.zero).num)),(.int .i64 ((ex.kids.getD k Ex.zero).pick)),(.int .i64 ((ex.kids.getD k Ex.zero).count)),ve4])] rfl rfl cf120 zN (ih dd4 (by omega) _ ve4 (ex.kids.getD k Ex.zero) (hx4.ext hE6) (by omega)) ?_
  rintro e7 w7 ⟨rfl,hX7⟩
  refine ⟨_,rfl,hX7,?_⟩
  have hzs7:=hX7.size
  have hE7:=hE6.trans hX7
  have hB6x7 := hB6.ext hX7
  refine q_add ((sz + (ex.kids.getD k Ex.zero).size :Nat):Int) rfl rfl (w64n (by omega) (by omega)) zN ?_
  refine q_assign (.int .i64 ((sz + (ex.kids.getD k Ex.zero).size :Nat):Int)) rfl zN ?_
  refine lw_nil ?_
  refine wp_plain _ [0,0] rfl ?_
  refine q_add ((k + 1 :Nat):Int) rfl rfl (w64n (by omega) (by first | omega | assumption | (simp; done) | (simp; omega))) zN ?_
  refine q_move (.int .i64 ((k + 1 :Nat):Int)) rfl zN ?_
  refine lw_nil ?_
  exact ⟨((k + 1),(sz + (ex.kids.getD k Ex.zero).size)),_,rfl,⟨rfl,rfl,rfl,rfl,trivial⟩,⟨hE7,(by first | omega | assumption | (simp; done) | (simp; omega)),(by omega)⟩,by first | omega | (dsimp only; omega)⟩
 ·
  refine q_lss false rfl rfl (decide_eq_false hc3) zN ?_
  refine lw_nil ?_
  refine wp_seq ?_
  refine c_cond_f rfl ?_
  refine wp_exit ?_
  refine t_exit ?_
  refine t_exit ?_
  refine c_exit_here ?_
  refine wp_seq ?_
  refine wp_plain _ [0,0] rfl ?_
  refine q_move (.int .i64 ((sz :Nat):Int)) rfl zN ?_
  refine q_assign (.int .i64 ((sz :Nat):Int)) rfl zN ?_
  refine lw_nil ?_
  refine wp_ret ?_
  exact post_ret [2] rfl (.int .i64 ((sz :Nat):Int)) rfl ⟨(ret_int (by rw [hsz,sizes_all (by omega),hsk])),hE2⟩
set_option maxHeartbeats 4000000 in
set_option maxRecDepth 100000 in
theorem c_impl_ExprDepth (w : World) (dex : Nat) (ve : Value) (ex : Ex) (hex : RX [] dex w.heap ve ex) (hs : ex.size ≤ 1000000000) :
  Calls Tryz.prog 143 #[(.agg #[(.int .i64 ex.kind),(.int .i64 ex.num),(.int .i64 ex.pick),(.int .i64 ex.count),ve])] w (fun e w' => e = .returned (.int .i64 ((ex.deep :Nat):Int)) ∧ Ext w w') := by
 induction dex using Nat.strongRecOn generalizing w ve ex
 rename_i dex ih
 refine calls_mk [(.agg #[(.int .i64 ex.kind),(.int .i64 ex.num),(.int .i64 ex.pick),(.int .i64 ex.count),ve])] 20 Tryz.func143 rfl rfl (by simp) ?_
 have hE0 : Ext w w := Ext.refl w
 have hl_ve := hex.rn.lenle
 unfold maxLen at hl_ve
 have hsk := size_kids ex
 have hdk := deep_kids ex
 refine wp_seq ?_
 refine wp_plain _ [3,0] rfl ?_
 refine r_boxA (cs := #[(.int .i64 ex.kind),(.int .i64 ex.num),(.int .i64 ex.pick),(.int .i64 ex.count),ve]) rfl zN ?_
 intro w1 hX1 hz1 hB1
 have hzs1:=hX1.size
 have hE1:=hE0.trans hX1
 replace hB1 : BX w1.heap w.heap.size [(.int .i64 ex.kind),(.int .i64 ex.num),(.int .i64 ex.pick),(.int .i64 ex.count),ve] := hB1
 refine q_assign (.int .i64 ((0 :Nat):Int)) rfl zN ?_
 refine lw_nil ?_
 refine wp_seq ?_
 refine wp_plain _ [0] rfl ?_
 refine q_assign (.int .i64 ((0 :Nat):Int)) rfl zN ?_
 refine lw_nil ?_
 refine wp_seq ?_
 refine wp_seq ?_
 refine wp_plain _ [0,2,0,0] rfl ?_
 refine q_fldP (p := (.pointer (some ⟨w.heap.size,0,none⟩))) (b := w.heap.size) (o := 0) 4 fd94_4 rfl rfl zN ?_
 refine q_load (p := (padd (.pointer (some ⟨w.heap.size,0,none⟩)) 4)) (.inr rfl) ve one78 rfl (hB1.ldp (i := 4) (by simp)) zN ?_
 refine q_len (v := ve) u78 rfl hex.rn.isSl zN ?_
 refine q_move (.int .i64 ((0 :Nat):Int)) rfl zN ?_
 refine lw_nil ?_
 refine wp_block ?_
 refine c_loop (S := Nat × Nat) (fun (⟨k,sz⟩ : Nat × Nat) => ([(3,(.int .i64 ((sz :Nat):Int))),(9,(.int .i64 ((k :Nat):Int))),(7,ve),(8,(.int .i64 ((ex.kids.length :Nat):Int)))] : List (Nat × Value))) (fun (⟨k,sz⟩ : Nat × Nat) (W : World) => Ext w W ∧ k ≤ ex.kids.length ∧ sz = Ex.deeps (ex.kids.take k)) (fun (⟨k,sz⟩ : Nat × Nat) => ex.kids.length - k) (0,0) ⟨rfl,rfl,rfl,rfl,trivial⟩ ⟨hE1,(by first | omega | assumption | (simp; done) | (simp; omega)),(by rw [List.take_zero,deeps_nil])⟩ ?_
 clear hE0 hz1 hX1 hzs1 hE1
 rintro ⟨k,sz⟩ ρ2 w2 ⟨hE2,hp2_0,hsz⟩
 have hzs2 : w.heap.size ≤ w2.heap.size := hE2.size
 refine wp_seq ?_
 refine wp_plain _ [0] rfl ?_
 by_cases hc3 : ((k :Nat):Int) < ((ex.kids.length :Nat):Int)
 ·
  refine q_lss true rfl rfl (decide_eq_true hc3) zN ?_
  refine lw_nil ?_
  refine wp_seq ?_
  refine c_cond_t rfl ?_
  refine wp_skip ?_
  refine wp_seq ?_
  refine wp_block ?_
  refine wp_seq ?_
  refine wp_plain _ [0,2,3,4] rfl ?_
  have hst := sizes_step (l := ex.kids) (k := k) (by omega)
  have hle := sizes_take ex.kids (k + 1)
  have hdt := deeps_step (l := ex.kids) (k := k) (by omega)
  have hda := deep_size (ex.kids.getD k Ex.zero)
  refine q_idx (v := ve) k u78 tiS94 rfl rfl hex.rn.isSl rfl (by first | omega | assumption | (simp; done) | (simp; omega)) zN ?_
  obtain ⟨cs4,hr4,hl4⟩ := hex.rn.get (good_rEx dex) Ex.zero (k := k) (by first | omega | assumption | (simp; done) | (simp; omega))
  obtain ⟨dd4,ve4,hd4,rfl,hx4⟩ := RX.of hr4
  have hln4 := hx4.rn.lenle
  unfold maxLen at hln4
  refine q_loadA (p := eptr ve k 5) (.inr rfl) [(.int .i64 ((ex.kids.getD k Ex.zero).kind)),(.int .i64 ((ex.kids.getD k Ex.zero).num)),(.int .i64 ((ex.kids.getD k Ex.zero).pick)),(.int .i64 ((ex.kids.getD k Ex.zero).count)),ve4] agg94 rfl (fun w9 hw9 => hl4 w9 (Chg.of_ext [] (hE2.trans hw9))) rfl zN ?_
  refine r_allocA (z := .agg #[.int .i64 0,.int .i64 0,.int .i64 0,.int .i64 0,.slice none 0 0]) zr94 zN ?_
  intro w5 hX5 hz5 hB5
  have hzs5:=hX5.size
  have hE5:=hE2.trans hX5
  replace hB5 : BX w5.heap w2.heap.size [(.int .i64 0),(.int .i64 0),(.int .i64 0),(.int .i64 0),(.slice none 0 0)] := hB5
  refine e_setA (vs := [(.int .i64 ((ex.kids.getD k Ex.zero).kind)),(.int .i64 ((ex.kids.getD k Ex.zero).num)),(.int .i64 ((ex.kids.getD k Ex.zero).pick)),(.int .i64 ((ex.kids.getD k Ex.zero).count)),ve4]) agg94 rfl rfl hx4.ones hB5 rfl rfl zN ?_
  intro w6 hC6 hz6 hB6
  replace hB6 : BX w6.heap w2.heap.size [(.int .i64 ((ex.kids.getD k Ex.zero).kind)),(.int .i64 ((ex.kids.getD k Ex.zero).num)),(.int .i64 ((ex.kids.getD k Ex.zero).pick)),(.int .i64 ((ex.kids.getD k Ex.zero).count)),ve4] := hB6
  have hE6 : Ext w w6 := hC6.below hE5 (fun c hc => by have := List.mem_singleton.1 hc; omega) hE5.size
  have hzs6:=hC6.size
  refine lw_nil ?_
  refine wp_plain _ [0,2,3,0,0] rfl ?_
  refine q_move (.int .i64 ((sz :Nat):Int)) rfl zN ?_
  refine q_loadA (p := (.pointer (some ⟨w2.heap.size,0,none⟩))) (.inr rfl) [(.int .i64 ((ex.kids.getD k Ex.zero).kind)),(.int .i64 ((ex.kids.getD k Ex.zero).num)),(.int .i64 ((ex.kids.getD k Ex.zero).pick)),(.int .i64 ((ex.kids.getD k Ex.zero).count)),ve4] agg94 rfl (fun w9 hw9 => LD.of_box (BX.ext (w := w6) hB6 hw9)) rfl zN ?_
  refine lw_call 143 [] [] [(.agg #[(.int .i64 ((ex.kids.getD k Ex.zero).kind)),(.int .i64 ((ex.kids.getD k Ex.zero).num)),(.int .i64 ((ex.kids.getD k Ex.zero).pick)),(.int .i64 ((ex.kids.getD k Ex.zero).count)),ve4])] rfl rfl cf143 zN (ih dd4 (by omega) _ ve4 (ex.kids.getD k Ex.zero) (hx4.ext hE6) (by omega)) ?_
  rintro e7 w7 ⟨rfl,hX7⟩
  refine ⟨_,rfl,hX7,?_⟩
  have hzs7:=hX7.size
  have hE7:=hE6.trans hX7
  have hB6x7 := hB6.ext hX7
  refine q_max ((max sz ((ex.kids.getD k Ex.zero).deep) :Nat):Int) (by omega) rfl rfl zN ?_
  refine q_assign (.int .i64 ((max sz ((ex.kids.getD k Ex.zero).deep) :Nat):Int)) rfl zN ?_
  refine lw_nil ?_
  refine wp_plain _ [0,0] rfl ?_
  refine q_add ((k + 1 :Nat):Int) rfl rfl (w64n (by omega) (by first | omega | assumption | (simp; done) | (simp; omega))) zN ?_
  refine q_move (.int .i64 ((k + 1 :Nat):Int)) rfl zN ?_
  refine lw_nil ?_
  exact ⟨((k + 1),(max sz ((ex.kids.getD k Ex.zero).deep))),_,rfl,⟨rfl,rfl,rfl,rfl,trivial⟩,⟨hE7,(by first | omega | assumption | (simp; done) | (simp; omega)),(by omega)⟩,by first | omega | (dsimp only; omega)⟩
 ·
  refine q_lss false rfl rfl (decide_eq_false hc3) zN ?_
  refine lw_nil ?_
  refine wp_seq ?_
  refine c_cond_f rfl ?_
  refine wp_exit ?_
  refine t_exit ?_
  refine t_exit ?_
  refine c_exit_here ?_
  refine wp_seq ?_
  refine wp_plain _ [0,0,0] rfl ?_
  have h8 := deeps_all (l := ex.kids) (k := k) (by omega)
  have h9 := deep_size ex
  refine q_move (.int .i64 ((sz :Nat):Int)) rfl zN ?_
  refine q_add ((sz + 1 :Nat):Int) rfl rfl (w64n (by omega) (by omega)) zN ?_
  refine q_assign (.int .i64 ((sz + 1 :Nat):Int)) rfl zN ?_
  refine lw_nil ?_
  refine wp_ret ?_
  exact post_ret [2] rfl (.int .i64 ((sz + 1 :Nat):Int)) rfl ⟨(ret_int (by rw [hsz,deeps_all (by omega),hdk])),hE2⟩
end Go.Proofs.YtnofbmdpabcjaaaGreat
