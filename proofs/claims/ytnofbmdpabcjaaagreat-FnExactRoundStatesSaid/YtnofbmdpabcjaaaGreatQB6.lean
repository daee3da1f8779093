/- Vl: texts of this claim, joined; what the claim does not come to is left out. -/
import Derived.Test.YtnofbmdpabcjaaaGreatQB5
import Derived.Test.YtnofbmdpabcjaaaGreatProg
set_option linter.unusedVariables false
set_option linter.unusedSimpArgs false
namespace Go.Proofs.YtnofbmdpabcjaaaGreat
open Go Go.RowKit
set_option linter.unusedVariables false
set_option linter.unusedSimpArgs false
attribute [local irreducible] LW
/-- What the reference does when it evaluates an expression. -/
def SV (F d : Nat) : Prop := ∀ (w : World) (S : List Nat) (g : Nat) (pp : Value) (dp n s0 : Nat) (c0 : Int) (p : List Fn) (ve : Value) (ex : Ex) (vv : Value) (env : List (List Int)) (hS : ∀ b ∈ S, b < w.heap.size) (hgS : g ∈ S) (hB0 : BX w.heap g [pp, .int .i64 ((n : Nat) : Int), .int .i64 ((s0 : Nat) : Int), .int .i64 c0]) (hp : RN S (rP (rPr dp)) w.heap pp p) (hn : 1 ≤ n ∧ n ≤ 13) (hs0 : s0 ≤ 3000) (hc0 : 0 ≤ c0 ∧ c0 ≤ 9) (hex : RN S (rP (rEx d)) w.heap ve ex) (henv : RN S (rdL (rdL rI)) w.heap vv env) (hqenv : CapS vv)
  (hvp : VPr p) (hF : F ≤ p.length) (hwf : wf p ((F : Nat) : Int) ex ((env.length : Nat) : Int) = true) (hse : SrE n env) (hdp : env.length + ex.deep ≤ 1000000),
  Calls Tryz.prog 134 #[.pointer (some ⟨g, 0, none⟩), ve, vv] w (fun e w' => ∃ (v : Value) (x : List Int) (s1 : Nat) (c1 : Int), e = .returned v ∧ Chg [g] w w' ∧ BX w'.heap g [pp, .int .i64 ((n : Nat) : Int), .int .i64 ((s1 : Nat) : Int), .int .i64 c1] ∧ RN S (rdL rI) w'.heap v x ∧ Ser1 n x ∧ s1 ≤ 3000 ∧ (0 ≤ c1 ∧ c1 ≤ 9) ∧ RelV (go c0 (evE n (evC p n F) ex env s0)) x s1 c1)
def SC (F d : Nat) : Prop := ∀ (w : World) (S : List Nat) (g : Nat) (pp : Value) (dp n s0 : Nat) (c0 : Int) (p : List Fn) (ve : Value) (ex : Ex) (vv : Value) (env : List (List Int)) (hS : ∀ b ∈ S, b < w.heap.size) (hgS : g ∈ S) (hB0 : BX w.heap g [pp, .int .i64 ((n : Nat) : Int), .int .i64 ((s0 : Nat) : Int), .int .i64 c0]) (hp : RN S (rP (rPr dp)) w.heap pp p) (hn : 1 ≤ n ∧ n ≤ 13) (hs0 : s0 ≤ 3000) (hc0 : 0 ≤ c0 ∧ c0 ≤ 9) (hex : RN S (rP (rEx d)) w.heap ve ex) (henv : RN S (rdL (rdL rI)) w.heap vv env) (hqenv : CapS vv)
  (hvp : VPr p) (hF : F ≤ p.length) (hwf : wf p ((F : Nat) : Int) ex ((env.length : Nat) : Int) = true) (hse : SrE n env) (hdp : env.length + ex.deep ≤ 1000000) (hk : ex.kind = 10 ∨ ex.kind = 11),
  Calls Tryz.prog 151 #[.pointer (some ⟨g, 0, none⟩), ve, vv] w (fun e w' => ∃ (v : Value) (x : List Int) (s1 : Nat) (c1 : Int), e = .returned v ∧ Chg [g] w w' ∧ BX w'.heap g [pp, .int .i64 ((n : Nat) : Int), .int .i64 ((s1 : Nat) : Int), .int .i64 c1] ∧ RN S (rdL rI) w'.heap v x ∧ Ser1 n x ∧ s1 ≤ 3000 ∧ (0 ≤ c1 ∧ c1 ≤ 9) ∧ RelV (go c0 (callV n (evC p n F) ex env s0)) x s1 c1)
def SO (F : Nat) : Prop := ∀ (w : World) (S : List Nat) (g : Nat) (pp : Value) (dp n s0 : Nat) (c0 : Int) (p : List Fn) (dfx : Nat) (vf : Value) (fx : Fn) (va : Value) (env : List (List Int)) (hS : ∀ b ∈ S, b < w.heap.size) (hgS : g ∈ S) (hB0 : BX w.heap g [pp, .int .i64 ((n : Nat) : Int), .int .i64 ((s0 : Nat) : Int), .int .i64 c0]) (hp : RN S (rP (rPr dp)) w.heap pp p) (hn : 1 ≤ n ∧ n ≤ 13) (hs0 : s0 ≤ 3000) (hc0 : 0 ≤ c0 ∧ c0 ≤ 9) (hfx : RN S (rP (rFn dfx)) w.heap vf fx) (henv : RN S (rdL (rdL rI)) w.heap va env) (hqenv : CapS va)
  (hvp : VPr p) (hF : F ≤ p.length) (hwf : ∀ k, k < fx.outs.length → wf p ((F : Nat) : Int) (fx.outs.getD k Ex.zero) ((env.length : Nat) : Int) = true) (hse : SrE n env) (hdp : ∀ k, k < fx.outs.length → env.length + (fx.outs.getD k Ex.zero).deep ≤ 1000000) (hll : fx.outs.length ≤ 1000000),
  Calls Tryz.prog 102 #[.pointer (some ⟨g, 0, none⟩), vf, va] w (fun e w' => ∃ (v : Value) (x : List (List Int)) (s1 : Nat) (c1 : Int), e = .returned v ∧ Chg [g] w w' ∧ BX w'.heap g [pp, .int .i64 ((n : Nat) : Int), .int .i64 ((s1 : Nat) : Int), .int .i64 c1] ∧ RN S (rdL (rdL rI)) w'.heap v x ∧ (CapS v ∧ x.length = fx.outs.length ∧ SrE n x) ∧ s1 ≤ 3000 ∧ (0 ≤ c1 ∧ c1 ≤ 9) ∧ RelV (go c0 (evs n (evC p n F) fx.outs env s0)) x s1 c1)
set_option maxHeartbeats 4000000 in
set_option maxRecDepth 100000 in
theorem c_spec_l02Run_fail (w : World) (S : List Nat) (g : Nat) (pp : Value) (dp n s0 : Nat) (c0 : Int) (p : List Fn) (code : Int) (hS : ∀ b ∈ S,b < w.heap.size) (hgS : g ∈ S) (hB0 : BX w.heap g [pp,.int .i64 ((n :Nat):Int),.int .i64 ((s0 :Nat):Int),.int .i64 c0]) (hp : RN S (rP (rPr dp)) w.heap pp p) (hn : 1 ≤ n ∧ n ≤ 13) (hs0 : s0 ≤ 3000) (hc0 : 0 ≤ c0 ∧ c0 ≤ 9) (_hcode : -9223372036854775808 ≤ code ∧ code ≤ 9223372036854775807) (hcd : 1 ≤ code ∧ code ≤ 9) :
  Calls Tryz.prog 148 #[.pointer (some ⟨g,0,none⟩),.int .i64 code] w (fun e w' => ∃ (v : Value) (x : List Int) (s1 : Nat) (c1 : Int),e = .returned v ∧ Chg [g] w w' ∧ BX w'.heap g [pp,.int .i64 ((n :Nat):Int),.int .i64 ((s1 :Nat):Int),.int .i64 c1] ∧ RN S (rdL rI) w'.heap v x ∧ Ser1 n x ∧ s1 ≤ 3000 ∧ (0 ≤ c1 ∧ c1 ≤ 9) ∧ (s1 = s0 ∧ c1 = if c0 = 0 then code else c0)) := by
 refine calls_mk [.pointer (some ⟨g,0,none⟩),.int .i64 code] 19 Tryz.func148 rfl rfl (by simp) ?_
 have hE0 : Chg [g] w w := Chg.refl [g] w
 have hgl := hB0.lt
 refine wp_seq ?_
 refine wp_plain _ [0] rfl ?_
 refine q_assign (.slice none 0 0) rfl zN ?_
 refine lw_nil ?_
 refine wp_seq ?_
 refine wp_seq ?_
 refine wp_plain _ [0,0,0,2,0] rfl ?_
 refine q_move (.pointer (some ⟨g,0,none⟩)) rfl zN ?_
 refine q_nil rfl zN ?_
 refine q_fldP (p := (.pointer (some ⟨g,0,none⟩))) (b := g) (o := 0) 3 fd123_3 rfl rfl zN ?_
 refine q_load (p := (padd (.pointer (some ⟨g,0,none⟩)) 3)) (.inr rfl) (.int .i64 c0) one2 rfl (hB0.ldp (i := 3) (by simp)) zN ?_
 by_cases hc1 : c0 = ((0 :Nat):Int)
 ·
  refine q_eql true rfl rfl (decide_eq_true hc1) zN ?_
  refine lw_nil ?_
  refine c_cond_t rfl ?_
  refine wp_plain _ [0,0,0,0,4] rfl ?_
  refine q_move (.pointer (some ⟨g,0,none⟩)) rfl zN ?_
  refine q_move (.int .i64 code) rfl zN ?_
  refine q_nil rfl zN ?_
  refine q_fldP (p := (.pointer (some ⟨g,0,none⟩))) (b := g) (o := 0) 3 fd123_3 rfl rfl zN ?_
  refine e_setB (k := 3) (w := w) sz2 rfl rfl ⟨rfl,rfl⟩ hB0 (by simp) zN ?_
  intro w2 hC2 hz2 hB2
  replace hB2 : BX w2.heap g [pp,(.int .i64 ((n :Nat):Int)),(.int .i64 ((s0 :Nat):Int)),(.int .i64 code)] := hB2
  have hE2 : Chg [g] w w2 := hE0.trans hC2
  have hzs2:=hC2.size
  refine lw_nil ?_
  refine wp_seq ?_
  refine wp_plain _ [0,0,0,2,3,0] rfl ?_
  refine q_move (.pointer (some ⟨g,0,none⟩)) rfl zN ?_
  refine q_nil rfl zN ?_
  refine q_fldP (p := (.pointer (some ⟨g,0,none⟩))) (b := g) (o := 0) 1 fd123_1 rfl rfl zN ?_
  refine q_load (p := (padd (.pointer (some ⟨g,0,none⟩)) 1)) (.inr rfl) (.int .i64 ((n :Nat):Int)) one3 rfl (hB2.ldp (i := 1) (by simp)) zN ?_
  refine lw_call 93 [] [] [(.int .i64 ((0 :Nat):Int)),(.int .i64 ((n :Nat):Int))] rfl rfl cf93 zN (c_spec_l01Const _ _ (n) (by omega) (by first | omega | assumption | (simp; done) | (simp; omega)) (by omega)) ?_
  rintro e3 w3 ⟨v3_0,rfl,hX3,hO3_0⟩
  refine ⟨_,rfl,hX3,?_⟩
  have hzs3:=hX3.size
  have hE3 : Chg [g] w w3 := hE2.ext hX3
  have hB2x3 := hB2.ext hX3
  refine q_assign v3_0 rfl zN ?_
  refine lw_nil ?_
  refine wp_ret ?_
  exact post_ret [4] rfl v3_0 rfl ⟨v3_0,cst n ((0 :Nat):Int),s0,code,rfl,hE3,hB2x3,(RN.of_fr1 hO3_0 (fun b hb => by have := hS b hb; omega)),(by exact cst_ser (by decide)),(by omega),(by omega),(by exact ⟨rfl,by first | (rw [if_pos (by omega)]) | (rw [if_neg (by omega)])⟩)⟩
 ·
  refine q_eql false rfl rfl (decide_eq_false hc1) zN ?_
  refine lw_nil ?_
  refine c_cond_f rfl ?_
  refine wp_skip ?_
  refine wp_seq ?_
  refine wp_plain _ [0,0,0,2,3,0] rfl ?_
  refine q_move (.pointer (some ⟨g,0,none⟩)) rfl zN ?_
  refine q_nil rfl zN ?_
  refine q_fldP (p := (.pointer (some ⟨g,0,none⟩))) (b := g) (o := 0) 1 fd123_1 rfl rfl zN ?_
  refine q_load (p := (padd (.pointer (some ⟨g,0,none⟩)) 1)) (.inr rfl) (.int .i64 ((n :Nat):Int)) one3 rfl (hB0.ldp (i := 1) (by simp)) zN ?_
  refine lw_call 93 [] [] [(.int .i64 ((0 :Nat):Int)),(.int .i64 ((n :Nat):Int))] rfl rfl cf93 zN (c_spec_l01Const _ _ (n) (by omega) (by first | omega | assumption | (simp; done) | (simp; omega)) (by omega)) ?_
  rintro e4 w4 ⟨v4_0,rfl,hX4,hO4_0⟩
  refine ⟨_,rfl,hX4,?_⟩
  have hzs4:=hX4.size
  have hE4 : Chg [g] w w4 := hE0.ext hX4
  have hB0x4 := hB0.ext hX4
  refine q_assign v4_0 rfl zN ?_
  refine lw_nil ?_
  refine wp_ret ?_
  exact post_ret [4] rfl v4_0 rfl ⟨v4_0,cst n ((0 :Nat):Int),s0,c0,rfl,hE4,hB0x4,(RN.of_fr1 hO4_0 (fun b hb => by have := hS b hb; omega)),(by exact cst_ser (by decide)),(by omega),(by omega),(by exact ⟨rfl,by first | (rw [if_pos (by omega)]) | (rw [if_neg (by omega)])⟩)⟩
set_option maxHeartbeats 4000000 in
set_option maxRecDepth 100000 in
theorem c_spec_l02Env (w : World) (S : List Nat) (vv : Value) (env : List (List Int)) (vx : Value) (x : List Int) (hS : ∀ b ∈ S,b < w.heap.size) (henv : RN S (rdL (rdL rI)) w.heap vv env) (hqenv : CapS vv) (hx : RN S (rdL rI) w.heap vx x) (hel : env.length ≤ 1000000) :
  Calls Tryz.prog 150 #[vv,vx] w (fun e w' => ∃ v,e = .returned v ∧ Ext w w' ∧ RN S (rdL (rdL rI)) w'.heap v (env ++ [x]) ∧ CapS v) := by
 refine calls_mk [vv,vx] 25 Tryz.func150 rfl rfl (by simp) ?_
 have hE0 : Ext w w := Ext.refl w
 have hl_vv := henv.lenL
 unfold maxLen at hl_vv
 have hl_vx := hx.lenL
 unfold maxLen at hl_vx
 refine wp_seq ?_
 refine wp_plain _ [0] rfl ?_
 refine q_assign (.slice none 0 0) rfl zN ?_
 refine lw_nil ?_
 refine wp_seq ?_
 refine wp_plain _ [3,0] rfl ?_
 refine r_nil rV good_rV u27 ti25 zN ?_
 intro v1 w1 hX1 hz1 hO1
 have hzs1:=hX1.size
 have hE1:=hE0.trans hX1
 obtain ⟨us1,F1,hb1⟩ := Bld.nil (S := S) (hO1.low (B' := w.heap.size) (Nat.le_refl _))
 refine q_assign v1 rfl zN ?_
 refine lw_nil ?_
 refine wp_seq ?_
 refine wp_seq ?_
 refine wp_plain _ [0] rfl ?_
 refine q_assign (.int .i64 ((0 :Nat):Int)) rfl zN ?_
 refine lw_nil ?_
 refine wp_block ?_
 refine c_loop (S := Nat × Value) (fun (⟨k,vo⟩ : Nat × Value) => ([(5,vo),(6,(.int .i64 ((k :Nat):Int))),(0,vv),(1,vx)] : List (Nat × Value))) (fun (⟨k,vo⟩ : Nat × Value) (W : World) => Ext w W ∧ k ≤ env.length ∧ BldE 25 S w.heap.size W.heap vo (env.take k)) (fun (⟨k,vo⟩ : Nat × Value) => env.length - k) (0,v1) ⟨rfl,rfl,rfl,rfl,trivial⟩ ⟨hE1,(by first | omega | assumption | (simp; done) | (simp; omega)),(by exact ⟨_,_,by assumption⟩)⟩ ?_
 clear hE0 hO1 hz1 hX1 hzs1 hE1
 rintro ⟨k,vo⟩ ρ2 w2 ⟨hE2,hp2_0,hbld⟩
 have hzs2 : w.heap.size ≤ w2.heap.size := hE2.size
 obtain ⟨us4,F4,hbl3⟩ := hbld
 refine wp_seq ?_
 refine wp_seq ?_
 refine wp_plain _ [0,0,0,0] rfl ?_
 refine q_move (.int .i64 ((k :Nat):Int)) rfl zN ?_
 refine q_move vv rfl zN ?_
 refine q_len (v := vv) u27 rfl henv.slL zN ?_
 by_cases hc5 : ((k :Nat):Int) < ((env.length :Nat):Int)
 ·
  refine q_lss true rfl rfl (decide_eq_true hc5) zN ?_
  refine lw_nil ?_
  refine c_cond_t rfl ?_
  refine wp_skip ?_
  refine wp_seq ?_
  refine wp_block ?_
  refine wp_plain _ [0,0,0,0,2,3,4,0] rfl ?_
  refine q_move vo rfl zN ?_
  refine q_move vv rfl zN ?_
  refine q_move (.int .i64 ((k :Nat):Int)) rfl zN ?_
  refine q_idx (v := vv) k u27 ti25 rfl rfl henv.slL rfl (by first | omega | assumption | (simp; done) | (simp; omega)) zN ?_
  obtain ⟨ue6,hl6,hr6⟩ := RN.getL (w := w) g1 [] (k := k) henv (by first | omega | assumption | (simp; done) | (simp; omega))
  have hln6 := hr6.lenL
  unfold maxLen at hln6
  refine q_load (p := eptr vv k 1) (.inr rfl) ue6 one25 rfl (hl6 _ (Chg.of_ext S hE2)) zN ?_
  refine r_one (u := ue6) (B := w2.heap.size) good_rV u27 ti25 rfl rfl (frV w2.heap.size w2.heap.size _ (hr6.one1 g1)) (Nat.le_refl _) zN ?_
  intro v7 w7 hX7 hz7 hO7
  have hzs7:=hX7.size
  have hE7:=hE2.trans hX7
  have hN8 := hbl3.ext hX7
  refine e_appB (v := vo) (a := v7) (u := ue6) u27 ti25 rfl rfl rfl hN8 (by omega) hO7 ((hr6.add (F := F4) g1 hN8.low).ext g1 hE7) (by first | omega | assumption | (simp; done) | (simp; omega)) (by unfold maxLen; first | omega | assumption | (simp; done) | (simp; omega)) zN ?_
  rintro v9 w9 G9 hC9 hF9 ⟨us9,F9,hb9⟩
  have hzs9:=hC9.size
  have hE9 : Ext w w9 := hC9.below hE7 (fun c hc => hN8.low c (hF9 c hc)) hE7.size
  refine q_assign v9 rfl zN ?_
  refine lw_nil ?_
  refine wp_plain _ [0,0,0] rfl ?_
  refine q_move (.int .i64 ((k :Nat):Int)) rfl zN ?_
  refine q_add ((k + 1 :Nat):Int) rfl rfl (w64n (by omega) (by first | omega | assumption | (simp; done) | (simp; omega))) zN ?_
  refine q_assign (.int .i64 ((k + 1 :Nat):Int)) rfl zN ?_
  refine lw_nil ?_
  exact ⟨((k + 1),v9),_,rfl,⟨rfl,rfl,rfl,rfl,trivial⟩,⟨hE9,(by first | omega | assumption | (simp; done) | (simp; omega)),(by rw [take_snoc [] (by omega)]; exact ⟨_,_,by assumption⟩)⟩,by first | omega | (dsimp only; omega)⟩
 ·
  refine q_lss false rfl rfl (decide_eq_false hc5) zN ?_
  refine lw_nil ?_
  refine c_cond_f rfl ?_
  refine wp_exit ?_
  refine t_exit ?_
  refine t_exit ?_
  refine c_exit_here ?_
  refine wp_seq ?_
  refine wp_plain _ [0,0,3,4,0] rfl ?_
  refine q_move vo rfl zN ?_
  refine q_move vx rfl zN ?_
  refine r_one (u := vx) (B := w2.heap.size) good_rV u27 ti25 rfl rfl (frV w2.heap.size w2.heap.size _ (hx.one1 g1)) (Nat.le_refl _) zN ?_
  intro v10 w10 hX10 hz10 hO10
  have hzs10:=hX10.size
  have hE10:=hE2.trans hX10
  have hN11 := hbl3.ext hX10
  refine e_appB (v := vo) (a := v10) (u := vx) u27 ti25 rfl rfl rfl hN11 (by omega) hO10 ((hx.add (F := F4) g1 hN11.low).ext g1 hE10) (by first | omega | assumption | (simp; done) | (simp; omega)) (by unfold maxLen; first | omega | assumption | (simp; done) | (simp; omega)) zN ?_
  rintro v12 w12 G12 hC12 hF12 ⟨us12,F12,hb12⟩
  have hzs12:=hC12.size
  have hE12 : Ext w w12 := hC12.below hE10 (fun c hc => hN11.low c (hF12 c hc)) hE10.size
  refine q_assign v12 rfl zN ?_
  refine lw_nil ?_
  refine wp_ret ?_
  exact post_ret [4] rfl v12 rfl ⟨v12,rfl,hE12,(by have h9 := (hb12.done hS); rw [List.take_of_length_le (by omega)] at h9; exact h9),hb12.cap⟩
set_option maxHeartbeats 4000000 in
set_option maxRecDepth 100000 in
theorem c_spec_l02Run_outs (w : World) (S : List Nat) (F : Nat) (g : Nat) (pp : Value) (dp n s0 : Nat) (c0 : Int) (p : List Fn) (dfx : Nat) (vf : Value) (fx : Fn) (va : Value) (env : List (List Int)) (hS : ∀ b ∈ S,b < w.heap.size) (hgS : g ∈ S) (hB0 : BX w.heap g [pp,.int .i64 ((n :Nat):Int),.int .i64 ((s0 :Nat):Int),.int .i64 c0]) (hp : RN S (rP (rPr dp)) w.heap pp p) (hn : 1 ≤ n ∧ n ≤ 13) (hs0 : s0 ≤ 3000) (hc0 : 0 ≤ c0 ∧ c0 ≤ 9) (hfx : RN S (rP (rFn dfx)) w.heap vf fx) (henv : RN S (rdL (rdL rI)) w.heap va env) (hqenv : CapS va) (hvp : VPr p) (hF : F ≤ p.length) (hwf : ∀ k,k < fx.outs.length → wf p ((F :Nat):Int) (fx.outs.getD k Ex.zero) ((env.length :Nat):Int) = true) (hse : SrE n env) (hdp : ∀ k,k < fx.outs.length → env.length + (fx.outs.getD k Ex.zero).deep ≤ 1000000) (hll : fx.outs.length ≤ 1000000) (IHv : ∀ d,SV F d) :
  Calls Tryz.prog 102 #[.pointer (some ⟨g,0,none⟩),vf,va] w (fun e w' => ∃ (v : Value) (x : List (List Int)) (s1 : Nat) (c1 : Int),e = .returned v ∧ Chg [g] w w' ∧ BX w'.heap g [pp,.int .i64 ((n :Nat):Int),.int .i64 ((s1 :Nat):Int),.int .i64 c1] ∧ RN S (rdL (rdL rI)) w'.heap v x ∧ (CapS v ∧ x.length = fx.outs.length ∧ SrE n x) ∧ s1 ≤ 3000 ∧ (0 ≤ c1 ∧ c1 ≤ 9) ∧ RelV (go c0 (evs n (evC p n F) fx.outs env s0)) x s1 c1) := by
 refine calls_mk [.pointer (some ⟨g,0,none⟩),vf,va] 32 Tryz.func102 rfl rfl (by simp) ?_
 have hE0 : Chg [g] w w := Chg.refl [g] w
 have hl_va := henv.lenL
 unfold maxLen at hl_va
 have hgl := hB0.lt
 refine wp_seq ?_
 refine wp_plain _ [0] rfl ?_
 refine q_assign (.slice none 0 0) rfl zN ?_
 refine lw_nil ?_
 refine wp_seq ?_
 refine wp_plain _ [3,0] rfl ?_
 refine r_nil rV good_rV u27 ti25 zN ?_
 intro v1 w1 hX1 hz1 hO1
 have hzs1:=hX1.size
 have hE1 : Chg [g] w w1 := hE0.ext hX1
 have hB0x1 := hB0.ext hX1
 obtain ⟨us1,F1,hb1⟩ := Bld.nil (S := S) (hO1.low (B' := w.heap.size) (Nat.le_refl _))
 refine q_assign v1 rfl zN ?_
 refine lw_nil ?_
 refine wp_seq ?_
 refine wp_seq ?_
 refine wp_plain _ [0] rfl ?_
 refine q_assign (.int .i64 ((0 :Nat):Int)) rfl zN ?_
 refine lw_nil ?_
 refine wp_block ?_
 refine c_loop (S := Nat × Value × List (List Int) × Nat × Int) (fun (⟨k,vo,xs,s9,c9⟩ : Nat × Value × List (List Int) × Nat × Int) => ([(7,vo),(8,(.int .i64 ((k :Nat):Int))),(0,(.pointer (some ⟨g,0,none⟩))),(1,vf),(2,va)] : List (Nat × Value))) (fun (⟨k,vo,xs,s9,c9⟩ : Nat × Value × List (List Int) × Nat × Int) (W : World) => Chg [g] w W ∧ BX W.heap g [pp,.int .i64 ((n :Nat):Int),.int .i64 ((s9 :Nat):Int),.int .i64 c9] ∧ k ≤ fx.outs.length ∧ BldE 25 S w.heap.size W.heap vo xs ∧ xs.length = k ∧ SrE n xs ∧ s9 ≤ 3000 ∧ (0 ≤ c9 ∧ c9 ≤ 9) ∧ RelV (go c0 (evs n (evC p n F) (fx.outs.take k) env s0)) xs s9 c9) (fun (⟨k,vo,xs,s9,c9⟩ : Nat × Value × List (List Int) × Nat × Int) => fx.outs.length - k) (0,v1,([] : List (List Int)),s0,c0) ⟨rfl,rfl,rfl,rfl,rfl,trivial⟩ ⟨hE1,hB0x1,(by first | omega | assumption | (simp; done) | (simp; omega)),(by exact ⟨_,_,by assumption⟩),(by rfl),(by intro j hj; simp at hj),(by omega),(by omega),(by exact all_start _ _ _ _ _ _)⟩ ?_
 clear hE0 hO1 hz1 hX1 hzs1 hE1
 rintro ⟨k,vo,xs,s9,c9⟩ ρ2 w2 ⟨hE2,hL2_0,hp2_0,hbld,hxl,hxs,hp2_4,hp2_5,hrl⟩
 have hzs2 : w.heap.size ≤ w2.heap.size := hE2.size
 have hq3 := hL2_0.lt
 obtain ⟨us5,F5,hbl4⟩ := hbld
 refine wp_seq ?_
 refine wp_seq ?_
 refine wp_plain _ [0,0,0,0,2,0,0] rfl ?_
 refine q_move (.int .i64 ((k :Nat):Int)) rfl zN ?_
 refine q_move vf rfl zN ?_
 refine q_nilP (hfx.isPtr) rfl zN ?_
 obtain ⟨cs6,hr6,hl6⟩ := RN.at (good_rFn _) hfx
 obtain ⟨ve6,rfl,hx6⟩ := RF.of hr6
 have hln6 := hx6.rn.lenle
 unfold maxLen at hln6
 refine q_fldL (p := vf) 2 fd80_2 rfl (hl6 _ (hE2.sub (subS hgS))) zN ?_
 refine q_load (p := (padd vf 2)) (.inr rfl) ve6 one78 rfl ((hl6 _ (hE2.sub (subS hgS))).ld (i := 2) (by simp [exC,fnC])) zN ?_
 refine q_len (v := ve6) u78 rfl hx6.rn.isSl zN ?_
 by_cases hc7 : ((k :Nat):Int) < ((fx.outs.length :Nat):Int)
 ·
  refine q_lss true rfl rfl (decide_eq_true hc7) zN ?_
  refine lw_nil ?_
  refine c_cond_t rfl ?_
  refine wp_skip ?_
  refine wp_seq ?_
  refine wp_block ?_
  refine wp_plain _ [0,0,0,0,0,2,0,0,0,4,3,4,0] rfl ?_
  refine q_move vo rfl zN ?_
  refine q_move (.pointer (some ⟨g,0,none⟩)) rfl zN ?_
  refine q_move vf rfl zN ?_
  refine q_nilP (hfx.isPtr) rfl zN ?_
  refine q_fldL (p := vf) 2 fd80_2 rfl (hl6 _ (hE2.sub (subS hgS))) zN ?_
  refine q_load (p := (padd vf 2)) (.inr rfl) ve6 one78 rfl ((hl6 _ (hE2.sub (subS hgS))).ld (i := 2) (by simp [exC,fnC])) zN ?_
  refine q_move (.int .i64 ((k :Nat):Int)) rfl zN ?_
  refine q_idx (v := ve6) k u78 tiS94 rfl rfl hx6.rn.isSl rfl (by first | omega | assumption | (simp; done) | (simp; omega)) zN ?_
  refine q_move va rfl zN ?_
  refine lw_callE 134 [] [] [(.pointer (some ⟨g,0,none⟩)),(eptr ve6 k 5),va] rfl rfl cf134 zN (IHv dfx _ (S ++ F5) g pp dp (n) (s9) (c9) (p) (eptr ve6 k 5) (fx.outs.getD k Ex.zero) va (env) (fun b hb => (by rcases List.mem_append.1 hb with hb | hb; (have := hS b hb; omega); exact hbl4.lt b hb : b < w2.heap.size)) (List.mem_append_left _ hgS) hL2_0 ((hp.add (F := F5) (good_rP (good_rPr dp)) hbl4.low).chg (good_rP (good_rPr dp)) (hE2.sub (subA hgS))) (by omega) (by omega) (by omega) (RN.ptr (good_rEx dfx) (by decide) Ex.zero ((hx6.rn.add (F := F5) (good_rdS (good_rEx dfx)) hbl4.low).chg (good_rdS (good_rEx dfx)) (hE2.sub (subA hgS))) (by first | omega | assumption | (simp; done) | (simp; omega))) ((henv.add (F := F5) g2 hbl4.low).chg g2 (hE2.sub (subA hgS))) hqenv (by exact hvp) (by omega) (by exact hwf k (by omega)) (by exact hse) (by exact hdp k (by omega))) ?_
  rintro e8 w8 ⟨v8,x8,s8,c8,rfl,hC8,hB8,hr8,hse8,hsb8,hcb8,hrl8⟩
  refine ⟨_,rfl,?_⟩
  have hzs8:=hC8.size
  have hE8 : Chg [g] w w8 := hE2.trans hC8
  have hF12 := hbl4.run hgS (by omega) hC8
  have hsn8 := hse8.1
  replace hr8 : RN (S ++ F5) (rdL rI) w8.heap v8 x8 := hr8
  refine r_one (u := v8) (B := w8.heap.size) good_rV u27 ti25 rfl rfl (frV w8.heap.size w8.heap.size _ (hr8.one1 g1)) (Nat.le_refl _) zN ?_
  intro v14 w14 hX14 hz14 hO14
  have hzs14:=hX14.size
  have hE14 : Chg [g] w w14 := hE8.ext hX14
  have hB8x14 := hB8.ext hX14
  have hN15 := hF12.ext hX14
  have hN16 := hr8.ext g1 hX14
  refine e_appB (v := vo) (a := v14) (u := v8) u27 ti25 rfl rfl rfl hN15 (by omega) hO14 hN16 (by first | omega | assumption | (simp; done) | (simp; omega)) (by unfold maxLen; first | omega | assumption | (simp; done) | (simp; omega)) zN ?_
  rintro v17 w17 G17 hC17 hF17 ⟨us17,F17,hb17⟩
  have hzs17:=hC17.size
  have hE17 : Chg [g] w w17 := hE14.fresh hC17 (fun c hc => hN15.low c (hF17 c hc))
  have hF18 := hB8x14.chg hC17 (fun hm => by have := hN15.low _ (hF17 _ hm); have := hN15.lt _ (hF17 _ hm); omega)
  refine q_assign v17 rfl zN ?_
  refine lw_nil ?_
  refine wp_plain _ [0,0,0] rfl ?_
  refine q_move (.int .i64 ((k :Nat):Int)) rfl zN ?_
  refine q_add ((k + 1 :Nat):Int) rfl rfl (w64n (by omega) (by first | omega | assumption | (simp; done) | (simp; omega))) zN ?_
  refine q_assign (.int .i64 ((k + 1 :Nat):Int)) rfl zN ?_
  refine lw_nil ?_
  exact ⟨((k + 1),v17,(xs ++ [x8]),s8,c8),_,rfl,⟨rfl,rfl,rfl,rfl,rfl,trivial⟩,⟨hE17,hF18,(by first | omega | assumption | (simp; done) | (simp; omega)),(by exact ⟨_,_,by assumption⟩),(by rw [List.length_append,List.length_singleton,hxl]),(by exact SrE.snoc hxs (by assumption)),(by omega),(by omega),(by exact rel_snoc (by omega) hrl (by assumption))⟩,by first | omega | (dsimp only; omega)⟩
 ·
  refine q_lss false rfl rfl (decide_eq_false hc7) zN ?_
  refine lw_nil ?_
  refine c_cond_f rfl ?_
  refine wp_exit ?_
  refine t_exit ?_
  refine t_exit ?_
  refine c_exit_here ?_
  refine wp_seq ?_
  refine wp_plain _ [0,0] rfl ?_
  refine q_move vo rfl zN ?_
  refine q_assign vo rfl zN ?_
  refine lw_nil ?_
  refine wp_ret ?_
  exact post_ret [6] rfl vo rfl ⟨vo,xs,s9,c9,rfl,hE2,hL2_0,(hbl4.done hS),(by exact ⟨hbl4.cap,by omega,hxs⟩),(by omega),(by omega),(by rw [List.take_of_length_le (by omega)] at hrl; exact hrl)⟩
theorem c_outs (F : Nat) (IH : ∀ d,SV F d) : SO F := by
 intro w S g pp dp n s0 c0 p dfx vf fx va env hS hgS hB0 hp hn hs0 hc0 hfx henv hqenv hvp hF hwf hse hdp hll
 exact c_spec_l02Run_outs w S F g pp dp n s0 c0 p dfx vf fx va env hS hgS hB0 hp hn hs0 hc0 hfx henv hqenv hvp hF hwf hse hdp hll IH
set_option maxHeartbeats 4000000 in
set_option maxRecDepth 100000 in
theorem c_spec_l02Run_call (w : World) (S : List Nat) (F : Nat) (g : Nat) (pp : Value) (dp n s0 : Nat) (c0 : Int) (p : List Fn) (dex : Nat) (ve : Value) (ex : Ex) (vv : Value) (env : List (List Int)) (hS : ∀ b ∈ S,b < w.heap.size) (hgS : g ∈ S) (hB0 : BX w.heap g [pp,.int .i64 ((n :Nat):Int),.int .i64 ((s0 :Nat):Int),.int .i64 c0]) (hp : RN S (rP (rPr dp)) w.heap pp p) (hn : 1 ≤ n ∧ n ≤ 13) (hs0 : s0 ≤ 3000) (hc0 : 0 ≤ c0 ∧ c0 ≤ 9) (hex : RN S (rP (rEx dex)) w.heap ve ex) (henv : RN S (rdL (rdL rI)) w.heap vv env) (hqenv : CapS vv) (hvp : VPr p) (hF : F ≤ p.length) (hwf : wf p ((F :Nat):Int) ex ((env.length :Nat):Int) = true) (hse : SrE n env) (hdp : env.length + ex.deep ≤ 1000000) (hk : ex.kind = 10 ∨ ex.kind = 11) (IH1 : ∀ F',F' < F → ∀ d,SV F' d) (IH2 : ∀ d',d' < dex → SV F d') :
  Calls Tryz.prog 151 #[.pointer (some ⟨g,0,none⟩),ve,vv] w (fun e w' => ∃ (v : Value) (x : List Int) (s1 : Nat) (c1 : Int),e = .returned v ∧ Chg [g] w w' ∧ BX w'.heap g [pp,.int .i64 ((n :Nat):Int),.int .i64 ((s1 :Nat):Int),.int .i64 c1] ∧ RN S (rdL rI) w'.heap v x ∧ Ser1 n x ∧ s1 ≤ 3000 ∧ (0 ≤ c1 ∧ c1 ≤ 9) ∧ RelV (go c0 (callV n (evC p n F) ex env s0)) x s1 c1) := by
 refine calls_mk [.pointer (some ⟨g,0,none⟩),ve,vv] 81 Tryz.func151 rfl rfl (by simp) ?_
 have hE0 : Chg [g] w w := Chg.refl [g] w
 have hl_vv := henv.lenL
 unfold maxLen at hl_vv
 have hgl := hB0.lt
 have hq0 := wfN_all (wf_node hwf)
 have hdk := deep_kids ex
 refine wp_seq ?_
 refine wp_plain _ [0] rfl ?_
 refine q_assign (.slice none 0 0) rfl zN ?_
 refine lw_nil ?_
 refine wp_seq ?_
 refine wp_plain _ [3,0] rfl ?_
 refine r_nil rV good_rV u27 ti25 zN ?_
 intro v1 w1 hX1 hz1 hO1
 have hzs1:=hX1.size
 have hE1 : Chg [g] w w1 := hE0.ext hX1
 have hB0x1 := hB0.ext hX1
 obtain ⟨us1,F1,hb1⟩ := Bld.nil (S := S) (hO1.low (B' := w.heap.size) (Nat.le_refl _))
 refine q_assign v1 rfl zN ?_
 refine lw_nil ?_
 refine wp_seq ?_
 refine wp_seq ?_
 refine wp_plain _ [0] rfl ?_
 refine q_assign (.int .i64 ((0 :Nat):Int)) rfl zN ?_
 refine lw_nil ?_
 refine wp_block ?_
 refine c_loop (S := Nat × Value × List (List Int) × Nat × Int) (fun (⟨k,vo,xs,s9,c9⟩ : Nat × Value × List (List Int) × Nat × Int) => ([(7,vo),(8,(.int .i64 ((k :Nat):Int))),(0,(.pointer (some ⟨g,0,none⟩))),(1,ve),(2,vv)] : List (Nat × Value))) (fun (⟨k,vo,xs,s9,c9⟩ : Nat × Value × List (List Int) × Nat × Int) (W : World) => Chg [g] w W ∧ BX W.heap g [pp,.int .i64 ((n :Nat):Int),.int .i64 ((s9 :Nat):Int),.int .i64 c9] ∧ k ≤ ex.kids.length ∧ BldE 25 S w.heap.size W.heap vo xs ∧ xs.length = k ∧ SrE n xs ∧ s9 ≤ 3000 ∧ (0 ≤ c9 ∧ c9 ≤ 9) ∧ RelV (go c0 (evs n (evC p n F) (ex.kids.take k) env s0)) xs s9 c9) (fun (⟨k,vo,xs,s9,c9⟩ : Nat × Value × List (List Int) × Nat × Int) => ex.kids.length - k) (0,v1,([] : List (List Int)),s0,c0) ⟨rfl,rfl,rfl,rfl,rfl,trivial⟩ ⟨hE1,hB0x1,(by first | omega | assumption | (simp; done) | (simp; omega)),(by exact ⟨_,_,by assumption⟩),(by rfl),(by intro j hj; simp at hj),(by omega),(by omega),(by exact all_start _ _ _ _ _ _)⟩ ?_
 clear hE0 hO1 hz1 hX1 hzs1 hE1
 rintro ⟨k,vo,xs,s9,c9⟩ ρ2 w2 ⟨hE2,hL2_0,hp2_0,hbld,hxl,hxs,hp2_4,hp2_5,hrl⟩
 have hzs2 : w.heap.size ≤ w2.heap.size := hE2.size
 have hq3 := hL2_0.lt
 obtain ⟨us5,F5,hbl4⟩ := hbld
 refine wp_seq ?_
 refine wp_seq ?_
 refine wp_plain _ [0,0,0,0,2,0,0] rfl ?_
 refine q_move (.int .i64 ((k :Nat):Int)) rfl zN ?_
 refine q_move ve rfl zN ?_
 refine q_nilP (hex.isPtr) rfl zN ?_
 obtain ⟨cs6,hr6,hl6⟩ := RN.at (good_rEx _) hex
 obtain ⟨dd6,ve6,hd6,rfl,hx6⟩ := RX.of hr6
 have hln6 := hx6.rn.lenle
 unfold maxLen at hln6
 refine q_fldL (p := ve) 4 fd94_4 rfl (hl6 _ (hE2.sub (subS hgS))) zN ?_
 refine q_load (p := (padd ve 4)) (.inr rfl) ve6 one78 rfl ((hl6 _ (hE2.sub (subS hgS))).ld (i := 4) (by simp [exC,fnC])) zN ?_
 refine q_len (v := ve6) u78 rfl hx6.rn.isSl zN ?_
 by_cases hc7 : ((k :Nat):Int) < ((ex.kids.length :Nat):Int)
 ·
  refine q_lss true rfl rfl (decide_eq_true hc7) zN ?_
  refine lw_nil ?_
  refine c_cond_t rfl ?_
  refine wp_skip ?_
  refine wp_seq ?_
  refine wp_block ?_
  refine wp_plain _ [0,0,0,0,0,2,0,0,0,4,3,4,0] rfl ?_
  have hvo := hvp.outs (ex.num).toNat (by omega)
  have hvr := hvp.par (ex.num).toNat (by omega)
  have hkd := kd_at (l := ex.kids) (k := k) (by omega)
  have hkb : ex.kids.length ≤ 412 := by omega
  refine q_move vo rfl zN ?_
  refine q_move (.pointer (some ⟨g,0,none⟩)) rfl zN ?_
  refine q_move ve rfl zN ?_
  refine q_nilP (hex.isPtr) rfl zN ?_
  refine q_fldL (p := ve) 4 fd94_4 rfl (hl6 _ (hE2.sub (subS hgS))) zN ?_
  refine q_load (p := (padd ve 4)) (.inr rfl) ve6 one78 rfl ((hl6 _ (hE2.sub (subS hgS))).ld (i := 4) (by simp [exC,fnC])) zN ?_
  refine q_move (.int .i64 ((k :Nat):Int)) rfl zN ?_
  refine q_idx (v := ve6) k u78 tiS94 rfl rfl hx6.rn.isSl rfl (by first | omega | assumption | (simp; done) | (simp; omega)) zN ?_
  refine q_move vv rfl zN ?_
  refine lw_callE 134 [] [] [(.pointer (some ⟨g,0,none⟩)),(eptr ve6 k 5),vv] rfl rfl cf134 zN (IH2 dd6 (by omega) _ (S ++ F5) g pp dp (n) (s9) (c9) (p) (eptr ve6 k 5) (ex.kids.getD k Ex.zero) vv (env) (fun b hb => (by rcases List.mem_append.1 hb with hb | hb; (have := hS b hb; omega); exact hbl4.lt b hb : b < w2.heap.size)) (List.mem_append_left _ hgS) hL2_0 ((hp.add (F := F5) (good_rP (good_rPr dp)) hbl4.low).chg (good_rP (good_rPr dp)) (hE2.sub (subA hgS))) (by omega) (by omega) (by omega) (RN.ptr (good_rEx dd6) (by decide) Ex.zero ((hx6.rn.add (F := F5) (good_rdS (good_rEx dd6)) hbl4.low).chg (good_rdS (good_rEx dd6)) (hE2.sub (subA hgS))) (by first | omega | assumption | (simp; done) | (simp; omega))) ((henv.add (F := F5) g2 hbl4.low).chg g2 (hE2.sub (subA hgS))) hqenv (by exact hvp) (by omega) (by exact wf_at0 hwf (by omega) (by omega)) (by exact hse) (by omega)) ?_
  rintro e8 w8 ⟨v8,x8,s8,c8,rfl,hC8,hB8,hr8,hse8,hsb8,hcb8,hrl8⟩
  refine ⟨_,rfl,?_⟩
  have hzs8:=hC8.size
  have hE8 : Chg [g] w w8 := hE2.trans hC8
  have hF12 := hbl4.run hgS (by omega) hC8
  have hsn8 := hse8.1
  replace hr8 : RN (S ++ F5) (rdL rI) w8.heap v8 x8 := hr8
  refine r_one (u := v8) (B := w8.heap.size) good_rV u27 ti25 rfl rfl (frV w8.heap.size w8.heap.size _ (hr8.one1 g1)) (Nat.le_refl _) zN ?_
  intro v14 w14 hX14 hz14 hO14
  have hzs14:=hX14.size
  have hE14 : Chg [g] w w14 := hE8.ext hX14
  have hB8x14 := hB8.ext hX14
  have hN15 := hF12.ext hX14
  have hN16 := hr8.ext g1 hX14
  refine e_appB (v := vo) (a := v14) (u := v8) u27 ti25 rfl rfl rfl hN15 (by omega) hO14 hN16 (by first | omega | assumption | (simp; done) | (simp; omega)) (by unfold maxLen; first | omega | assumption | (simp; done) | (simp; omega)) zN ?_
  rintro v17 w17 G17 hC17 hF17 ⟨us17,F17,hb17⟩
  have hzs17:=hC17.size
  have hE17 : Chg [g] w w17 := hE14.fresh hC17 (fun c hc => hN15.low c (hF17 c hc))
  have hF18 := hB8x14.chg hC17 (fun hm => by have := hN15.low _ (hF17 _ hm); have := hN15.lt _ (hF17 _ hm); omega)
  refine q_assign v17 rfl zN ?_
  refine lw_nil ?_
  refine wp_plain _ [0,0,0] rfl ?_
  refine q_move (.int .i64 ((k :Nat):Int)) rfl zN ?_
  refine q_add ((k + 1 :Nat):Int) rfl rfl (w64n (by omega) (by first | omega | assumption | (simp; done) | (simp; omega))) zN ?_
  refine q_assign (.int .i64 ((k + 1 :Nat):Int)) rfl zN ?_
  refine lw_nil ?_
  exact ⟨((k + 1),v17,(xs ++ [x8]),s8,c8),_,rfl,⟨rfl,rfl,rfl,rfl,rfl,trivial⟩,⟨hE17,hF18,(by first | omega | assumption | (simp; done) | (simp; omega)),(by exact ⟨_,_,by assumption⟩),(by rw [List.length_append,List.length_singleton,hxl]),(by exact SrE.snoc hxs (by assumption)),(by omega),(by omega),(by exact rel_snoc (by omega) hrl (by assumption))⟩,by first | omega | (dsimp only; omega)⟩
 ·
  refine q_lss false rfl rfl (decide_eq_false hc7) zN ?_
  refine lw_nil ?_
  refine c_cond_f rfl ?_
  refine wp_exit ?_
  refine t_exit ?_
  refine t_exit ?_
  refine c_exit_here ?_
  refine wp_seq ?_
  refine wp_draw _ [0,0,0,1,0,0,1,0,0,0,1,0,0] mixed (by kernel_rfl) ?_
  have hfn19 := hbl4.done hS
  have hfn19c := hbl4.cap
  have hvo := hvp.outs (ex.num).toNat (by omega)
  have hvr := hvp.par (ex.num).toNat (by omega)
  have hxk : xs.length = ex.kids.length := by omega
  have hKr : RelV (go c0 (evs n (evC p n F) ex.kids env s0)) xs s9 c9 := by rw [List.take_of_length_le (by omega)] at hrl; exact hrl
  refine q_move (.pointer (some ⟨g,0,none⟩)) rfl zN ?_
  refine q_nil rfl zN ?_
  refine q_fldP (p := (.pointer (some ⟨g,0,none⟩))) (b := g) (o := 0) 0 fd123_0 rfl rfl zN ?_
  refine q_load (p := (padd (.pointer (some ⟨g,0,none⟩)) 0)) (.inl rfl) pp one61 rfl (hL2_0.ldp (i := 0) (by simp)) zN ?_
  refine q_nilP (hp.isPtr) rfl zN ?_
  obtain ⟨cs20,hr20,hl20⟩ := RN.at (good_rPr _) hp
  obtain ⟨ve20,rfl,hx20⟩ := RPr.of hr20
  have hln20 := hx20.lenle
  unfold maxLen at hln20
  refine q_fldL (p := pp) 0 fd32_0 rfl (hl20 _ (hE2.drew.sub (subS hgS))) zN ?_
  refine q_load (p := (padd pp 0)) (.inl rfl) ve20 one30 rfl ((hl20 _ (hE2.drew.sub (subS hgS))).ld (i := 0) (by simp [exC,fnC])) zN ?_
  refine q_move ve rfl zN ?_
  refine q_nilP (hex.isPtr) rfl zN ?_
  refine q_fldL (p := ve) 1 fd94_1 rfl (hl6 _ (hE2.drew.sub (subS hgS))) zN ?_
  refine q_load (p := (padd ve 1)) (.inl rfl) (.int .i64 ex.num) one2 rfl ((hl6 _ (hE2.drew.sub (subS hgS))).ld (i := 1) (by simp [exC,fnC])) zN ?_
  refine q_idx (v := ve20) ((ex.num).toNat) u30 tiS80 rfl rfl hx20.isSl (by omega) (by first | omega | assumption | (simp; done) | (simp; omega)) zN ?_
  refine q_assign (eptr ve20 ((ex.num).toNat) 3) rfl zN ?_
  refine lw_nil ?_
  refine wp_seq ?_
  refine wp_seq ?_
  refine wp_plain _ [0,0,0,2,0] rfl ?_
  refine q_move ve rfl zN ?_
  refine q_nilP (hex.isPtr) rfl zN ?_
  refine q_fldL (p := ve) 0 fd94_0 rfl (hl6 _ (hE2.drew.sub (subS hgS))) zN ?_
  refine q_load (p := (padd ve 0)) (.inr rfl) (.int .i64 ex.kind) one2 rfl ((hl6 _ (hE2.drew.sub (subS hgS))).ld (i := 0) (by simp [exC,fnC])) zN ?_
  by_cases hc21 : ex.kind = ((10 :Nat):Int)
  ·
   refine q_eql true rfl rfl (decide_eq_true hc21) zN ?_
   refine lw_nil ?_
   refine c_cond_t rfl ?_
   refine wp_seq ?_
   refine wp_draw _ [0,0,0,0,1,0,0,0,1,0,0,4,0] mixed (by kernel_rfl) ?_
   refine q_move (.pointer (some ⟨g,0,none⟩)) rfl zN ?_
   refine q_move (eptr ve20 ((ex.num).toNat) 3) rfl zN ?_
   have hvd := hvp.deep (ex.num).toNat (by omega) (ex.pick).toNat (by omega)
   refine q_nilP (RN.isPtr (RN.ptr (good_rFn dp) (by decide) Fn.zero hx20 (by first | omega | assumption | (simp; done) | (simp; omega)))) rfl zN ?_
   obtain ⟨cs22,hr22,hl22⟩ := hx20.get (good_rFn dp) Fn.zero (k := ((ex.num).toNat)) (by first | omega | assumption | (simp; done) | (simp; omega))
   obtain ⟨ve22,rfl,hx22⟩ := RF.of hr22
   have hln22 := hx22.rn.lenle
   unfold maxLen at hln22
   refine q_fldL (p := eptr ve20 ((ex.num).toNat) 3) 2 fd80_2 rfl (hl22 _ (hE2.drew.drew.sub (subS hgS))) zN ?_
   refine q_load (p := (padd (eptr ve20 ((ex.num).toNat) 3) 2)) (.inl rfl) ve22 one78 rfl ((hl22 _ (hE2.drew.drew.sub (subS hgS))).ld (i := 2) (by simp [exC,fnC])) zN ?_
   refine q_move ve rfl zN ?_
   refine q_nilP (hex.isPtr) rfl zN ?_
   refine q_fldL (p := ve) 2 fd94_2 rfl (hl6 _ (hE2.drew.drew.sub (subS hgS))) zN ?_
   refine q_load (p := (padd ve 2)) (.inl rfl) (.int .i64 ex.pick) one2 rfl ((hl6 _ (hE2.drew.drew.sub (subS hgS))).ld (i := 2) (by simp [exC,fnC])) zN ?_
   refine q_idx (v := ve22) ((ex.pick).toNat) u78 tiS94 rfl rfl hx22.rn.isSl (by omega) (by first | omega | assumption | (simp; done) | (simp; omega)) zN ?_
   refine q_move vo rfl zN ?_
   refine lw_callE 134 [] [] [(.pointer (some ⟨g,0,none⟩)),(eptr ve22 ((ex.pick).toNat) 5),vo] rfl rfl cf134 zN (IH1 (ex.num).toNat (by omega) dp _ S g pp dp (n) (s9) (c9) (p) (eptr ve22 ((ex.pick).toNat) 5) (((p.getD ((ex.num).toNat) Fn.zero).outs).getD ((ex.pick).toNat) Ex.zero) vo (xs) (fun b hb => (by have := hS b hb; omega : b < w2.heap.size)) hgS hL2_0 (hp.chg (good_rP (good_rPr dp)) (hE2.drew.drew.sub (subS hgS))) (by omega) (by omega) (by omega) (RN.ptr (good_rEx dp) (by decide) Ex.zero (hx22.rn.chg (good_rdS (good_rEx dp)) (hE2.drew.drew.sub (subS hgS))) (by first | omega | assumption | (simp; done) | (simp; omega))) hfn19 hfn19c (by exact hvp) (by omega) (by have h9 := hvp.wf (ex.num).toNat (by omega) (ex.pick).toNat (by omega); rw [show ((xs.length :Nat):Int) = (p.getD (ex.num).toNat Fn.zero).params from by omega]; exact h9) (by exact hxs) (by omega)) ?_
   rintro e23 w23 ⟨v23,x23,s23,c23,rfl,hC23,hB23,hr23,hse23,hsb23,hcb23,hrl23⟩
   refine ⟨_,rfl,?_⟩
   replace hC23 := hC23.of_drew
   replace hC23 := hC23.of_drew
   have hzs23:=hC23.size
   have hE23 : Chg [g] w w23 := hE2.trans hC23
   have hF27 := hfn19.run g2 hgS hC23
   have hsn23 := hse23.1
   refine q_assign v23 rfl zN ?_
   refine lw_nil ?_
   refine wp_ret ?_
   refine t_ret ?_
   exact post_ret [6] rfl v23 rfl ⟨v23,x23,s23,c23,rfl,hE23,hB23,hr23,(by first | assumption | exact hks _ (by omega)),(by omega),(by omega),(by first | exact rel_cone (by omega) (by omega) hKr (by assumption) | exact rel_clop (by omega) (by omega) hKr (by rw [show (ex.count).toNat = i from by omega]; exact hrl9))⟩
  ·
   refine q_eql false rfl rfl (decide_eq_false hc21) zN ?_
   refine lw_nil ?_
   refine c_cond_f rfl ?_
   refine wp_skip ?_
   refine wp_seq ?_
   refine wp_seq ?_
   refine wp_plain _ [0] rfl ?_
   refine q_assign (.int .i64 ((0 :Nat):Int)) rfl zN ?_
   refine lw_nil ?_
   refine wp_block ?_
   refine c_loop (S := Nat × Value × List (List Int) × Nat × Int) (fun (⟨i,vk,ks,s8,c8⟩ : Nat × Value × List (List Int) × Nat × Int) => ([(7,vk),(10,(.int .i64 ((i :Nat):Int))),(0,(.pointer (some ⟨g,0,none⟩))),(1,ve),(9,(eptr ve20 ((ex.num).toNat) 3))] : List (Nat × Value))) (fun (⟨i,vk,ks,s8,c8⟩ : Nat × Value × List (List Int) × Nat × Int) (W : World) => Chg [g] w W ∧ BX W.heap g [pp,.int .i64 ((n :Nat):Int),.int .i64 ((s8 :Nat):Int),.int .i64 c8] ∧ i ≤ (ex.count).toNat ∧ RN S (rdL (rdL rI)) W.heap vk ks ∧ CapS vk ∧ ks.length = (p.getD (ex.num).toNat Fn.zero).outs.length ∧ SrE n ks ∧ s8 ≤ 3000 ∧ (0 ≤ c8 ∧ c8 ≤ 9) ∧ RelV (go c9 (lop (fun a t => evs n (evC p n (ex.num).toNat) (p.getD (ex.num).toNat Fn.zero).outs a t) i xs s9)) ks s8 c8) (fun (⟨i,vk,ks,s8,c8⟩ : Nat × Value × List (List Int) × Nat × Int) => (ex.count).toNat - i) (0,vo,xs,s9,c9) ⟨rfl,rfl,rfl,rfl,rfl,trivial⟩ ⟨hE2.drew,hL2_0,(by omega),(by assumption),(by assumption),(by omega),(by assumption),(by omega),(by omega),(by exact rel_lop0 rfl)⟩ ?_
   clear hL2_0 hE2 hzs2 hln6 hln20
   rintro ⟨i,vk,ks,s8,c8⟩ ρ31 w31 ⟨hE31,hL31_0,hp31_0,hrk,hck,hkl,hks,hp31_5,hp31_6,hrl9⟩
   have hzs31 : w.heap.size ≤ w31.heap.size := hE31.size
   have hq32 := hL31_0.lt
   refine wp_seq ?_
   refine wp_seq ?_
   refine wp_plain _ [0,0,0,0,2,0] rfl ?_
   refine q_move (.int .i64 ((i :Nat):Int)) rfl zN ?_
   refine q_move ve rfl zN ?_
   refine q_nilP (hex.isPtr) rfl zN ?_
   refine q_fldL (p := ve) 3 fd94_3 rfl (hl6 _ (hE31.sub (subS hgS))) zN ?_
   refine q_load (p := (padd ve 3)) (.inr rfl) (.int .i64 ex.count) one2 rfl ((hl6 _ (hE31.sub (subS hgS))).ld (i := 3) (by simp [exC,fnC])) zN ?_
   by_cases hc33 : ((i :Nat):Int) < ex.count
   ·
    refine q_lss true rfl rfl (decide_eq_true hc33) zN ?_
    refine lw_nil ?_
    refine c_cond_t rfl ?_
    refine wp_skip ?_
    refine wp_seq ?_
    refine wp_block ?_
    refine wp_plain _ [0,0,0,4,0] rfl ?_
    refine q_move (.pointer (some ⟨g,0,none⟩)) rfl zN ?_
    refine q_move (eptr ve20 ((ex.num).toNat) 3) rfl zN ?_
    refine q_move vk rfl zN ?_
    refine lw_callE 102 [] [] [(.pointer (some ⟨g,0,none⟩)),(eptr ve20 ((ex.num).toNat) 3),vk] rfl rfl cf102 zN (c_outs (ex.num).toNat (fun d9 => IH1 (ex.num).toNat (by omega) d9) _ S g pp dp (n) (s8) (c8) (p) dp (eptr ve20 ((ex.num).toNat) 3) (p.getD ((ex.num).toNat) Fn.zero) vk (ks) (fun b hb => (by have := hS b hb; omega : b < w31.heap.size)) hgS hL31_0 (hp.chg (good_rP (good_rPr dp)) (hE31.sub (subS hgS))) (by omega) (by omega) (by omega) (RN.ptr (good_rFn dp) (by decide) Fn.zero (hx20.chg (good_rdS (good_rFn dp)) (hE31.sub (subS hgS))) (by first | omega | assumption | (simp; done) | (simp; omega))) hrk hck (by exact hvp) (by omega) (by intro k9 hk9; have h9 := hvp.wf (ex.num).toNat (by omega) k9 hk9; rw [show ((ks.length :Nat):Int) = (p.getD (ex.num).toNat Fn.zero).params from by omega]; exact h9) (by exact hks) (by intro k9 hk9; have := hvp.deep (ex.num).toNat (by omega) k9 hk9; omega) (by omega)) ?_
    rintro e34 w34 ⟨v34,x34,s34,c34,rfl,hC34,hB34,hr34,hse34,hsb34,hcb34,hrl34⟩
    refine ⟨_,rfl,?_⟩
    have hzs34:=hC34.size
    have hE34 : Chg [g] w w34 := hE31.trans hC34
    have hF40 := hrk.run g2 hgS hC34
    have hsn34 := hse34.2.1
    have hsr34 := hse34.2.2
    have hcp34 := hse34.1
    refine q_assign v34 rfl zN ?_
    refine lw_nil ?_
    refine wp_plain _ [0,0,0] rfl ?_
    refine q_move (.int .i64 ((i :Nat):Int)) rfl zN ?_
    refine q_add ((i + 1 :Nat):Int) rfl rfl (w64n (by omega) (by omega)) zN ?_
    refine q_assign (.int .i64 ((i + 1 :Nat):Int)) rfl zN ?_
    refine lw_nil ?_
    exact ⟨((i + 1),v34,x34,s34,c34),_,rfl,⟨rfl,rfl,rfl,rfl,rfl,trivial⟩,⟨hE34,hB34,(by omega),(by assumption),(by assumption),(by omega),(by assumption),(by omega),(by omega),(by exact rel_lop' hrl9 (by assumption))⟩,by first | omega | (dsimp only; omega)⟩
   ·
    refine q_lss false rfl rfl (decide_eq_false hc33) zN ?_
    refine lw_nil ?_
    refine c_cond_f rfl ?_
    refine wp_exit ?_
    refine t_exit ?_
    refine t_exit ?_
    refine c_exit_here ?_
    refine wp_seq ?_
    refine wp_plain _ [0,0,0,0,2,0,2,0] rfl ?_
    refine q_move vk rfl zN ?_
    refine q_move ve rfl zN ?_
    refine q_nilP (hex.isPtr) rfl zN ?_
    refine q_fldL (p := ve) 2 fd94_2 rfl (hl6 _ (hE31.sub (subS hgS))) zN ?_
    refine q_load (p := (padd ve 2)) (.inr rfl) (.int .i64 ex.pick) one2 rfl ((hl6 _ (hE31.sub (subS hgS))).ld (i := 2) (by simp [exC,fnC])) zN ?_
    refine q_idx (v := vk) ((ex.pick).toNat) u27 ti25 rfl rfl hrk.slL (by omega) (by first | omega | assumption | (simp; done) | (simp; omega)) zN ?_
    obtain ⟨ue41,hl41,hr41⟩ := RN.getL (w := w31) g1 [] (k := (ex.pick).toNat) hrk (by first | omega | assumption | (simp; done) | (simp; omega))
    have hln41 := hr41.lenL
    unfold maxLen at hln41
    refine q_load (p := eptr vk ((ex.pick).toNat) 1) (.inr rfl) ue41 one25 rfl (hl41 _ (Chg.refl _ _)) zN ?_
    refine q_assign ue41 rfl zN ?_
    refine lw_nil ?_
    refine wp_ret ?_
    exact post_ret [6] rfl ue41 rfl ⟨ue41,ks.getD ((ex.pick).toNat) [],s8,c8,rfl,hE31,hL31_0,hr41,(by first | assumption | exact hks _ (by omega)),(by omega),(by omega),(by first | exact rel_cone (by omega) (by omega) hKr (by assumption) | exact rel_clop (by omega) (by omega) hKr (by rw [show (ex.count).toNat = i from by omega]; exact hrl9))⟩
end Go.Proofs.YtnofbmdpabcjaaaGreat
