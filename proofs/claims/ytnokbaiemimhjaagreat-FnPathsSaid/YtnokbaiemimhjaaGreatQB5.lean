/- Vl, Vn, Vo, Xf, Xa, Xb, Xh: texts of this claim, joined; what the claim does not come to is left out. -/
import Derived.Test.YtnokbaiemimhjaaGreatQB4
import Derived.Test.YtnokbaiemimhjaaGreatProg
set_option linter.unusedVariables false
set_option linter.unusedSimpArgs false
namespace Go.Proofs.YtnokbaiemimhjaaGreat
open Go Go.RowKit
set_option linter.unusedVariables false
set_option linter.unusedSimpArgs false
set_option maxHeartbeats 4000000
set_option maxRecDepth 100000
attribute [local irreducible] LW
/-- What the reference does when it evaluates an expression. -/
def SV (F d : Nat) : Prop := ∀ (w : World) (S : List Nat) (g : Nat) (pp : Value) (dp n s0 : Nat) (c0 : Int) (p : List Fn) (ve : Value) (ex : Ex) (vv : Value) (env : List (List Int)) (hS : ∀ b ∈ S, b < w.heap.size) (hgS : g ∈ S) (hB0 : BX w.heap g [pp, .int .i64 ((n : Nat) : Int), .int .i64 ((s0 : Nat) : Int), .int .i64 c0]) (hp : RN S (rP (rPr dp)) w.heap pp p) (hn : 1 ≤ n ∧ n ≤ 13) (hs0 : s0 ≤ 3000) (hc0 : 0 ≤ c0 ∧ c0 ≤ 9) (hex : RN S (rP (rEx d)) w.heap ve ex) (henv : RN S (rdL (rdL rI)) w.heap vv env) (hqenv : CapS vv)
  (hvp : VPr p) (hF : F ≤ p.length) (hwf : wf p ((F : Nat) : Int) ex ((env.length : Nat) : Int) = true) (hse : SrE n env) (hdp : env.length + ex.deep ≤ 1000000),
  Calls Tryz.prog 193 #[.pointer (some ⟨g, 0, none⟩), ve, vv] w (fun e w' => ∃ (v : Value) (x : List Int) (s1 : Nat) (c1 : Int), e = .returned v ∧ Chg [g] w w' ∧ BX w'.heap g [pp, .int .i64 ((n : Nat) : Int), .int .i64 ((s1 : Nat) : Int), .int .i64 c1] ∧ RN S (rdL rI) w'.heap v x ∧ Ser1 n x ∧ s1 ≤ 3000 ∧ (0 ≤ c1 ∧ c1 ≤ 9) ∧ RelV (go c0 (evE n (evC p n F) ex env s0)) x s1 c1)
def SC (F d : Nat) : Prop := ∀ (w : World) (S : List Nat) (g : Nat) (pp : Value) (dp n s0 : Nat) (c0 : Int) (p : List Fn) (ve : Value) (ex : Ex) (vv : Value) (env : List (List Int)) (hS : ∀ b ∈ S, b < w.heap.size) (hgS : g ∈ S) (hB0 : BX w.heap g [pp, .int .i64 ((n : Nat) : Int), .int .i64 ((s0 : Nat) : Int), .int .i64 c0]) (hp : RN S (rP (rPr dp)) w.heap pp p) (hn : 1 ≤ n ∧ n ≤ 13) (hs0 : s0 ≤ 3000) (hc0 : 0 ≤ c0 ∧ c0 ≤ 9) (hex : RN S (rP (rEx d)) w.heap ve ex) (henv : RN S (rdL (rdL rI)) w.heap vv env) (hqenv : CapS vv)
  (hvp : VPr p) (hF : F ≤ p.length) (hwf : wf p ((F : Nat) : Int) ex ((env.length : Nat) : Int) = true) (hse : SrE n env) (hdp : env.length + ex.deep ≤ 1000000) (hk : ex.kind = 10 ∨ ex.kind = 11),
  Calls Tryz.prog 223 #[.pointer (some ⟨g, 0, none⟩), ve, vv] w (fun e w' => ∃ (v : Value) (x : List Int) (s1 : Nat) (c1 : Int), e = .returned v ∧ Chg [g] w w' ∧ BX w'.heap g [pp, .int .i64 ((n : Nat) : Int), .int .i64 ((s1 : Nat) : Int), .int .i64 c1] ∧ RN S (rdL rI) w'.heap v x ∧ Ser1 n x ∧ s1 ≤ 3000 ∧ (0 ≤ c1 ∧ c1 ≤ 9) ∧ RelV (go c0 (callV n (evC p n F) ex env s0)) x s1 c1)
def SO (F : Nat) : Prop := ∀ (w : World) (S : List Nat) (g : Nat) (pp : Value) (dp n s0 : Nat) (c0 : Int) (p : List Fn) (dfx : Nat) (vf : Value) (fx : Fn) (va : Value) (env : List (List Int)) (hS : ∀ b ∈ S, b < w.heap.size) (hgS : g ∈ S) (hB0 : BX w.heap g [pp, .int .i64 ((n : Nat) : Int), .int .i64 ((s0 : Nat) : Int), .int .i64 c0]) (hp : RN S (rP (rPr dp)) w.heap pp p) (hn : 1 ≤ n ∧ n ≤ 13) (hs0 : s0 ≤ 3000) (hc0 : 0 ≤ c0 ∧ c0 ≤ 9) (hfx : RN S (rP (rFn dfx)) w.heap vf fx) (henv : RN S (rdL (rdL rI)) w.heap va env) (hqenv : CapS va)
  (hvp : VPr p) (hF : F ≤ p.length) (hwf : ∀ k, k < fx.outs.length → wf p ((F : Nat) : Int) (fx.outs.getD k Ex.zero) ((env.length : Nat) : Int) = true) (hse : SrE n env) (hdp : ∀ k, k < fx.outs.length → env.length + (fx.outs.getD k Ex.zero).deep ≤ 1000000) (hll : fx.outs.length ≤ 1000000),
  Calls Tryz.prog 145 #[.pointer (some ⟨g, 0, none⟩), vf, va] w (fun e w' => ∃ (v : Value) (x : List (List Int)) (s1 : Nat) (c1 : Int), e = .returned v ∧ Chg [g] w w' ∧ BX w'.heap g [pp, .int .i64 ((n : Nat) : Int), .int .i64 ((s1 : Nat) : Int), .int .i64 c1] ∧ RN S (rdL (rdL rI)) w'.heap v x ∧ (CapS v ∧ x.length = fx.outs.length ∧ SrE n x) ∧ s1 ≤ 3000 ∧ (0 ≤ c1 ∧ c1 ≤ 9) ∧ RelV (go c0 (evs n (evC p n F) fx.outs env s0)) x s1 c1)
theorem c_spec_l02Run_fail (w : World) (S : List Nat) (g : Nat) (pp : Value) (dp n s0 : Nat) (c0 : Int) (p : List Fn) (code : Int) (hS : ∀ b ∈ S,b < w.heap.size) (hgS : g ∈ S) (hB0 : BX w.heap g [pp,.int .i64 ((n :Nat):Int),.int .i64 ((s0 :Nat):Int),.int .i64 c0]) (hp : RN S (rP (rPr dp)) w.heap pp p) (hn : 1 ≤ n ∧ n ≤ 13) (hs0 : s0 ≤ 3000) (hc0 : 0 ≤ c0 ∧ c0 ≤ 9) (_hcode : -9223372036854775808 ≤ code ∧ code ≤ 9223372036854775807) (hcd : 1 ≤ code ∧ code ≤ 9) :
  Calls Tryz.prog 221 #[.pointer (some ⟨g,0,none⟩),.int .i64 code] w (fun e w' => ∃ (v : Value) (x : List Int) (s1 : Nat) (c1 : Int),e = .returned v ∧ Chg [g] w w' ∧ BX w'.heap g [pp,.int .i64 ((n :Nat):Int),.int .i64 ((s1 :Nat):Int),.int .i64 c1] ∧ RN S (rdL rI) w'.heap v x ∧ Ser1 n x ∧ s1 ≤ 3000 ∧ (0 ≤ c1 ∧ c1 ≤ 9) ∧ (s1 = s0 ∧ c1 = if c0 = 0 then code else c0)) := by
 refine calls_mk [.pointer (some ⟨g,0,none⟩),.int .i64 code] 19 Tryz.func221 rfl rfl sM ?_
 have hE0 : Chg [g] w w := Chg.refl [g] w
 have hgl := hB0.lt
 refine wp_seq (wp_plain _ [0] rfl (lw_tvn 1 rfl (wp_seq (wp_seq (wp_plain _ [0,0,0,2,0] rfl (lw_tv 1 rfl (q_nil rfl zN (q_fldP (p := (.pointer (some ⟨g,0,none⟩))) (b := g) (o := 0) 3 fd157_3 rfl rfl zN (q_load (p := (padd (.pointer (some ⟨g,0,none⟩)) 3)) (.inr rfl) (.int .i64 c0) one2 rfl (hB0.ldp (i := 3) sM) zN ?_)))))))))
 by_cases hc1 : c0 = ((0 :Nat):Int)
 ·
  refine q_eql true rfl rfl (decide_eq_true hc1) zN (lw_nil (c_cond_t rfl (wp_plain _ [0,0,0,0,4] rfl (lw_tv 2 rfl (q_nil rfl zN (q_fldP (p := (.pointer (some ⟨g,0,none⟩))) (b := g) (o := 0) 3 fd157_3 rfl rfl zN (e_setB (k := 3) (w := w) sz2 rfl rfl ⟨rfl,rfl⟩ hB0 sM zN fun w2 hC2 hz2 hB2 => ?_)))))))
  replace hB2 : BX w2.heap g [pp,(.int .i64 ((n :Nat):Int)),(.int .i64 ((s0 :Nat):Int)),(.int .i64 code)] := hB2
  have hE2 : Chg [g] w w2 := hE0.trans hC2
  have hzs2:=hC2.size
  refine lw_nil (wp_seq (wp_plain _ [0,0,0,2,3,0] rfl (lw_tv 1 rfl (q_nil rfl zN (q_fldP (p := (.pointer (some ⟨g,0,none⟩))) (b := g) (o := 0) 1 fd157_1 rfl rfl zN (q_load (p := (padd (.pointer (some ⟨g,0,none⟩)) 1)) (.inr rfl) (.int .i64 ((n :Nat):Int)) one3 rfl (hB2.ldp (i := 1) sM) zN ?_))))))
  refine lw_call 122 [] [] [(.int .i64 ((0 :Nat):Int)),(.int .i64 ((n :Nat):Int))] rfl rfl cf122 zN (c_spec_l01Const _ _ (n) oM sD oM) ?_
  rintro e3 w3 ⟨v3_0,rfl,hX3,hO3_0⟩
  refine ⟨_,rfl,hX3,?_⟩
  have hzs3:=hX3.size
  have hE3 : Chg [g] w w3 := hE2.ext hX3
  have hB2x3 := hB2.ext hX3
  exact lw_tvn 1 rfl (wp_ret (post_ret [4] rfl v3_0 rfl ⟨v3_0,cst n ((0 :Nat):Int),s0,code,rfl,hE3,hB2x3,(RN.of_fr1 hO3_0 (fun b hb => by have := hS b hb; omega)),(by exact cst_ser (by decide)),oM,oM,(by exact ⟨rfl,by first | (rw [if_pos oM]) | (rw [if_neg oM])⟩)⟩))
 ·
  refine q_eql false rfl rfl (decide_eq_false hc1) zN (lw_nil (c_cond_f rfl (wp_skip (wp_seq (wp_plain _ [0,0,0,2,3,0] rfl (lw_tv 1 rfl (q_nil rfl zN (q_fldP (p := (.pointer (some ⟨g,0,none⟩))) (b := g) (o := 0) 1 fd157_1 rfl rfl zN (q_load (p := (padd (.pointer (some ⟨g,0,none⟩)) 1)) (.inr rfl) (.int .i64 ((n :Nat):Int)) one3 rfl (hB0.ldp (i := 1) sM) zN ?_)))))))))
  refine lw_call 122 [] [] [(.int .i64 ((0 :Nat):Int)),(.int .i64 ((n :Nat):Int))] rfl rfl cf122 zN (c_spec_l01Const _ _ (n) oM sD oM) ?_
  rintro e4 w4 ⟨v4_0,rfl,hX4,hO4_0⟩
  refine ⟨_,rfl,hX4,?_⟩
  have hzs4:=hX4.size
  have hE4 : Chg [g] w w4 := hE0.ext hX4
  have hB0x4 := hB0.ext hX4
  exact lw_tvn 1 rfl (wp_ret (post_ret [4] rfl v4_0 rfl ⟨v4_0,cst n ((0 :Nat):Int),s0,c0,rfl,hE4,hB0x4,(RN.of_fr1 hO4_0 (fun b hb => by have := hS b hb; omega)),(by exact cst_ser (by decide)),oM,oM,(by exact ⟨rfl,by first | (rw [if_pos oM]) | (rw [if_neg oM])⟩)⟩))
theorem z222_0 {p : Prop} (h : p := by unfold maxLen; first | omega | assumption | (simp only [List.length_nil, List.length_cons, List.length_append, List.length_set, List.length_replicate]; omega) | (simp [List.length_nil, List.length_cons, List.length_append, List.length_set, List.length_replicate]; done) | (simp [List.length_nil, List.length_cons, List.length_append, List.length_set, List.length_replicate]; omega)) : p := h
theorem c_spec_l02Env (w : World) (S : List Nat) (vv : Value) (env : List (List Int)) (vx : Value) (x : List Int) (hS : ∀ b ∈ S,b < w.heap.size) (henv : RN S (rdL (rdL rI)) w.heap vv env) (hqenv : CapS vv) (hx : RN S (rdL rI) w.heap vx x) (hel : env.length ≤ 1000000) :
  Calls Tryz.prog 222 #[vv,vx] w (fun e w' => ∃ v,e = .returned v ∧ Ext w w' ∧ RN S (rdL (rdL rI)) w'.heap v (env ++ [x]) ∧ CapS v) := by
 refine calls_mk [vv,vx] 25 Tryz.func222 rfl rfl sM ?_
 have hE0 : Ext w w := Ext.refl w
 have hl_vv := henv.lenL
 unfold maxLen at hl_vv
 have hl_vx := hx.lenL
 unfold maxLen at hl_vx
 refine wp_seq (wp_plain _ [0] rfl (lw_tvn 1 rfl (wp_seq (wp_plain _ [3,0] rfl (r_nil rV good_rV u32 ti27 zN fun v1 w1 hX1 hz1 hO1 => ?_)))))
 have hzs1:=hX1.size
 have hE1:=hE0.trans hX1
 obtain ⟨us1,F1,hb1⟩ := Bld.nil (S := S) (hO1.low (B' := w.heap.size) (Nat.le_refl _))
 refine lw_tvn 1 rfl (wp_seq (wp_seq (wp_plain _ [0] rfl (lw_tvn 1 rfl (wp_block (c_loop (S := Nat × Value) (fun (⟨k,vo⟩ : Nat × Value) => ([(5,vo),(6,(.int .i64 ((k :Nat):Int))),(0,vv),(1,vx)] : List (Nat × Value))) (fun (⟨k,vo⟩ : Nat × Value) (W : World) => Ext w W ∧ k ≤ env.length ∧ BldE 27 S w.heap.size W.heap vo (env.take k)) (fun (⟨k,vo⟩ : Nat × Value) => env.length - k) (0,v1) ⟨rfl,rfl,rfl,rfl,trivial⟩ ⟨hE1,sD,(by exact ⟨_,_,by assumption⟩)⟩ ?_))))))
 clear hE0 hO1 hz1 hX1 hzs1 hE1
 rintro ⟨k,vo⟩ ρ2 w2 ⟨hE2,hp2_0,hbld⟩
 have hzs2 : w.heap.size ≤ w2.heap.size := hE2.size
 obtain ⟨us4,F4,hbl3⟩ := hbld
 refine wp_seq (wp_seq (wp_plain _ [0,0,0,0] rfl (lw_tv 2 rfl (q_len (v := vv) u32 rfl henv.slL zN ?_))))
 by_cases hc5 : ((k :Nat):Int) < ((env.length :Nat):Int)
 ·
  refine q_lss true rfl rfl (decide_eq_true hc5) zN (lw_nil (c_cond_t rfl (wp_skip (wp_seq (wp_block (wp_plain _ [0,0,0,0,2,3,4,0] rfl (lw_tv 3 rfl (q_idx (v := vv) k u32 ti27 rfl rfl henv.slL rfl sD zN ?_))))))))
  obtain ⟨ue6,hl6,hr6⟩ := RN.getL (w := w) g1 [] (k := k) henv sD
  have hln6 := hr6.lenL
  unfold maxLen at hln6
  refine q_load (p := eptr vv k 1) (.inr rfl) ue6 one27 rfl (hl6 _ (Chg.of_ext S hE2)) zN (r_one (u := ue6) (B := w2.heap.size) good_rV u32 ti27 rfl rfl (frV w2.heap.size w2.heap.size _ (hr6.one1 g1)) (Nat.le_refl _) zN fun v7 w7 hX7 hz7 hO7 => ?_)
  have hzs7:=hX7.size
  have hE7:=hE2.trans hX7
  have hN8 := hbl3.ext hX7
  refine e_appB (v := vo) (a := v7) (u := ue6) u32 ti27 rfl rfl rfl hN8 oM hO7 ((hr6.add (F := F4) g1 hN8.low).ext g1 hE7) sD z222_0 zN ?_
  rintro v9 w9 G9 hC9 hF9 ⟨us9,F9,hb9⟩
  have hzs9:=hC9.size
  have hE9 : Ext w w9 := hC9.below hE7 (fun c hc => hN8.low c (hF9 c hc)) hE7.size
  refine lw_tvn 1 rfl (wp_plain _ [0,0,0] rfl (lw_tv 1 rfl (q_add ((k + 1 :Nat):Int) rfl rfl (w64n oM sD) zN (lw_tvn 1 rfl ?_))))
  exact ⟨((k + 1),v9),_,rfl,⟨rfl,rfl,rfl,rfl,trivial⟩,⟨hE9,sD,(by rw [take_snoc [] oM]; exact ⟨_,_,by assumption⟩)⟩,by first | omega | (dsimp only; omega)⟩
 ·
  refine q_lss false rfl rfl (decide_eq_false hc5) zN (lw_nil (c_cond_f rfl (wp_exit (t_exit (t_exit (c_exit_here (wp_seq (wp_plain _ [0,0,3,4,0] rfl (lw_tv 2 rfl (r_one (u := vx) (B := w2.heap.size) good_rV u32 ti27 rfl rfl (frV w2.heap.size w2.heap.size _ (hx.one1 g1)) (Nat.le_refl _) zN fun v10 w10 hX10 hz10 hO10 => ?_))))))))))
  have hzs10:=hX10.size
  have hE10:=hE2.trans hX10
  have hN11 := hbl3.ext hX10
  refine e_appB (v := vo) (a := v10) (u := vx) u32 ti27 rfl rfl rfl hN11 oM hO10 ((hx.add (F := F4) g1 hN11.low).ext g1 hE10) sD z222_0 zN ?_
  rintro v12 w12 G12 hC12 hF12 ⟨us12,F12,hb12⟩
  have hzs12:=hC12.size
  have hE12 : Ext w w12 := hC12.below hE10 (fun c hc => hN11.low c (hF12 c hc)) hE10.size
  exact lw_tvn 1 rfl (wp_ret (post_ret [4] rfl v12 rfl ⟨v12,rfl,hE12,(by have h9 := (hb12.done hS); rw [List.take_of_length_le oM] at h9; exact h9),hb12.cap⟩))
theorem c_spec_l02Run_outs (w : World) (S : List Nat) (F : Nat) (g : Nat) (pp : Value) (dp n s0 : Nat) (c0 : Int) (p : List Fn) (dfx : Nat) (vf : Value) (fx : Fn) (va : Value) (env : List (List Int)) (hS : ∀ b ∈ S,b < w.heap.size) (hgS : g ∈ S) (hB0 : BX w.heap g [pp,.int .i64 ((n :Nat):Int),.int .i64 ((s0 :Nat):Int),.int .i64 c0]) (hp : RN S (rP (rPr dp)) w.heap pp p) (hn : 1 ≤ n ∧ n ≤ 13) (hs0 : s0 ≤ 3000) (hc0 : 0 ≤ c0 ∧ c0 ≤ 9) (hfx : RN S (rP (rFn dfx)) w.heap vf fx) (henv : RN S (rdL (rdL rI)) w.heap va env) (hqenv : CapS va) (hvp : VPr p) (hF : F ≤ p.length) (hwf : ∀ k,k < fx.outs.length → wf p ((F :Nat):Int) (fx.outs.getD k Ex.zero) ((env.length :Nat):Int) = true) (hse : SrE n env) (hdp : ∀ k,k < fx.outs.length → env.length + (fx.outs.getD k Ex.zero).deep ≤ 1000000) (hll : fx.outs.length ≤ 1000000) (IHv : ∀ d,SV F d) :
  Calls Tryz.prog 145 #[.pointer (some ⟨g,0,none⟩),vf,va] w (fun e w' => ∃ (v : Value) (x : List (List Int)) (s1 : Nat) (c1 : Int),e = .returned v ∧ Chg [g] w w' ∧ BX w'.heap g [pp,.int .i64 ((n :Nat):Int),.int .i64 ((s1 :Nat):Int),.int .i64 c1] ∧ RN S (rdL (rdL rI)) w'.heap v x ∧ (CapS v ∧ x.length = fx.outs.length ∧ SrE n x) ∧ s1 ≤ 3000 ∧ (0 ≤ c1 ∧ c1 ≤ 9) ∧ RelV (go c0 (evs n (evC p n F) fx.outs env s0)) x s1 c1) := by
 refine calls_mk [.pointer (some ⟨g,0,none⟩),vf,va] 32 Tryz.func145 rfl rfl sM ?_
 have hE0 : Chg [g] w w := Chg.refl [g] w
 have hl_va := henv.lenL
 unfold maxLen at hl_va
 have hgl := hB0.lt
 refine wp_seq (wp_plain _ [0] rfl (lw_tvn 1 rfl (wp_seq (wp_plain _ [3,0] rfl (r_nil rV good_rV u32 ti27 zN fun v1 w1 hX1 hz1 hO1 => ?_)))))
 have hzs1:=hX1.size
 have hE1 : Chg [g] w w1 := hE0.ext hX1
 have hB0x1 := hB0.ext hX1
 obtain ⟨us1,F1,hb1⟩ := Bld.nil (S := S) (hO1.low (B' := w.heap.size) (Nat.le_refl _))
 refine lw_tvn 1 rfl (wp_seq (wp_seq (wp_plain _ [0] rfl (lw_tvn 1 rfl (wp_block ?_)))))
 refine c_loop (S := Nat × Value × List (List Int) × Nat × Int) (fun (⟨k,vo,xs,s9,c9⟩ : Nat × Value × List (List Int) × Nat × Int) => ([(7,vo),(8,(.int .i64 ((k :Nat):Int))),(0,(.pointer (some ⟨g,0,none⟩))),(1,vf),(2,va)] : List (Nat × Value))) (fun (⟨k,vo,xs,s9,c9⟩ : Nat × Value × List (List Int) × Nat × Int) (W : World) => Chg [g] w W ∧ BX W.heap g [pp,.int .i64 ((n :Nat):Int),.int .i64 ((s9 :Nat):Int),.int .i64 c9] ∧ k ≤ fx.outs.length ∧ BldE 27 S w.heap.size W.heap vo xs ∧ xs.length = k ∧ SrE n xs ∧ s9 ≤ 3000 ∧ (0 ≤ c9 ∧ c9 ≤ 9) ∧ RelV (go c0 (evs n (evC p n F) (fx.outs.take k) env s0)) xs s9 c9) (fun (⟨k,vo,xs,s9,c9⟩ : Nat × Value × List (List Int) × Nat × Int) => fx.outs.length - k) (0,v1,([] : List (List Int)),s0,c0) ⟨rfl,rfl,rfl,rfl,rfl,trivial⟩ ⟨hE1,hB0x1,sD,(by exact ⟨_,_,by assumption⟩),(by rfl),(by intro j hj; simp at hj),oM,oM,(by exact all_start _ _ _ _ _ _)⟩ ?_
 clear hE0 hO1 hz1 hX1 hzs1 hE1
 rintro ⟨k,vo,xs,s9,c9⟩ ρ2 w2 ⟨hE2,hL2_0,hp2_0,hbld,hxl,hxs,hp2_4,hp2_5,hrl⟩
 have hzs2 : w.heap.size ≤ w2.heap.size := hE2.size
 have hq3 := hL2_0.lt
 obtain ⟨us5,F5,hbl4⟩ := hbld
 refine wp_seq (wp_seq (wp_plain _ [0,0,0,0,2,0,0] rfl (lw_tv 2 rfl (q_nilP (hfx.isPtr) rfl zN ?_))))
 obtain ⟨cs6,hr6,hl6⟩ := RN.at (good_rFn _) hfx
 obtain ⟨ve6,rfl,hx6⟩ := RF.of hr6
 have hln6 := hx6.rn.lenle
 unfold maxLen at hln6
 refine q_fldL (p := vf) 2 fd55_2 rfl (hl6 _ (hE2.sub (subS hgS))) zN (q_load (p := (padd vf 2)) (.inr rfl) ve6 one53 rfl ((hl6 _ (hE2.sub (subS hgS))).ld (i := 2) (by simp [exC,fnC])) zN (q_len (v := ve6) u53 rfl hx6.rn.isSl zN ?_))
 by_cases hc7 : ((k :Nat):Int) < ((fx.outs.length :Nat):Int)
 ·
  refine q_lss true rfl rfl (decide_eq_true hc7) zN (lw_nil (c_cond_t rfl (wp_skip (wp_seq (wp_block (wp_plain _ [0,0,0,0,0,2,0,0,0,4,3,4,0] rfl (lw_tv 3 rfl (q_nilP (hfx.isPtr) rfl zN (q_fldL (p := vf) 2 fd55_2 rfl (hl6 _ (hE2.sub (subS hgS))) zN (q_load (p := (padd vf 2)) (.inr rfl) ve6 one53 rfl ((hl6 _ (hE2.sub (subS hgS))).ld (i := 2) (by simp [exC,fnC])) zN (lw_tv 1 rfl ?_)))))))))))
  refine q_idx (v := ve6) k u53 tiS174 rfl rfl hx6.rn.isSl rfl sD zN (lw_tv 1 rfl ?_)
  refine lw_callE 193 [] [] [(.pointer (some ⟨g,0,none⟩)),(eptr ve6 k 5),va] rfl rfl cf193 zN (IHv dfx _ (S ++ F5) g pp dp (n) (s9) (c9) (p) (eptr ve6 k 5) (fx.outs.getD k Ex.zero) va (env) (fun b hb => (by rcases List.mem_append.1 hb with hb | hb; (have := hS b hb; omega); exact hbl4.lt b hb : b < w2.heap.size)) (List.mem_append_left _ hgS) hL2_0 ((hp.add (F := F5) (good_rP (good_rPr dp)) hbl4.low).chg (good_rP (good_rPr dp)) (hE2.sub (subA hgS))) oM oM oM (RN.ptr (good_rEx dfx) (by decide) Ex.zero ((hx6.rn.add (F := F5) (good_rdS (good_rEx dfx)) hbl4.low).chg (good_rdS (good_rEx dfx)) (hE2.sub (subA hgS))) sD) ((henv.add (F := F5) g2 hbl4.low).chg g2 (hE2.sub (subA hgS))) hqenv (by exact hvp) oM (by exact hwf k oM) (by exact hse) (by exact hdp k oM)) ?_
  rintro e8 w8 ⟨v8,x8,s8,c8,rfl,hC8,hB8,hr8,hse8,hsb8,hcb8,hrl8⟩
  refine ⟨_,rfl,?_⟩
  have hzs8:=hC8.size
  have hE8 : Chg [g] w w8 := hE2.trans hC8
  have hF12 := hbl4.run hgS oM hC8
  have hsn8 := hse8.1
  replace hr8 : RN (S ++ F5) (rdL rI) w8.heap v8 x8 := hr8
  refine r_one (u := v8) (B := w8.heap.size) good_rV u32 ti27 rfl rfl (frV w8.heap.size w8.heap.size _ (hr8.one1 g1)) (Nat.le_refl _) zN fun v14 w14 hX14 hz14 hO14 => ?_
  have hzs14:=hX14.size
  have hE14 : Chg [g] w w14 := hE8.ext hX14
  have hB8x14 := hB8.ext hX14
  have hN15 := hF12.ext hX14
  have hN16 := hr8.ext g1 hX14
  refine e_appB (v := vo) (a := v14) (u := v8) u32 ti27 rfl rfl rfl hN15 oM hO14 hN16 sD (by unfold maxLen; first | omega | assumption | (simp; done) | (simp; omega)) zN ?_
  rintro v17 w17 G17 hC17 hF17 ⟨us17,F17,hb17⟩
  have hzs17:=hC17.size
  have hE17 : Chg [g] w w17 := hE14.fresh hC17 (fun c hc => hN15.low c (hF17 c hc))
  have hF18 := hB8x14.chg hC17 (fun hm => by have := hN15.low _ (hF17 _ hm); have := hN15.lt _ (hF17 _ hm); omega)
  refine lw_tvn 1 rfl (wp_plain _ [0,0,0] rfl (lw_tv 1 rfl (q_add ((k + 1 :Nat):Int) rfl rfl (w64n oM sD) zN (lw_tvn 1 rfl ?_))))
  exact ⟨((k + 1),v17,(xs ++ [x8]),s8,c8),_,rfl,⟨rfl,rfl,rfl,rfl,rfl,trivial⟩,⟨hE17,hF18,sD,(by exact ⟨_,_,by assumption⟩),(by rw [List.length_append,List.length_singleton,hxl]),(by exact SrE.snoc hxs (by assumption)),oM,oM,(by exact rel_snoc oM hrl (by assumption))⟩,by first | omega | (dsimp only; omega)⟩
 ·
  exact q_lss false rfl rfl (decide_eq_false hc7) zN (lw_nil (c_cond_f rfl (wp_exit (t_exit (t_exit (c_exit_here (wp_seq (wp_plain _ [0,0] rfl (lw_tvn 2 rfl (wp_ret (post_ret [6] rfl vo rfl ⟨vo,xs,s9,c9,rfl,hE2,hL2_0,(hbl4.done hS),(by exact ⟨hbl4.cap,by omega,hxs⟩),oM,oM,(by rw [List.take_of_length_le oM] at hrl; exact hrl)⟩)))))))))))
theorem c_outs (F : Nat) (IH : ∀ d,SV F d) : SO F := by
 intro w S g pp dp n s0 c0 p dfx vf fx va env hS hgS hB0 hp hn hs0 hc0 hfx henv hqenv hvp hF hwf hse hdp hll
 exact c_spec_l02Run_outs w S F g pp dp n s0 c0 p dfx vf fx va env hS hgS hB0 hp hn hs0 hc0 hfx henv hqenv hvp hF hwf hse hdp hll IH
theorem z223_0 {p : Prop} (h : p := by first | exact rel_cone oM oM hKr (by assumption) | exact rel_clop oM oM hKr (by rw [show (ex.count).toNat = i from by omega]; exact hrl9)) : p := h
theorem z223_1 {p : Prop} (h : p := by simp [exC, fnC]) : p := h
theorem c_spec_l02Run_call (w : World) (S : List Nat) (F : Nat) (g : Nat) (pp : Value) (dp n s0 : Nat) (c0 : Int) (p : List Fn) (dex : Nat) (ve : Value) (ex : Ex) (vv : Value) (env : List (List Int)) (hS : ∀ b ∈ S,b < w.heap.size) (hgS : g ∈ S) (hB0 : BX w.heap g [pp,.int .i64 ((n :Nat):Int),.int .i64 ((s0 :Nat):Int),.int .i64 c0]) (hp : RN S (rP (rPr dp)) w.heap pp p) (hn : 1 ≤ n ∧ n ≤ 13) (hs0 : s0 ≤ 3000) (hc0 : 0 ≤ c0 ∧ c0 ≤ 9) (hex : RN S (rP (rEx dex)) w.heap ve ex) (henv : RN S (rdL (rdL rI)) w.heap vv env) (hqenv : CapS vv) (hvp : VPr p) (hF : F ≤ p.length) (hwf : wf p ((F :Nat):Int) ex ((env.length :Nat):Int) = true) (hse : SrE n env) (hdp : env.length + ex.deep ≤ 1000000) (hk : ex.kind = 10 ∨ ex.kind = 11) (IH1 : ∀ F',F' < F → ∀ d,SV F' d) (IH2 : ∀ d',d' < dex → SV F d') :
  Calls Tryz.prog 223 #[.pointer (some ⟨g,0,none⟩),ve,vv] w (fun e w' => ∃ (v : Value) (x : List Int) (s1 : Nat) (c1 : Int),e = .returned v ∧ Chg [g] w w' ∧ BX w'.heap g [pp,.int .i64 ((n :Nat):Int),.int .i64 ((s1 :Nat):Int),.int .i64 c1] ∧ RN S (rdL rI) w'.heap v x ∧ Ser1 n x ∧ s1 ≤ 3000 ∧ (0 ≤ c1 ∧ c1 ≤ 9) ∧ RelV (go c0 (callV n (evC p n F) ex env s0)) x s1 c1) := by
 refine calls_mk [.pointer (some ⟨g,0,none⟩),ve,vv] 81 Tryz.func223 rfl rfl sM ?_
 have hE0 : Chg [g] w w := Chg.refl [g] w
 have hl_vv := henv.lenL
 unfold maxLen at hl_vv
 have hgl := hB0.lt
 have hwk := wk_call hwf hk
 have hk9 : ex.kind ≠ 9 := by omega
 have hkH := hidI hk
 clear hk
 have hdk := deep_kids ex
 refine wp_seq (wp_plain _ [0] rfl (lw_tvn 1 rfl (wp_seq (wp_plain _ [3,0] rfl (r_nil rV good_rV u32 ti27 zN fun v1 w1 hX1 hz1 hO1 => ?_)))))
 have hzs1:=hX1.size
 have hE1 : Chg [g] w w1 := hE0.ext hX1
 have hB0x1 := hB0.ext hX1
 obtain ⟨us1,F1,hb1⟩ := Bld.nil (S := S) (hO1.low (B' := w.heap.size) (Nat.le_refl _))
 refine lw_tvn 1 rfl (wp_seq (wp_seq (wp_plain _ [0] rfl (lw_tvn 1 rfl (wp_block ?_)))))
 refine c_loop (S := Nat × Value × List (List Int) × Nat × Int) (fun (⟨k,vo,xs,s9,c9⟩ : Nat × Value × List (List Int) × Nat × Int) => ([(7,vo),(8,(.int .i64 ((k :Nat):Int))),(0,(.pointer (some ⟨g,0,none⟩))),(1,ve),(2,vv)] : List (Nat × Value))) (fun (⟨k,vo,xs,s9,c9⟩ : Nat × Value × List (List Int) × Nat × Int) (W : World) => Chg [g] w W ∧ BX W.heap g [pp,.int .i64 ((n :Nat):Int),.int .i64 ((s9 :Nat):Int),.int .i64 c9] ∧ k ≤ ex.kids.length ∧ BldE 27 S w.heap.size W.heap vo xs ∧ xs.length = k ∧ SrE n xs ∧ s9 ≤ 3000 ∧ (0 ≤ c9 ∧ c9 ≤ 9) ∧ RelV (go c0 (evs n (evC p n F) (ex.kids.take k) env s0)) xs s9 c9) (fun (⟨k,vo,xs,s9,c9⟩ : Nat × Value × List (List Int) × Nat × Int) => ex.kids.length - k) (0,v1,([] : List (List Int)),s0,c0) ⟨rfl,rfl,rfl,rfl,rfl,trivial⟩ ⟨hE1,hB0x1,sD,(by exact ⟨_,_,by assumption⟩),(by rfl),(by intro j hj; simp at hj),oM,oM,(by exact all_start _ _ _ _ _ _)⟩ ?_
 clear hE0 hO1 hz1 hX1 hzs1 hE1
 rintro ⟨k,vo,xs,s9,c9⟩ ρ2 w2 ⟨hE2,hL2_0,hp2_0,hbld,hxl,hxs,hp2_4,hp2_5,hrl⟩
 have hzs2 : w.heap.size ≤ w2.heap.size := hE2.size
 have hq3 := hL2_0.lt
 obtain ⟨us5,F5,hbl4⟩ := hbld
 refine wp_seq (wp_seq (wp_plain _ [0,0,0,0,2,0,0] rfl (lw_tv 2 rfl (q_nilP (hex.isPtr) rfl zN ?_))))
 obtain ⟨cs6,hr6,hl6⟩ := RN.at (good_rEx _) hex
 obtain ⟨dd6,ve6,hd6,rfl,hx6⟩ := RX.of hr6
 have hln6 := hx6.rn.lenle
 unfold maxLen at hln6
 refine q_fldL (p := ve) 4 fd174_4 rfl (hl6 _ (hE2.sub (subS hgS))) zN (q_load (p := (padd ve 4)) (.inr rfl) ve6 one53 rfl ((hl6 _ (hE2.sub (subS hgS))).ld (i := 4) z223_1) zN (q_len (v := ve6) u53 rfl hx6.rn.isSl zN ?_))
 by_cases hc7 : ((k :Nat):Int) < ((ex.kids.length :Nat):Int)
 ·
  refine q_lss true rfl rfl (decide_eq_true hc7) zN (lw_nil (c_cond_t rfl (wp_skip (wp_seq (wp_block (wp_plain _ [0,0,0,0,0,2,0,0,0,4,3,4,0] rfl ?_))))))
  have hvo := hvp.outs (ex.num).toNat oM
  have hvr := hvp.par (ex.num).toNat oM
  have hkd := kd_at (l := ex.kids) (k := k) oM
  have hkb : ex.kids.length ≤ 412 := by omega
  refine lw_tv 3 rfl (q_nilP (hex.isPtr) rfl zN (q_fldL (p := ve) 4 fd174_4 rfl (hl6 _ (hE2.sub (subS hgS))) zN (q_load (p := (padd ve 4)) (.inr rfl) ve6 one53 rfl ((hl6 _ (hE2.sub (subS hgS))).ld (i := 4) z223_1) zN (lw_tv 1 rfl (q_idx (v := ve6) k u53 tiS174 rfl rfl hx6.rn.isSl rfl sD zN (lw_tv 1 rfl ?_))))))
  refine lw_callE 193 [] [] [(.pointer (some ⟨g,0,none⟩)),(eptr ve6 k 5),vv] rfl rfl cf193 zN (IH2 dd6 oM _ (S ++ F5) g pp dp (n) (s9) (c9) (p) (eptr ve6 k 5) (ex.kids.getD k Ex.zero) vv (env) (fun b hb => (by rcases List.mem_append.1 hb with hb | hb; (have := hS b hb; omega); exact hbl4.lt b hb : b < w2.heap.size)) (List.mem_append_left _ hgS) hL2_0 ((hp.add (F := F5) (good_rP (good_rPr dp)) hbl4.low).chg (good_rP (good_rPr dp)) (hE2.sub (subA hgS))) oM oM oM (RN.ptr (good_rEx dd6) (by decide) Ex.zero ((hx6.rn.add (F := F5) (good_rdS (good_rEx dd6)) hbl4.low).chg (good_rdS (good_rEx dd6)) (hE2.sub (subA hgS))) sD) ((henv.add (F := F5) g2 hbl4.low).chg g2 (hE2.sub (subA hgS))) hqenv (by exact hvp) oM (by exact wf_at0 hwf oM oM) (by exact hse) oM) ?_
  rintro e8 w8 ⟨v8,x8,s8,c8,rfl,hC8,hB8,hr8,hse8,hsb8,hcb8,hrl8⟩
  refine ⟨_,rfl,?_⟩
  have hzs8:=hC8.size
  have hE8 : Chg [g] w w8 := hE2.trans hC8
  have hF12 := hbl4.run hgS oM hC8
  have hsn8 := hse8.1
  replace hr8 : RN (S ++ F5) (rdL rI) w8.heap v8 x8 := hr8
  refine r_one (u := v8) (B := w8.heap.size) good_rV u32 ti27 rfl rfl (frV w8.heap.size w8.heap.size _ (hr8.one1 g1)) (Nat.le_refl _) zN fun v14 w14 hX14 hz14 hO14 => ?_
  have hzs14:=hX14.size
  have hE14 : Chg [g] w w14 := hE8.ext hX14
  have hB8x14 := hB8.ext hX14
  have hN15 := hF12.ext hX14
  have hN16 := hr8.ext g1 hX14
  refine e_appB (v := vo) (a := v14) (u := v8) u32 ti27 rfl rfl rfl hN15 oM hO14 hN16 sD (by unfold maxLen; first | omega | assumption | (simp; done) | (simp; omega)) zN ?_
  rintro v17 w17 G17 hC17 hF17 ⟨us17,F17,hb17⟩
  have hzs17:=hC17.size
  have hE17 : Chg [g] w w17 := hE14.fresh hC17 (fun c hc => hN15.low c (hF17 c hc))
  have hF18 := hB8x14.chg hC17 (fun hm => by have := hN15.low _ (hF17 _ hm); have := hN15.lt _ (hF17 _ hm); omega)
  refine lw_tvn 1 rfl (wp_plain _ [0,0,0] rfl (lw_tv 1 rfl (q_add ((k + 1 :Nat):Int) rfl rfl (w64n oM sD) zN (lw_tvn 1 rfl ?_))))
  exact ⟨((k + 1),v17,(xs ++ [x8]),s8,c8),_,rfl,⟨rfl,rfl,rfl,rfl,rfl,trivial⟩,⟨hE17,hF18,sD,(by exact ⟨_,_,by assumption⟩),(by rw [List.length_append,List.length_singleton,hxl]),(by exact SrE.snoc hxs (by assumption)),oM,oM,(by exact rel_snoc oM hrl (by assumption))⟩,by first | omega | (dsimp only; omega)⟩
 ·
  refine q_lss false rfl rfl (decide_eq_false hc7) zN (lw_nil (c_cond_f rfl (wp_exit (t_exit (t_exit (c_exit_here (wp_seq (wp_draw _ [0,0,0,1,0,0,1,0,0,0,1,0,0] mixed (by kernel_rfl) ?_))))))))
  have hfn19 := hbl4.done hS
  have hfn19c := hbl4.cap
  have hvo := hvp.outs (ex.num).toNat oM
  have hvr := hvp.par (ex.num).toNat oM
  have hxk : xs.length = ex.kids.length := by omega
  have hKr : RelV (go c0 (evs n (evC p n F) ex.kids env s0)) xs s9 c9 := by rw [List.take_of_length_le oM] at hrl; exact hrl
  refine lw_tv 1 rfl (q_nil rfl zN (q_fldP (p := (.pointer (some ⟨g,0,none⟩))) (b := g) (o := 0) 0 fd157_0 rfl rfl zN (q_load (p := (padd (.pointer (some ⟨g,0,none⟩)) 0)) (.inl rfl) pp one93 rfl (hL2_0.ldp (i := 0) sM) zN (q_nilP (hp.isPtr) rfl zN ?_))))
  obtain ⟨cs20,hr20,hl20⟩ := RN.at (good_rPr _) hp
  obtain ⟨ve20,rfl,hx20⟩ := RPr.of hr20
  have hln20 := hx20.lenle
  unfold maxLen at hln20
  refine q_fldL (p := pp) 0 fd26_0 rfl (hl20 _ (hE2.drew.sub (subS hgS))) zN (q_load (p := (padd pp 0)) (.inl rfl) ve20 one24 rfl ((hl20 _ (hE2.drew.sub (subS hgS))).ld (i := 0) z223_1) zN (lw_tv 1 rfl (q_nilP (hex.isPtr) rfl zN (q_fldL (p := ve) 1 fd174_1 rfl (hl6 _ (hE2.drew.sub (subS hgS))) zN (q_load (p := (padd ve 1)) (.inl rfl) (.int .i64 ex.num) one2 rfl ((hl6 _ (hE2.drew.sub (subS hgS))).ld (i := 1) z223_1) zN ?_)))))
  refine q_idx (v := ve20) ((ex.num).toNat) u24 tiS55 rfl rfl hx20.isSl oM sD zN (lw_tvn 1 rfl (wp_seq (wp_seq (wp_plain _ [0,0,0,2,0] rfl (lw_tv 1 rfl (q_nilP (hex.isPtr) rfl zN (q_fldL (p := ve) 0 fd174_0 rfl (hl6 _ (hE2.drew.sub (subS hgS))) zN (q_load (p := (padd ve 0)) (.inr rfl) (.int .i64 ex.kind) one2 rfl ((hl6 _ (hE2.drew.sub (subS hgS))).ld (i := 0) z223_1) zN ?_))))))))
  by_cases hc21 : ex.kind = ((10 :Nat):Int)
  ·
   refine q_eql true rfl rfl (decide_eq_true hc21) zN (lw_nil (c_cond_t rfl (wp_seq (wp_draw _ [0,0,0,0,1,0,0,0,1,0,0,4,0] mixed (by kernel_rfl) (lw_tv 2 rfl ?_)))))
   have hvd := hvp.deep (ex.num).toNat oM (ex.pick).toNat oM
   refine q_nilP (RN.isPtr (RN.ptr (good_rFn dp) (by decide) Fn.zero hx20 sD)) rfl zN ?_
   obtain ⟨cs22,hr22,hl22⟩ := hx20.get (good_rFn dp) Fn.zero (k := ((ex.num).toNat)) sD
   obtain ⟨ve22,rfl,hx22⟩ := RF.of hr22
   have hln22 := hx22.rn.lenle
   unfold maxLen at hln22
   refine q_fldL (p := eptr ve20 ((ex.num).toNat) 3) 2 fd55_2 rfl (hl22 _ (hE2.drew.drew.sub (subS hgS))) zN (q_load (p := (padd (eptr ve20 ((ex.num).toNat) 3) 2)) (.inl rfl) ve22 one53 rfl ((hl22 _ (hE2.drew.drew.sub (subS hgS))).ld (i := 2) z223_1) zN (lw_tv 1 rfl (q_nilP (hex.isPtr) rfl zN (q_fldL (p := ve) 2 fd174_2 rfl (hl6 _ (hE2.drew.drew.sub (subS hgS))) zN (q_load (p := (padd ve 2)) (.inl rfl) (.int .i64 ex.pick) one2 rfl ((hl6 _ (hE2.drew.drew.sub (subS hgS))).ld (i := 2) z223_1) zN ?_)))))
   refine q_idx (v := ve22) ((ex.pick).toNat) u53 tiS174 rfl rfl hx22.rn.isSl oM sD zN (lw_tv 1 rfl ?_)
   refine lw_callE 193 [] [] [(.pointer (some ⟨g,0,none⟩)),(eptr ve22 ((ex.pick).toNat) 5),vo] rfl rfl cf193 zN (IH1 (ex.num).toNat oM dp _ S g pp dp (n) (s9) (c9) (p) (eptr ve22 ((ex.pick).toNat) 5) (((p.getD ((ex.num).toNat) Fn.zero).outs).getD ((ex.pick).toNat) Ex.zero) vo (xs) (fun b hb => (by have := hS b hb; omega : b < w2.heap.size)) hgS hL2_0 (hp.chg (good_rP (good_rPr dp)) (hE2.drew.drew.sub (subS hgS))) oM oM oM (RN.ptr (good_rEx dp) (by decide) Ex.zero (hx22.rn.chg (good_rdS (good_rEx dp)) (hE2.drew.drew.sub (subS hgS))) sD) hfn19 hfn19c (by exact hvp) oM (by have h9 := hvp.wf (ex.num).toNat oM (ex.pick).toNat oM; rw [show ((xs.length :Nat):Int) = (p.getD (ex.num).toNat Fn.zero).params from by omega]; exact h9) (by exact hxs) oM) ?_
   rintro e23 w23 ⟨v23,x23,s23,c23,rfl,hC23,hB23,hr23,hse23,hsb23,hcb23,hrl23⟩
   refine ⟨_,rfl,?_⟩
   replace hC23 := hC23.of_drew
   replace hC23 := hC23.of_drew
   have hzs23:=hC23.size
   have hE23 : Chg [g] w w23 := hE2.trans hC23
   have hF27 := hfn19.run g2 hgS hC23
   have hsn23 := hse23.1
   exact lw_tvn 1 rfl (wp_ret (t_ret (post_ret [6] rfl v23 rfl ⟨v23,x23,s23,c23,rfl,hE23,hB23,hr23,(by first | assumption | exact hks _ oM),oM,oM,z223_0⟩)))
  ·
   refine q_eql false rfl rfl (decide_eq_false hc21) zN (lw_nil (c_cond_f rfl (wp_skip (wp_seq (wp_seq (wp_plain _ [0] rfl ?_))))))
   have hk11 : ex.kind = 11 := by have h9 : ex.kind = 10 ∨ ex.kind = 11 := hkH; omega
   have hwl := wk_loop hwf hk11
   refine lw_tvn 1 rfl (wp_block ?_)
   refine c_loop (S := Nat × Value × List (List Int) × Nat × Int) (fun (⟨i,vk,ks,s8,c8⟩ : Nat × Value × List (List Int) × Nat × Int) => ([(7,vk),(10,(.int .i64 ((i :Nat):Int))),(0,(.pointer (some ⟨g,0,none⟩))),(1,ve),(9,(eptr ve20 ((ex.num).toNat) 3))] : List (Nat × Value))) (fun (⟨i,vk,ks,s8,c8⟩ : Nat × Value × List (List Int) × Nat × Int) (W : World) => Chg [g] w W ∧ BX W.heap g [pp,.int .i64 ((n :Nat):Int),.int .i64 ((s8 :Nat):Int),.int .i64 c8] ∧ i ≤ (ex.count).toNat ∧ RN S (rdL (rdL rI)) W.heap vk ks ∧ CapS vk ∧ ks.length = (p.getD (ex.num).toNat Fn.zero).outs.length ∧ SrE n ks ∧ s8 ≤ 3000 ∧ (0 ≤ c8 ∧ c8 ≤ 9) ∧ RelV (go c9 (lop (fun a t => evs n (evC p n (ex.num).toNat) (p.getD (ex.num).toNat Fn.zero).outs a t) i xs s9)) ks s8 c8) (fun (⟨i,vk,ks,s8,c8⟩ : Nat × Value × List (List Int) × Nat × Int) => (ex.count).toNat - i) (0,vo,xs,s9,c9) ⟨rfl,rfl,rfl,rfl,rfl,trivial⟩ ⟨hE2.drew,hL2_0,oM,(by assumption),(by assumption),oM,(by assumption),oM,oM,(by exact rel_lop0 rfl)⟩ ?_
   clear hL2_0 hE2 hzs2 hln6 hln20
   rintro ⟨i,vk,ks,s8,c8⟩ ρ31 w31 ⟨hE31,hL31_0,hp31_0,hrk,hck,hkl,hks,hp31_5,hp31_6,hrl9⟩
   have hzs31 : w.heap.size ≤ w31.heap.size := hE31.size
   have hq32 := hL31_0.lt
   refine wp_seq (wp_seq (wp_plain _ [0,0,0,0,2,0] rfl (lw_tv 2 rfl (q_nilP (hex.isPtr) rfl zN (q_fldL (p := ve) 3 fd174_3 rfl (hl6 _ (hE31.sub (subS hgS))) zN (q_load (p := (padd ve 3)) (.inr rfl) (.int .i64 ex.count) one2 rfl ((hl6 _ (hE31.sub (subS hgS))).ld (i := 3) z223_1) zN ?_))))))
   by_cases hc33 : ((i :Nat):Int) < ex.count
   ·
    refine q_lss true rfl rfl (decide_eq_true hc33) zN (lw_nil (c_cond_t rfl (wp_skip (wp_seq (wp_block (wp_plain _ [0,0,0,4,0] rfl (lw_tv 3 rfl ?_)))))))
    refine lw_callE 145 [] [] [(.pointer (some ⟨g,0,none⟩)),(eptr ve20 ((ex.num).toNat) 3),vk] rfl rfl cf145 zN (c_outs (ex.num).toNat (fun d9 => IH1 (ex.num).toNat oM d9) _ S g pp dp (n) (s8) (c8) (p) dp (eptr ve20 ((ex.num).toNat) 3) (p.getD ((ex.num).toNat) Fn.zero) vk (ks) (fun b hb => (by have := hS b hb; omega : b < w31.heap.size)) hgS hL31_0 (hp.chg (good_rP (good_rPr dp)) (hE31.sub (subS hgS))) oM oM oM (RN.ptr (good_rFn dp) (by decide) Fn.zero (hx20.chg (good_rdS (good_rFn dp)) (hE31.sub (subS hgS))) sD) hrk hck (by exact hvp) oM (by intro k9 hk9; have h9 := hvp.wf (ex.num).toNat oM k9 hk9; rw [show ((ks.length :Nat):Int) = (p.getD (ex.num).toNat Fn.zero).params from by omega]; exact h9) (by exact hks) (by intro k9 hk9; have := hvp.deep (ex.num).toNat oM k9 hk9; omega) oM) ?_
    rintro e34 w34 ⟨v34,x34,s34,c34,rfl,hC34,hB34,hr34,hse34,hsb34,hcb34,hrl34⟩
    refine ⟨_,rfl,?_⟩
    have hzs34:=hC34.size
    have hE34 : Chg [g] w w34 := hE31.trans hC34
    have hF40 := hrk.run g2 hgS hC34
    have hsn34 := hse34.2.1
    have hsr34 := hse34.2.2
    have hcp34 := hse34.1
    exact lw_tvn 1 rfl (wp_plain _ [0,0,0] rfl (lw_tv 1 rfl (q_add ((i + 1 :Nat):Int) rfl rfl (w64n oM oM) zN (lw_tvn 1 rfl ⟨((i + 1),v34,x34,s34,c34),_,rfl,⟨rfl,rfl,rfl,rfl,rfl,trivial⟩,⟨hE34,hB34,oM,(by assumption),(by assumption),oM,(by assumption),oM,oM,(by exact rel_lop' hrl9 (by assumption))⟩,by first | omega | (dsimp only; omega)⟩))))
   ·
    refine q_lss false rfl rfl (decide_eq_false hc33) zN (lw_nil (c_cond_f rfl (wp_exit (t_exit (t_exit (c_exit_here (wp_seq (wp_plain _ [0,0,0,0,2,0,2,0] rfl (lw_tv 2 rfl (q_nilP (hex.isPtr) rfl zN (q_fldL (p := ve) 2 fd174_2 rfl (hl6 _ (hE31.sub (subS hgS))) zN (q_load (p := (padd ve 2)) (.inr rfl) (.int .i64 ex.pick) one2 rfl ((hl6 _ (hE31.sub (subS hgS))).ld (i := 2) z223_1) zN ?_))))))))))))
    refine q_idx (v := vk) ((ex.pick).toNat) u32 ti27 rfl rfl hrk.slL oM sD zN ?_
    obtain ⟨ue41,hl41,hr41⟩ := RN.getL (w := w31) g1 [] (k := (ex.pick).toNat) hrk sD
    have hln41 := hr41.lenL
    unfold maxLen at hln41
    exact q_load (p := eptr vk ((ex.pick).toNat) 1) (.inr rfl) ue41 one27 rfl (hl41 _ (Chg.refl _ _)) zN (lw_tvn 1 rfl (wp_ret (post_ret [6] rfl ue41 rfl ⟨ue41,ks.getD ((ex.pick).toNat) [],s8,c8,rfl,hE31,hL31_0,hr41,(by first | assumption | exact hks _ oM),oM,oM,z223_0⟩)))
end Go.Proofs.YtnokbaiemimhjaaGreat
namespace Go.Proofs.YtnokbaiemimhjaaGreat
open Go Go.RowKit
set_option linter.unusedVariables false
set_option linter.unusedSimpArgs false
set_option maxHeartbeats 4000000
set_option maxRecDepth 100000
attribute [local irreducible] LW
theorem c_call (F d : Nat) (IH1 : ∀ F',F' < F → ∀ d,SV F' d) (IH2 : ∀ d',d' < d → SV F d') : SC F d := by
 intro w S g pp dp n s0 c0 p ve ex vv env hS hgS hB0 hp hn hs0 hc0 hex henv hqenv hvp hF hwf hse hdp hk
 exact c_spec_l02Run_call w S F g pp dp n s0 c0 p d ve ex vv env hS hgS hB0 hp hn hs0 hc0 hex henv hqenv hvp hF hwf hse hdp hk IH1 IH2
theorem z193_0 {p : Prop} (h : p := by first | exact rel_if0 hc00 hs1 oM oM ‹RelV (go c0 (evE _ _ (ex.kids.getD 0 _) _ _)) _ _ _› oM (by assumption) | exact rel_if1 hc00 hs1 oM oM ‹RelV (go c0 (evE _ _ (ex.kids.getD 0 _) _ _)) _ _ _› oM (by assumption)) : p := h
theorem z193_1 {p : Prop} (h : p := by have := kd_at (l := ex.kids) (k := 0) oM; omega) : p := h
theorem z193_2 {p : Prop} (h : p := by exact wf_at0 hwf oM oM) : p := h
theorem z193_3 {p : Prop} (h : p := by simp [exC, fnC]) : p := h
theorem c_spec_l02Run_expr (w : World) (S : List Nat) (F : Nat) (g : Nat) (pp : Value) (dp n s0 : Nat) (c0 : Int) (p : List Fn) (dex : Nat) (ve : Value) (ex : Ex) (vv : Value) (env : List (List Int)) (hS : ∀ b ∈ S,b < w.heap.size) (hgS : g ∈ S) (hB0 : BX w.heap g [pp,.int .i64 ((n :Nat):Int),.int .i64 ((s0 :Nat):Int),.int .i64 c0]) (hp : RN S (rP (rPr dp)) w.heap pp p) (hn : 1 ≤ n ∧ n ≤ 13) (hs0 : s0 ≤ 3000) (hc0 : 0 ≤ c0 ∧ c0 ≤ 9) (hex : RN S (rP (rEx dex)) w.heap ve ex) (henv : RN S (rdL (rdL rI)) w.heap vv env) (hqenv : CapS vv) (hvp : VPr p) (hF : F ≤ p.length) (hwf : wf p ((F :Nat):Int) ex ((env.length :Nat):Int) = true) (hse : SrE n env) (hdp : env.length + ex.deep ≤ 1000000) (IH1 : ∀ F',F' < F → ∀ d,SV F' d) (IH2 : ∀ d',d' < dex → SV F d') :
  Calls Tryz.prog 193 #[.pointer (some ⟨g,0,none⟩),ve,vv] w (fun e w' => ∃ (v : Value) (x : List Int) (s1 : Nat) (c1 : Int),e = .returned v ∧ Chg [g] w w' ∧ BX w'.heap g [pp,.int .i64 ((n :Nat):Int),.int .i64 ((s1 :Nat):Int),.int .i64 c1] ∧ RN S (rdL rI) w'.heap v x ∧ Ser1 n x ∧ s1 ≤ 3000 ∧ (0 ≤ c1 ∧ c1 ≤ 9) ∧ RelV (go c0 (evE n (evC p n F) ex env s0)) x s1 c1) := by
 refine calls_mk [.pointer (some ⟨g,0,none⟩),ve,vv] 186 Tryz.func193 rfl rfl sM ?_
 have hE0 : Chg [g] w w := Chg.refl [g] w
 have hl_vv := henv.lenL
 unfold maxLen at hl_vv
 have hgl := hB0.lt
 have hdk := deep_kids ex
 refine wp_seq (wp_plain _ [0] rfl (lw_tvn 1 rfl (wp_seq (wp_seq (wp_plain _ [0,0,0,2,0] rfl (lw_tv 1 rfl (q_nil rfl zN (q_fldP (p := (.pointer (some ⟨g,0,none⟩))) (b := g) (o := 0) 3 fd157_3 rfl rfl zN (q_load (p := (padd (.pointer (some ⟨g,0,none⟩)) 3)) (.inr rfl) (.int .i64 c0) one2 rfl (hB0.ldp (i := 3) sM) zN ?_)))))))))
 by_cases hc1 : c0 ≠ ((0 :Nat):Int)
 ·
  refine q_neq true rfl rfl (decide_eq_true hc1) zN (lw_nil (c_cond_t rfl (wp_seq (wp_plain _ [0,0,0,0,2,4,0] rfl (lw_tv 2 rfl (q_nil rfl zN (q_fldP (p := (.pointer (some ⟨g,0,none⟩))) (b := g) (o := 0) 3 fd157_3 rfl rfl zN (q_load (p := (padd (.pointer (some ⟨g,0,none⟩)) 3)) (.inr rfl) (.int .i64 c0) one2 rfl (hB0.ldp (i := 3) sM) zN (lw_callE 221 [] [] [(.pointer (some ⟨g,0,none⟩)),(.int .i64 c0)] rfl rfl cf221 zN (c_spec_l02Run_fail _ S g pp dp (n) (s0) (c0) (p) (c0) (fun b hb => (by have := hS b hb; omega : b < w.heap.size)) hgS hB0 (hp.chg (good_rP (good_rPr dp)) (hE0.sub (subS hgS))) oM oM oM oM oM) ?_)))))))))
  rintro e2 w2 ⟨v2,x2,s2,c2,rfl,hC2,hB2,hr2,hse2,hsb2,hcb2,hrl2⟩
  refine ⟨_,rfl,?_⟩
  have hzs2:=hC2.size
  have hE2 : Chg [g] w w2 := hE0.trans hC2
  have hsn2 := hse2.1
  have hfs := hrl2.1
  have hff := hrl2.2
  exact lw_tvn 1 rfl (wp_ret (t_ret (post_ret [6] rfl v2 rfl ⟨v2,x2,s2,c2,rfl,hE2,hB2,hr2,(by assumption),oM,oM,(by rw [hff,if_neg oM]; exact rel_code oM)⟩)))
 ·
  refine q_neq false rfl rfl (decide_eq_false hc1) zN (lw_nil (c_cond_f rfl (wp_skip (wp_seq (wp_seq (wp_plain _ [0,0,0,2,0] rfl (lw_tv 1 rfl (q_nil rfl zN (q_fldP (p := (.pointer (some ⟨g,0,none⟩))) (b := g) (o := 0) 2 fd157_2 rfl rfl zN (q_load (p := (padd (.pointer (some ⟨g,0,none⟩)) 2)) (.inr rfl) (.int .i64 ((s0 :Nat):Int)) one2 rfl (hB0.ldp (i := 2) sM) zN ?_))))))))))
  by_cases hc6 : ((s0 :Nat):Int) = ((3000 :Nat):Int)
  ·
   refine q_eql true rfl rfl (decide_eq_true hc6) zN (lw_nil (c_cond_t rfl (wp_seq (wp_plain _ [0,4,0] rfl (lw_tv 1 rfl (lw_callE 221 [] [] [(.pointer (some ⟨g,0,none⟩)),(.int .i64 ((7 :Nat):Int))] rfl rfl cf221 zN (c_spec_l02Run_fail _ S g pp dp (n) (s0) (c0) (p) (((7 :Nat):Int)) (fun b hb => (by have := hS b hb; omega : b < w.heap.size)) hgS hB0 (hp.chg (good_rP (good_rPr dp)) (hE0.sub (subS hgS))) oM oM oM oM oM) ?_))))))
   rintro e7 w7 ⟨v7,x7,s7,c7,rfl,hC7,hB7,hr7,hse7,hsb7,hcb7,hrl7⟩
   refine ⟨_,rfl,?_⟩
   have hzs7:=hC7.size
   have hE7 : Chg [g] w w7 := hE0.trans hC7
   have hsn7 := hse7.1
   have hfs := hrl7.1
   have hff := hrl7.2
   exact lw_tvn 1 rfl (wp_ret (t_ret (post_ret [6] rfl v7 rfl ⟨v7,x7,s7,c7,rfl,hE7,hB7,hr7,(by assumption),oM,oM,(by rw [hff,if_pos oM]; exact rel_budget oM oM)⟩)))
  ·
   refine q_eql false rfl rfl (decide_eq_false hc6) zN (lw_nil (c_cond_f rfl (wp_skip (wp_seq (wp_plain _ [0,0,0,2,0,0,0,4] rfl (lw_tv 1 rfl (q_nil rfl zN (q_fldP (p := (.pointer (some ⟨g,0,none⟩))) (b := g) (o := 0) 2 fd157_2 rfl rfl zN (q_load (p := (padd (.pointer (some ⟨g,0,none⟩)) 2)) (.inr rfl) (.int .i64 ((s0 :Nat):Int)) one2 rfl (hB0.ldp (i := 2) sM) zN (q_add ((s0 + 1 :Nat):Int) rfl rfl (w64n oM oM) zN (q_nil rfl zN (q_fldP (p := (.pointer (some ⟨g,0,none⟩))) (b := g) (o := 0) 2 fd157_2 rfl rfl zN (e_setB (k := 2) (w := w) sz2 rfl rfl ⟨rfl,rfl⟩ hB0 sM zN fun w11 hC11 hz11 hB11 => ?_)))))))))))))
   replace hB11 : BX w11.heap g [pp,(.int .i64 ((n :Nat):Int)),(.int .i64 ((s0 + 1 :Nat):Int)),(.int .i64 c0)] := hB11
   have hE11 : Chg [g] w w11 := hE0.trans hC11
   have hzs11:=hC11.size
   refine lw_nil (wp_seq (wp_seq (wp_plain _ [0,0,0,2] rfl ?_)))
   have hc00 : c0 = 0 := by omega
   have hs1 : s0 + 1 ≤ 3000 := by omega
   refine lw_tv 1 rfl (q_nilP (hex.isPtr) rfl zN ?_)
   obtain ⟨cs12,hr12,hl12⟩ := RN.at (good_rEx _) hex
   obtain ⟨dd12,ve12,hd12,rfl,hx12⟩ := RX.of hr12
   have hln12 := hx12.rn.lenle
   unfold maxLen at hln12
   refine q_fldL (p := ve) 0 fd174_0 rfl (hl12 _ (hE11.sub (subS hgS))) zN (q_load (p := (padd ve 0)) (.inr rfl) (.int .i64 ex.kind) one2 rfl ((hl12 _ (hE11.sub (subS hgS))).ld (i := 0) z193_3) zN (lw_nil (wp_block (wp_seq (wp_plain _ [0,0] rfl ?_)))))
   by_cases hc13 : ex.kind = ((1 :Nat):Int)
   ·
    refine q_eql true rfl rfl (decide_eq_true hc13) zN (lw_tvn 1 rfl (c_cond_t rfl (wp_seq (wp_draw _ [0,0,0,1,0,0,0,1,3,0] mixed (by kernel_rfl) ?_))))
    have hwk := wk_num hwf oM
    refine lw_tv 1 rfl (q_nilP (hex.isPtr) rfl zN (q_fldL (p := ve) 1 fd174_1 rfl (hl12 _ (hE11.drew.sub (subS hgS))) zN (q_load (p := (padd ve 1)) (.inl rfl) (.int .i64 ex.num) one2 rfl ((hl12 _ (hE11.drew.sub (subS hgS))).ld (i := 1) z193_3) zN (lw_tv 1 rfl (q_nil rfl zN (q_fldP (p := (.pointer (some ⟨g,0,none⟩))) (b := g) (o := 0) 1 fd157_1 rfl rfl zN (q_load (p := (padd (.pointer (some ⟨g,0,none⟩)) 1)) (.inl rfl) (.int .i64 ((n :Nat):Int)) one3 rfl (hB11.ldp (i := 1) sM) zN ?_)))))))
    refine lw_call 122 [] [] [(.int .i64 ex.num),(.int .i64 ((n :Nat):Int))] rfl rfl cf122 zN (c_spec_l01Const _ _ (n) hx12.rng.num sD oM) ?_
    rintro e14 w14 ⟨v14_0,rfl,hX14,hO14_0⟩
    refine ⟨_,rfl,hX14,?_⟩
    replace hX14 := hX14.of_drew
    have hzs14:=hX14.size
    have hE14 : Chg [g] w w14 := hE11.ext hX14
    have hB11x14 := hB11.ext hX14
    replace hO14_0 := hO14_0.low (B' := w11.heap.size) (Nat.le_refl _)
    exact lw_tvn 1 rfl (wp_ret (b_ret (t_ret (post_ret [6] rfl v14_0 rfl ⟨v14_0,cst n ex.num,s0 + 1,c0,rfl,hE14,hB11x14,(RN.of_fr1 hO14_0 (fun b hb => by have := hS b hb; omega)),(by exact cst_ser (isN_iff.2 oM)),oM,oM,(by exact rel_num hc00 hs1 oM)⟩))))
   ·
    refine q_eql false rfl rfl (decide_eq_false hc13) zN (lw_tvn 1 rfl (c_cond_f rfl (wp_seq (wp_plain _ [0,0] rfl ?_))))
    by_cases hc15 : ex.kind = ((2 :Nat):Int)
    ·
     refine q_eql true rfl rfl (decide_eq_true hc15) zN (lw_tvn 1 rfl (c_cond_t rfl (wp_seq (wp_plain _ [0,0,0,0,2,0,2,0] rfl ?_))))
     have hwk := wk_var hwf oM
     refine lw_tv 2 rfl (q_nilP (hex.isPtr) rfl zN (q_fldL (p := ve) 1 fd174_1 rfl (hl12 _ (hE11.sub (subS hgS))) zN (q_load (p := (padd ve 1)) (.inr rfl) (.int .i64 ex.num) one2 rfl ((hl12 _ (hE11.sub (subS hgS))).ld (i := 1) z193_3) zN (q_idx (v := vv) ((ex.num).toNat) u32 ti27 rfl rfl henv.slL oM sD zN ?_))))
     obtain ⟨ue16,hl16,hr16⟩ := RN.getL (w := w) g1 [] (k := (ex.num).toNat) henv sD
     have hln16 := hr16.lenL
     unfold maxLen at hln16
     exact q_load (p := eptr vv ((ex.num).toNat) 1) (.inr rfl) ue16 one27 rfl (hl16 _ (hE11.sub (subS hgS))) zN (lw_tvn 1 rfl (wp_ret (b_ret (t_ret (post_ret [6] rfl ue16 rfl ⟨ue16,env.getD ((ex.num).toNat) [],s0 + 1,c0,rfl,hE11,hB11,(hr16.chg g1 (hE11.sub (subS hgS))),(by exact hse _ oM),oM,oM,(by exact rel_var hc00 hs1 oM)⟩)))))
    ·
     refine q_eql false rfl rfl (decide_eq_false hc15) zN (lw_tvn 1 rfl (c_cond_f rfl (wp_seq (wp_plain _ [0,0] rfl ?_))))
     by_cases hc17 : ex.kind = ((7 :Nat):Int)
     ·
      refine q_eql true rfl rfl (decide_eq_true hc17) zN (lw_tvn 1 rfl (c_cond_t rfl (wp_seq (wp_plain _ [0,0,0,0,2,0,0,4,3,0] rfl ?_))))
      have hwk := wk_neg hwf oM
      refine lw_tv 2 rfl (q_nilP (hex.isPtr) rfl zN (q_fldL (p := ve) 4 fd174_4 rfl (hl12 _ (hE11.sub (subS hgS))) zN (q_load (p := (padd ve 4)) (.inr rfl) ve12 one53 rfl ((hl12 _ (hE11.sub (subS hgS))).ld (i := 4) z193_3) zN (q_idx (v := ve12) 0 u53 tiS174 rfl rfl hx12.rn.isSl rfl sD zN (lw_tv 1 rfl ?_)))))
      refine lw_callE 193 [] [] [(.pointer (some ⟨g,0,none⟩)),(eptr ve12 0 5),vv] rfl rfl cf193 zN (IH2 dd12 oM _ S g pp dp (n) (s0 + 1) (c0) (p) (eptr ve12 0 5) (ex.kids.getD 0 Ex.zero) vv (env) (fun b hb => (by have := hS b hb; omega : b < w11.heap.size)) hgS hB11 (hp.chg (good_rP (good_rPr dp)) (hE11.sub (subS hgS))) oM oM oM (RN.ptr (good_rEx dd12) (by decide) Ex.zero (hx12.rn.chg (good_rdS (good_rEx dd12)) (hE11.sub (subS hgS))) sD) (henv.chg g2 (hE11.sub (subS hgS))) hqenv (by exact hvp) oM z193_2 (by exact hse) z193_1) ?_
      rintro e18 w18 ⟨v18,x18,s18,c18,rfl,hC18,hB18,hr18,hse18,hsb18,hcb18,hrl18⟩
      refine ⟨_,rfl,?_⟩
      have hzs18:=hC18.size
      have hE18 : Chg [g] w w18 := hE11.trans hC18
      have hsn18 := hse18.1
      refine lw_call 176 [] [] [v18,(.int .i64 ((1000002 :Nat):Int))] rfl rfl cf176 zN (c_spec_l01Scale _ _ _ _ (hr18).rd oM oM) ?_
      rintro e23 w23 ⟨v23_0,rfl,hX23,hO23_0⟩
      refine ⟨_,rfl,hX23,?_⟩
      have hzs23:=hX23.size
      have hE23 : Chg [g] w w23 := hE18.ext hX23
      have hB18x23 := hB18.ext hX23
      have hN24 := hr18.ext g1 hX23
      exact lw_tvn 1 rfl (wp_ret (b_ret (t_ret (post_ret [6] rfl v23_0 rfl ⟨v23_0,scl x18 ((1000002 :Nat):Int),s18,c18,rfl,hE23,hB18x23,(RN.of_fr1 hO23_0 (fun b hb => by have := hS b hb; omega)),(by rw [scl_eq]; exact sclS_ser (by assumption)),oM,oM,(by exact rel_ops hc00 hs1 oM (rel_k1 oM ‹RelV (go c0 (evE _ _ (ex.kids.getD 0 _) _ _)) _ _ _›) (fun h0 => by rw [h0,scl_eq]; exact op_neg oM) (fun _ => rfl))⟩))))
     ·
      refine q_eql false rfl rfl (decide_eq_false hc17) zN (lw_tvn 1 rfl (c_cond_f rfl (wp_seq (wp_plain _ [0,0] rfl ?_))))
      by_cases hc25 : ex.kind = ((8 :Nat):Int)
      ·
       refine q_eql true rfl rfl (decide_eq_true hc25) zN (lw_tvn 1 rfl (c_cond_t rfl (wp_seq (wp_seq (wp_plain _ [0,0,0,0,2,0,0,4,0,2,0] rfl ?_)))))
       have hwk := wk_if hwf oM
       refine lw_tv 2 rfl (q_nilP (hex.isPtr) rfl zN (q_fldL (p := ve) 4 fd174_4 rfl (hl12 _ (hE11.sub (subS hgS))) zN (q_load (p := (padd ve 4)) (.inr rfl) ve12 one53 rfl ((hl12 _ (hE11.sub (subS hgS))).ld (i := 4) z193_3) zN (q_idx (v := ve12) 0 u53 tiS174 rfl rfl hx12.rn.isSl rfl sD zN (lw_tv 1 rfl ?_)))))
       refine lw_callE 193 [] [] [(.pointer (some ⟨g,0,none⟩)),(eptr ve12 0 5),vv] rfl rfl cf193 zN (IH2 dd12 oM _ S g pp dp (n) (s0 + 1) (c0) (p) (eptr ve12 0 5) (ex.kids.getD 0 Ex.zero) vv (env) (fun b hb => (by have := hS b hb; omega : b < w11.heap.size)) hgS hB11 (hp.chg (good_rP (good_rPr dp)) (hE11.sub (subS hgS))) oM oM oM (RN.ptr (good_rEx dd12) (by decide) Ex.zero (hx12.rn.chg (good_rdS (good_rEx dd12)) (hE11.sub (subS hgS))) sD) (henv.chg g2 (hE11.sub (subS hgS))) hqenv (by exact hvp) oM z193_2 (by exact hse) z193_1) ?_
       rintro e26 w26 ⟨v26,x26,s26,c26,rfl,hC26,hB26,hr26,hse26,hsb26,hcb26,hrl26⟩
       refine ⟨_,rfl,?_⟩
       have hzs26:=hC26.size
       have hE26 : Chg [g] w w26 := hE11.trans hC26
       have hsn26 := hse26.1
       refine q_idx (v := v26) 0 u27 ti2 rfl rfl hr26.slL rfl sD zN ?_
       have hg31 := RN.getI (w := w26) (k := 0) hr26 sD
       refine q_load (p := eptr v26 0 1) (.inr rfl) (.int .i64 (x26.getD 0 0)) one2 rfl (hg31.1 _ (Chg.refl _ _)) zN ?_
       by_cases hc32 : x26.getD 0 0 = ((0 :Nat):Int)
       ·
        refine q_eql true rfl rfl (decide_eq_true hc32) zN (lw_nil (c_cond_t rfl (wp_seq (wp_plain _ [0,0,0,0,2,0,0,4,0] rfl (lw_tv 2 rfl (q_nilP (hex.isPtr) rfl zN (q_fldL (p := ve) 4 fd174_4 rfl (hl12 _ (hE26.sub (subS hgS))) zN (q_load (p := (padd ve 4)) (.inr rfl) ve12 one53 rfl ((hl12 _ (hE26.sub (subS hgS))).ld (i := 4) z193_3) zN (q_idx (v := ve12) 1 u53 tiS174 rfl rfl hx12.rn.isSl rfl sD zN ?_)))))))))
        refine lw_tv 1 rfl ?_
        refine lw_callE 193 [] [] [(.pointer (some ⟨g,0,none⟩)),(eptr ve12 1 5),vv] rfl rfl cf193 zN (IH2 dd12 oM _ S g pp dp (n) (s26) (c26) (p) (eptr ve12 1 5) (ex.kids.getD 1 Ex.zero) vv (env) (fun b hb => (by have := hS b hb; omega : b < w26.heap.size)) hgS hB26 (hp.chg (good_rP (good_rPr dp)) (hE26.sub (subS hgS))) oM oM oM (RN.ptr (good_rEx dd12) (by decide) Ex.zero (hx12.rn.chg (good_rdS (good_rEx dd12)) (hE26.sub (subS hgS))) sD) (henv.chg g2 (hE26.sub (subS hgS))) hqenv (by exact hvp) oM z193_2 (by exact hse) (by have := kd_at (l := ex.kids) (k := 1) oM; omega)) ?_
        rintro e33 w33 ⟨v33,x33,s33,c33,rfl,hC33,hB33,hr33,hse33,hsb33,hcb33,hrl33⟩
        refine ⟨_,rfl,?_⟩
        have hzs33:=hC33.size
        have hE33 : Chg [g] w w33 := hE26.trans hC33
        have hF38 := hr26.run g1 hgS hC33
        have hsn33 := hse33.1
        exact lw_tvn 1 rfl (wp_ret (t_ret (b_ret (t_ret (post_ret [6] rfl v33 rfl ⟨v33,x33,s33,c33,rfl,hE33,hB33,hr33,(by assumption),oM,oM,z193_0⟩)))))
       ·
        refine q_eql false rfl rfl (decide_eq_false hc32) zN (lw_nil (c_cond_f rfl (wp_skip (wp_seq (wp_plain _ [0,0,0,0,2,0,0,4,0] rfl (lw_tv 2 rfl (q_nilP (hex.isPtr) rfl zN (q_fldL (p := ve) 4 fd174_4 rfl (hl12 _ (hE26.sub (subS hgS))) zN (q_load (p := (padd ve 4)) (.inr rfl) ve12 one53 rfl ((hl12 _ (hE26.sub (subS hgS))).ld (i := 4) z193_3) zN ?_)))))))))
        refine q_idx (v := ve12) 2 u53 tiS174 rfl rfl hx12.rn.isSl rfl sD zN (lw_tv 1 rfl ?_)
        refine lw_callE 193 [] [] [(.pointer (some ⟨g,0,none⟩)),(eptr ve12 2 5),vv] rfl rfl cf193 zN (IH2 dd12 oM _ S g pp dp (n) (s26) (c26) (p) (eptr ve12 2 5) (ex.kids.getD 2 Ex.zero) vv (env) (fun b hb => (by have := hS b hb; omega : b < w26.heap.size)) hgS hB26 (hp.chg (good_rP (good_rPr dp)) (hE26.sub (subS hgS))) oM oM oM (RN.ptr (good_rEx dd12) (by decide) Ex.zero (hx12.rn.chg (good_rdS (good_rEx dd12)) (hE26.sub (subS hgS))) sD) (henv.chg g2 (hE26.sub (subS hgS))) hqenv (by exact hvp) oM z193_2 (by exact hse) (by have := kd_at (l := ex.kids) (k := 2) oM; omega)) ?_
        rintro e39 w39 ⟨v39,x39,s39,c39,rfl,hC39,hB39,hr39,hse39,hsb39,hcb39,hrl39⟩
        refine ⟨_,rfl,?_⟩
        have hzs39:=hC39.size
        have hE39 : Chg [g] w w39 := hE26.trans hC39
        have hF44 := hr26.run g1 hgS hC39
        have hsn39 := hse39.1
        exact lw_tvn 1 rfl (wp_ret (b_ret (t_ret (post_ret [6] rfl v39 rfl ⟨v39,x39,s39,c39,rfl,hE39,hB39,hr39,(by assumption),oM,oM,z193_0⟩))))
      ·
       refine q_eql false rfl rfl (decide_eq_false hc25) zN (lw_tvn 1 rfl (c_cond_f rfl (wp_seq (wp_plain _ [0,0] rfl ?_))))
       by_cases hc45 : ex.kind = ((9 :Nat):Int)
       ·
        refine q_eql true rfl rfl (decide_eq_true hc45) zN (lw_tvn 1 rfl (c_cond_t rfl (wp_seq (wp_plain _ [0,0,0,0,2,0,0,4,0] rfl ?_))))
        have hwk := wk_let hwf oM
        refine lw_tv 2 rfl (q_nilP (hex.isPtr) rfl zN (q_fldL (p := ve) 4 fd174_4 rfl (hl12 _ (hE11.sub (subS hgS))) zN (q_load (p := (padd ve 4)) (.inr rfl) ve12 one53 rfl ((hl12 _ (hE11.sub (subS hgS))).ld (i := 4) z193_3) zN (q_idx (v := ve12) 0 u53 tiS174 rfl rfl hx12.rn.isSl rfl sD zN (lw_tv 1 rfl ?_)))))
        refine lw_callE 193 [] [] [(.pointer (some ⟨g,0,none⟩)),(eptr ve12 0 5),vv] rfl rfl cf193 zN (IH2 dd12 oM _ S g pp dp (n) (s0 + 1) (c0) (p) (eptr ve12 0 5) (ex.kids.getD 0 Ex.zero) vv (env) (fun b hb => (by have := hS b hb; omega : b < w11.heap.size)) hgS hB11 (hp.chg (good_rP (good_rPr dp)) (hE11.sub (subS hgS))) oM oM oM (RN.ptr (good_rEx dd12) (by decide) Ex.zero (hx12.rn.chg (good_rdS (good_rEx dd12)) (hE11.sub (subS hgS))) sD) (henv.chg g2 (hE11.sub (subS hgS))) hqenv (by exact hvp) oM z193_2 (by exact hse) z193_1) ?_
        rintro e46 w46 ⟨v46,x46,s46,c46,rfl,hC46,hB46,hr46,hse46,hsb46,hcb46,hrl46⟩
        refine ⟨_,rfl,?_⟩
        have hzs46:=hC46.size
        have hE46 : Chg [g] w w46 := hE11.trans hC46
        have hsn46 := hse46.1
        refine lw_tvn 1 rfl (wp_seq (wp_draw _ [0,0,0,0,1,0,0,0,3,4,0] mixed (by kernel_rfl) (lw_tv 2 rfl (q_nilP (hex.isPtr) rfl zN (q_fldL (p := ve) 4 fd174_4 rfl (hl12 _ (hE46.drew.sub (subS hgS))) zN (q_load (p := (padd ve 4)) (.inl rfl) ve12 one53 rfl ((hl12 _ (hE46.drew.sub (subS hgS))).ld (i := 4) z193_3) zN (q_idx (v := ve12) 1 u53 tiS174 rfl rfl hx12.rn.isSl rfl sD zN (lw_tv 2 rfl ?_))))))))
        refine lw_call 222 [] [] [vv,v46] rfl rfl cf222 zN (c_spec_l02Env _ S vv (env) v46 (x46) (fun b hb => (by have := hS b hb; omega : b < w46.heap.size)) (henv.chg g2 (hE46.drew.sub (subS hgS))) hqenv hr46 oM) ?_
        rintro e51 w51 ⟨v51,rfl,hX51,hr51,hcp51⟩
        refine ⟨_,rfl,hX51,?_⟩
        replace hX51 := hX51.of_drew
        have hzs51:=hX51.size
        have hE51 : Chg [g] w w51 := hE46.ext hX51
        have hB46x51 := hB46.ext hX51
        have hN52 := hr46.ext g1 hX51
        refine lw_callE 193 [] [] [(.pointer (some ⟨g,0,none⟩)),(eptr ve12 1 5),v51] rfl rfl cf193 zN (IH2 dd12 oM _ S g pp dp (n) (s46) (c46) (p) (eptr ve12 1 5) (ex.kids.getD 1 Ex.zero) v51 (env ++ [x46]) (fun b hb => (by have := hS b hb; omega : b < w51.heap.size)) hgS hB46x51 (hp.chg (good_rP (good_rPr dp)) (hE51.sub (subS hgS))) oM oM oM (RN.ptr (good_rEx dd12) (by decide) Ex.zero (hx12.rn.chg (good_rdS (good_rEx dd12)) (hE51.sub (subS hgS))) sD) hr51 hcp51 (by exact hvp) oM (by have h9 := wf_at1 hwf oM oM; rw [List.length_append,List.length_singleton]; exact h9) (by exact hse.snoc (by assumption)) (by have := kd_at (l := ex.kids) (k := 1) oM; rw [List.length_append,List.length_singleton]; omega)) ?_
        rintro e53 w53 ⟨v53,x53,s53,c53,rfl,hC53,hB53,hr53,hse53,hsb53,hcb53,hrl53⟩
        refine ⟨_,rfl,?_⟩
        have hzs53:=hC53.size
        have hE53 : Chg [g] w w53 := hE51.trans hC53
        have hF58 := hN52.run g1 hgS hC53
        have hF59 := hr51.run g2 hgS hC53
        have hsn53 := hse53.1
        exact lw_tvn 1 rfl (wp_ret (b_ret (t_ret (post_ret [6] rfl v53 rfl ⟨v53,x53,s53,c53,rfl,hE53,hB53,hr53,(by assumption),oM,oM,(by exact rel_let hc00 hs1 oM oM ‹RelV (go c0 (evE _ _ (ex.kids.getD 0 _) _ _)) _ _ _› (by assumption))⟩))))
       ·
        refine q_eql false rfl rfl (decide_eq_false hc45) zN (lw_tvn 1 rfl (c_cond_f rfl (wp_seq (wp_seq (wp_plain _ [0,0] rfl ?_)))))
        by_cases hc60 : ex.kind = ((10 :Nat):Int)
        ·
         refine q_eql true rfl rfl (decide_eq_true hc60) zN (lw_tvn 1 rfl (c_cond_t rfl (wp_skip (c_cond_t rfl (wp_seq (wp_plain _ [0,0,0,4,0] rfl (lw_tv 3 rfl (lw_callE 223 [] [] [(.pointer (some ⟨g,0,none⟩)),ve,vv] rfl rfl cf223 zN (c_call F dex IH1 IH2 _ S g pp dp (n) (s0 + 1) (c0) (p) ve (ex) vv (env) (fun b hb => (by have := hS b hb; omega : b < w11.heap.size)) hgS hB11 (hp.chg (good_rP (good_rPr dp)) (hE11.sub (subS hgS))) oM oM oM (hex.chg (good_rP (good_rEx dex)) (hE11.sub (subS hgS))) (henv.chg g2 (hE11.sub (subS hgS))) hqenv (by exact hvp) oM (by exact hwf) (by exact hse) oM oM) ?_))))))))
         rintro e61 w61 ⟨v61,x61,s61,c61,rfl,hC61,hB61,hr61,hse61,hsb61,hcb61,hrl61⟩
         refine ⟨_,rfl,?_⟩
         have hzs61:=hC61.size
         have hE61 : Chg [g] w w61 := hE11.trans hC61
         have hsn61 := hse61.1
         exact lw_tvn 1 rfl (wp_ret (b_ret (t_ret (post_ret [6] rfl v61 rfl ⟨v61,x61,s61,c61,rfl,hE61,hB61,hr61,(by assumption),oM,oM,(by exact rel_callV hc00 hs1 oM (by assumption))⟩))))
        ·
         refine q_eql false rfl rfl (decide_eq_false hc60) zN (lw_tvn 1 rfl (c_cond_f rfl (wp_plain _ [0,0] rfl ?_)))
         by_cases hc66 : ex.kind = ((11 :Nat):Int)
         ·
          refine q_eql true rfl rfl (decide_eq_true hc66) zN (lw_tvn 1 rfl (c_cond_t rfl (wp_seq (wp_plain _ [0,0,0,4,0] rfl (lw_tv 3 rfl (lw_callE 223 [] [] [(.pointer (some ⟨g,0,none⟩)),ve,vv] rfl rfl cf223 zN (c_call F dex IH1 IH2 _ S g pp dp (n) (s0 + 1) (c0) (p) ve (ex) vv (env) (fun b hb => (by have := hS b hb; omega : b < w11.heap.size)) hgS hB11 (hp.chg (good_rP (good_rPr dp)) (hE11.sub (subS hgS))) oM oM oM (hex.chg (good_rP (good_rEx dex)) (hE11.sub (subS hgS))) (henv.chg g2 (hE11.sub (subS hgS))) hqenv (by exact hvp) oM (by exact hwf) (by exact hse) oM oM) ?_))))))
          rintro e67 w67 ⟨v67,x67,s67,c67,rfl,hC67,hB67,hr67,hse67,hsb67,hcb67,hrl67⟩
          refine ⟨_,rfl,?_⟩
          have hzs67:=hC67.size
          have hE67 : Chg [g] w w67 := hE11.trans hC67
          have hsn67 := hse67.1
          exact lw_tvn 1 rfl (wp_ret (b_ret (t_ret (post_ret [6] rfl v67 rfl ⟨v67,x67,s67,c67,rfl,hE67,hB67,hr67,(by assumption),oM,oM,(by exact rel_callV hc00 hs1 oM (by assumption))⟩))))
         ·
          refine q_eql false rfl rfl (decide_eq_false hc66) zN (lw_tvn 1 rfl (c_cond_f rfl (wp_skip (wp_seq (wp_plain _ [0,0,0,0,2,0,0,4,0] rfl ?_)))))
          have hkk : ex.kind = 3 ∨ ex.kind = 4 ∨ ex.kind = 5 ∨ ex.kind = 6 := wk_bin hwf oM
          have hk2 : ex.kids.length = 2 := wk_op2 hwf hkk
          have hd0 := kd_at (l := ex.kids) (k := 0) oM
          have hd1 := kd_at (l := ex.kids) (k := 1) oM
          refine lw_tv 2 rfl (q_nilP (hex.isPtr) rfl zN (q_fldL (p := ve) 4 fd174_4 rfl (hl12 _ (hE11.sub (subS hgS))) zN (q_load (p := (padd ve 4)) (.inr rfl) ve12 one53 rfl ((hl12 _ (hE11.sub (subS hgS))).ld (i := 4) z193_3) zN (q_idx (v := ve12) 0 u53 tiS174 rfl rfl hx12.rn.isSl rfl sD zN (lw_tv 1 rfl ?_)))))
          refine lw_callE 193 [] [] [(.pointer (some ⟨g,0,none⟩)),(eptr ve12 0 5),vv] rfl rfl cf193 zN (IH2 dd12 oM _ S g pp dp (n) (s0 + 1) (c0) (p) (eptr ve12 0 5) (ex.kids.getD 0 Ex.zero) vv (env) (fun b hb => (by have := hS b hb; omega : b < w11.heap.size)) hgS hB11 (hp.chg (good_rP (good_rPr dp)) (hE11.sub (subS hgS))) oM oM oM (RN.ptr (good_rEx dd12) (by decide) Ex.zero (hx12.rn.chg (good_rdS (good_rEx dd12)) (hE11.sub (subS hgS))) sD) (henv.chg g2 (hE11.sub (subS hgS))) hqenv (by exact hvp) oM z193_2 (by exact hse) z193_1) ?_
          rintro e72 w72 ⟨v72,x72,s72,c72,rfl,hC72,hB72,hr72,hse72,hsb72,hcb72,hrl72⟩
          refine ⟨_,rfl,?_⟩
          have hzs72:=hC72.size
          have hE72 : Chg [g] w w72 := hE11.trans hC72
          have hsn72 := hse72.1
          have hra := hrl72
          have ha1 := hse72
          refine lw_tvn 1 rfl (wp_seq (wp_plain _ [0,0,0,0,2,0,0,4,0] rfl (lw_tv 2 rfl (q_nilP (hex.isPtr) rfl zN (q_fldL (p := ve) 4 fd174_4 rfl (hl12 _ (hE72.sub (subS hgS))) zN (q_load (p := (padd ve 4)) (.inr rfl) ve12 one53 rfl ((hl12 _ (hE72.sub (subS hgS))).ld (i := 4) z193_3) zN (q_idx (v := ve12) 1 u53 tiS174 rfl rfl hx12.rn.isSl rfl sD zN (lw_tv 1 rfl ?_))))))))
          refine lw_callE 193 [] [] [(.pointer (some ⟨g,0,none⟩)),(eptr ve12 1 5),vv] rfl rfl cf193 zN (IH2 dd12 oM _ S g pp dp (n) (s72) (c72) (p) (eptr ve12 1 5) (ex.kids.getD 1 Ex.zero) vv (env) (fun b hb => (by have := hS b hb; omega : b < w72.heap.size)) hgS hB72 (hp.chg (good_rP (good_rPr dp)) (hE72.sub (subS hgS))) oM oM oM (RN.ptr (good_rEx dd12) (by decide) Ex.zero (hx12.rn.chg (good_rdS (good_rEx dd12)) (hE72.sub (subS hgS))) sD) (henv.chg g2 (hE72.sub (subS hgS))) hqenv (by exact hvp) oM z193_2 (by exact hse) (by have := kd_at (l := ex.kids) (k := 1) oM; omega)) ?_
          rintro e77 w77 ⟨v77,x77,s77,c77,rfl,hC77,hB77,hr77,hse77,hsb77,hcb77,hrl77⟩
          refine ⟨_,rfl,?_⟩
          have hzs77:=hC77.size
          have hE77 : Chg [g] w w77 := hE72.trans hC77
          have hF82 := hr72.run g1 hgS hC77
          have hsn77 := hse77.1
          have hrb := hrl77
          have hb1 := hse77
          have hlb := hsn77
          have hzz : x77.getD 0 0 = 0 ∨ ¬ x77.getD 0 0 = 0 := Decidable.em _
          refine lw_tvn 1 rfl (wp_seq (wp_block (wp_seq (wp_plain _ [0,0,0,2,0,0] rfl (lw_tv 1 rfl (q_nilP (hex.isPtr) rfl zN (q_fldL (p := ve) 0 fd174_0 rfl (hl12 _ (hE77.sub (subS hgS))) zN (q_load (p := (padd ve 0)) (.inr rfl) (.int .i64 ex.kind) one2 rfl ((hl12 _ (hE77.sub (subS hgS))).ld (i := 0) z193_3) zN ?_))))))))
          by_cases hc83 : ex.kind = ((3 :Nat):Int)
          ·
           refine q_eql true rfl rfl (decide_eq_true hc83) zN (lw_tvn 1 rfl (c_cond_t rfl (wp_seq (wp_plain _ [0,0,3,0] rfl (lw_tv 2 rfl (lw_call 224 [] [] [v72,v77] rfl rfl cf224 zN (c_spec_l01Add _ _ _ _ _ (hF82).rd (hr77).rd oM oM) ?_))))))
           rintro e84 w84 ⟨v84_0,rfl,hX84,hO84_0⟩
           refine ⟨_,rfl,hX84,?_⟩
           have hzs84:=hX84.size
           have hE84 : Chg [g] w w84 := hE77.ext hX84
           have hB77x84 := hB77.ext hX84
           have hN85 := hF82.ext g1 hX84
           have hN86 := hr77.ext g1 hX84
           exact lw_tvn 1 rfl (wp_ret (b_ret (t_ret (post_ret [6] rfl v84_0 rfl ⟨v84_0,addS x72 x77,s77,c77,rfl,hE84,hB77x84,(RN.of_fr1 hO84_0 (fun b hb => by have := hS b hb; omega)),(by exact addS_ser ha1),oM,oM,(by exact rel_ops hc00 hs1 oM (rel_k2 oM hra hrb) (fun h0 => by rw [h0]; exact op_add oM) (fun _ => rfl))⟩))))
          ·
           refine q_eql false rfl rfl (decide_eq_false hc83) zN (lw_tvn 1 rfl (c_cond_f rfl (wp_seq (wp_plain _ [0,0,0,2,0,0] rfl (lw_tv 1 rfl (q_nilP (hex.isPtr) rfl zN (q_fldL (p := ve) 0 fd174_0 rfl (hl12 _ (hE77.sub (subS hgS))) zN (q_load (p := (padd ve 0)) (.inr rfl) (.int .i64 ex.kind) one2 rfl ((hl12 _ (hE77.sub (subS hgS))).ld (i := 0) z193_3) zN ?_))))))))
           by_cases hc87 : ex.kind = ((4 :Nat):Int)
           ·
            refine q_eql true rfl rfl (decide_eq_true hc87) zN (lw_tvn 1 rfl (c_cond_t rfl (wp_seq (wp_plain _ [0,0,3,0] rfl (lw_tv 2 rfl (lw_call 225 [] [] [v72,v77] rfl rfl cf225 zN (c_spec_l01Sub _ _ _ _ _ (hF82).rd (hr77).rd oM oM oM) ?_))))))
            rintro e88 w88 ⟨v88_0,rfl,hX88,hO88_0⟩
            refine ⟨_,rfl,hX88,?_⟩
            have hzs88:=hX88.size
            have hE88 : Chg [g] w w88 := hE77.ext hX88
            have hB77x88 := hB77.ext hX88
            have hN89 := hF82.ext g1 hX88
            have hN90 := hr77.ext g1 hX88
            exact lw_tvn 1 rfl (wp_ret (b_ret (t_ret (post_ret [6] rfl v88_0 rfl ⟨v88_0,redS x72 x77,s77,c77,rfl,hE88,hB77x88,(RN.of_fr1 hO88_0 (fun b hb => by have := hS b hb; omega)),(by exact redS_ser ha1),oM,oM,(by exact rel_ops hc00 hs1 oM (rel_k2 oM hra hrb) (fun h0 => by rw [h0]; exact op_sub oM) (fun _ => rfl))⟩))))
           ·
            refine q_eql false rfl rfl (decide_eq_false hc87) zN (lw_tvn 1 rfl (c_cond_f rfl (wp_seq (wp_plain _ [0,0,0,2,0,0] rfl (lw_tv 1 rfl (q_nilP (hex.isPtr) rfl zN (q_fldL (p := ve) 0 fd174_0 rfl (hl12 _ (hE77.sub (subS hgS))) zN (q_load (p := (padd ve 0)) (.inr rfl) (.int .i64 ex.kind) one2 rfl ((hl12 _ (hE77.sub (subS hgS))).ld (i := 0) z193_3) zN ?_))))))))
            by_cases hc91 : ex.kind = ((5 :Nat):Int)
            ·
             refine q_eql true rfl rfl (decide_eq_true hc91) zN (lw_tvn 1 rfl (c_cond_t rfl (wp_seq (wp_plain _ [0,0,3,0] rfl (lw_tv 2 rfl (lw_call 226 [] [] [v72,v77] rfl rfl cf226 zN (c_spec_l01Mul _ _ _ _ _ (hF82).rd (hr77).rd oM oM) ?_))))))
             rintro e92 w92 ⟨v92_0,rfl,hX92,hO92_0⟩
             refine ⟨_,rfl,hX92,?_⟩
             have hzs92:=hX92.size
             have hE92 : Chg [g] w w92 := hE77.ext hX92
             have hB77x92 := hB77.ext hX92
             have hN93 := hF82.ext g1 hX92
             have hN94 := hr77.ext g1 hX92
             exact lw_tvn 1 rfl (wp_ret (b_ret (t_ret (post_ret [6] rfl v92_0 rfl ⟨v92_0,proS x72 x77,s77,c77,rfl,hE92,hB77x92,(RN.of_fr1 hO92_0 (fun b hb => by have := hS b hb; omega)),(by exact proS_ser ha1),oM,oM,(by exact rel_ops hc00 hs1 oM (rel_k2 oM hra hrb) (fun h0 => by rw [h0]; exact op_mul oM) (fun _ => rfl))⟩))))
            ·
             refine q_eql false rfl rfl (decide_eq_false hc91) zN (lw_tvn 1 rfl (c_cond_f rfl (wp_seq (wp_plain _ [0,0,0,2,0,0,0,0,2,0,0,0] rfl (lw_tv 1 rfl (q_nil rfl zN (q_fldP (p := (.pointer (some ⟨g,0,none⟩))) (b := g) (o := 0) 3 fd157_3 rfl rfl zN (q_load (p := (padd (.pointer (some ⟨g,0,none⟩)) 3)) (.inr rfl) (.int .i64 c77) one2 rfl (hB77.ldp (i := 3) sM) zN ?_))))))))
             by_cases hc95 : c77 ≠ ((0 :Nat):Int)
             ·
              refine q_neq true rfl rfl (decide_eq_true hc95) zN (lw_tvn 7 rfl (c_cond_t rfl (wp_seq (wp_plain _ [0,4,0] rfl (lw_tv 1 rfl (lw_callE 221 [] [] [(.pointer (some ⟨g,0,none⟩)),(.int .i64 ((6 :Nat):Int))] rfl rfl cf221 zN (c_spec_l02Run_fail _ S g pp dp (n) (s77) (c77) (p) (((6 :Nat):Int)) (fun b hb => (by have := hS b hb; omega : b < w77.heap.size)) hgS hB77 (hp.chg (good_rP (good_rPr dp)) (hE77.sub (subS hgS))) oM oM oM oM oM) ?_))))))
              rintro e96 w96 ⟨v96,x96,s96,c96,rfl,hC96,hB96,hr96,hse96,hsb96,hcb96,hrl96⟩
              refine ⟨_,rfl,?_⟩
              have hzs96:=hC96.size
              have hE96 : Chg [g] w w96 := hE77.trans hC96
              have hF101 := hF82.run g1 hgS hC96
              have hF102 := hr77.run g1 hgS hC96
              have hsn96 := hse96.1
              have hfs := hrl96.1
              have hff := hrl96.2
              exact lw_tvn 1 rfl (wp_ret (b_ret (t_ret (post_ret [6] rfl v96 rfl ⟨v96,x96,s96,c96,rfl,hE96,hB96,hr96,(by assumption),oM,oM,(by rw [hfs]; exact rel_ops hc00 hs1 oM (rel_k2 oM hra hrb) (fun h0 => absurd h0 oM) (fun h0 => by rw [hff,if_neg h0]))⟩))))
             ·
              refine q_neq false rfl rfl (decide_eq_false hc95) zN (lw_tv 2 rfl (q_idx (v := v77) 0 u27 ti2 rfl rfl hr77.slL rfl (by rw [hlb]; omega) (zS (e := 175) rfl rfl rfl) ?_))
              have hg103 := RN.getI (w := w77) (k := 0) hr77 (by rw [hlb]; omega)
              refine q_load (p := eptr v77 0 1) (.inr rfl) (.int .i64 (x77.getD 0 0)) one2 rfl (hg103.1 _ (Chg.refl _ _)) (zS (e := 175) rfl rfl rfl) ?_
              by_cases hc104 : x77.getD 0 0 = ((0 :Nat):Int)
              ·
               refine q_eql true rfl rfl (decide_eq_true hc104) (zS (e := 175) rfl rfl rfl) (lw_tvn 2 rfl (c_cond_t rfl (wp_seq (wp_plain _ [0,4,0] rfl (lw_tv 1 rfl (lw_callE 221 [] [] [(.pointer (some ⟨g,0,none⟩)),(.int .i64 ((6 :Nat):Int))] rfl rfl cf221 zN (c_spec_l02Run_fail _ S g pp dp (n) (s77) (c77) (p) (((6 :Nat):Int)) (fun b hb => (by have := hS b hb; omega : b < w77.heap.size)) hgS hB77 (hp.chg (good_rP (good_rPr dp)) (hE77.sub (subS hgS))) oM oM oM oM oM) ?_))))))
               rintro e105 w105 ⟨v105,x105,s105,c105,rfl,hC105,hB105,hr105,hse105,hsb105,hcb105,hrl105⟩
               refine ⟨_,rfl,?_⟩
               have hzs105:=hC105.size
               have hE105 : Chg [g] w w105 := hE77.trans hC105
               have hF110 := hF82.run g1 hgS hC105
               have hF111 := hr77.run g1 hgS hC105
               have hsn105 := hse105.1
               have hfs := hrl105.1
               have hff := hrl105.2
               exact lw_tvn 1 rfl (wp_ret (b_ret (t_ret (post_ret [6] rfl v105 rfl ⟨v105,x105,s105,c105,rfl,hE105,hB105,hr105,(by assumption),oM,oM,(by rw [hfs]; exact rel_ops hc00 hs1 oM (rel_k2 oM hra hrb) (fun h0 => by rw [hff,if_pos h0]; exact op_div0 (xs := [_,_]) oM (hzz.resolve_right oM)) (fun h0 => by rw [hff,if_neg h0]))⟩))))
              ·
               refine q_eql false rfl rfl (decide_eq_false hc104) (zS (e := 175) rfl rfl rfl) (lw_tvn 2 rfl (c_cond_f rfl (wp_skip (wp_seq (wp_plain _ [0,0,3,0] rfl (lw_tv 2 rfl (lw_call 227 [] [] [v72,v77] rfl rfl cf227 zN (c_spec_l01Div _ _ _ _ _ (hF82).rd (hr77).rd oM oM oM (by exact ha1.2)) ?_)))))))
               rintro e112 w112 ⟨v112_0,rfl,hX112,hO112_0⟩
               refine ⟨_,rfl,hX112,?_⟩
               have hzs112:=hX112.size
               have hE112 : Chg [g] w w112 := hE77.ext hX112
               have hB77x112 := hB77.ext hX112
               have hN113 := hF82.ext g1 hX112
               have hN114 := hr77.ext g1 hX112
               exact lw_tvn 1 rfl (wp_ret (post_ret [6] rfl v112_0 rfl ⟨v112_0,quoS x72 x77,s77,c77,rfl,hE112,hB77x112,(RN.of_fr1 hO112_0 (fun b hb => by have := hS b hb; omega)),(by exact quoS_ser ha1),oM,oM,(by exact rel_ops hc00 hs1 oM (rel_k2 oM hra hrb) (fun h0 => by rw [h0]; exact op_div (xs := [_,_]) oM (hzz.resolve_left oM)) (fun _ => rfl))⟩))
end Go.Proofs.YtnokbaiemimhjaaGreat
namespace Go.Proofs.YtnokbaiemimhjaaGreat
open Go Go.RowKit
set_option linter.unusedVariables false
set_option linter.unusedSimpArgs false
set_option maxHeartbeats 4000000
set_option maxRecDepth 100000
attribute [local irreducible] LW
theorem s_value : ∀ F d, SV F d := by
  intro F
  induction F using Nat.strongRecOn with
  | _ F ihF =>
    intro d
    induction d using Nat.strongRecOn with
    | _ d ihd =>
      intro w S g pp dp n s0 c0 p ve ex vv env hS hgS hB0 hp hn hs0 hc0 hex henv hqenv hvp hF hwf hse hdp
      exact c_spec_l02Run_expr w S F g pp dp n s0 c0 p d ve ex vv env hS hgS hB0 hp hn hs0 hc0 hex henv hqenv hvp hF hwf hse hdp ihF ihd
theorem s_outs (F : Nat) : SO F := c_outs F fun d => s_value F d
theorem z68_0 {p : Prop} (h : p := by unfold maxLen; first | omega | assumption | (simp only [List.length_nil, List.length_cons, List.length_append, List.length_set, List.length_replicate]; omega) | (simp [List.length_nil, List.length_cons, List.length_append, List.length_set, List.length_replicate]; done) | (simp [List.length_nil, List.length_cons, List.length_append, List.length_set, List.length_replicate]; omega)) : p := h
theorem c_spec_l02Eval (w : World) (dp : Nat) (vp : Value) (p : List Fn) (f : Int) (va : Value) (a : List Int) (hp : RN [] (rP (rPr dp)) w.heap vp p) (_hf : -9223372036854775808 ≤ f ∧ f ≤ 9223372036854775807) (ha : Rd (rdL rI) w.heap va a) (hvp : VPr p) (hf : 0 ≤ f ∧ f < ((p.length :Nat):Int)) (hl : ((a.length :Nat):Int) = (p.getD f.toNat Fn.zero).params) (hna : allN a = true) :
  Calls Tryz.prog 68 #[vp,.int .i64 f,va] w (fun e w' => ∃ v0 : Value,e = .returned (.tuple #[v0,.int .i64 ((evT p 1 f.toNat (sing a) :Nat):Int),.int .i64 (nxC p f.toNat a)]) ∧ Ext w w' ∧ Fr (owL rI 2) w.heap.size w'.heap.size w'.heap v0 (nxR p f.toNat a) ∧ NxP p f.toNat a ∧ evT p 1 f.toNat (sing a) ≤ 3000) := by
 refine calls_mk [vp,.int .i64 f,va] 73 Tryz.func68 rfl rfl sM ?_
 have hE0 : Ext w w := Ext.refl w
 have hl_va := ha.lenle
 have hpr := hvp.par f.toNat oM
 have hou := hvp.outs f.toNat oM
 refine wp_seq (wp_plain _ [0,0,0] rfl (lw_tvn 3 rfl (wp_seq (wp_plain _ [0,0,3,0] rfl (lw_tv 1 rfl ?_)))))
 have hbd1 : ∀ (vp : Value) (hp1_0 : ∃ b o,vp = .pointer (some ⟨b,o,none⟩)) (wq : World),(Instr.build 157 #[(0,vp),(1,(.int .i64 ((1 :Nat):Int)))]).run Tryz.prog wq = .ok (.agg #[vp,(.int .i64 ((1 :Nat):Int)),(.int .i64 0),(.int .i64 0)]) wq := by intro vp hp1_0 wq; obtain ⟨b0,o0,rfl⟩ := hp1_0;kernel_rfl
 refine q_build (ps := #[(0,vp),(1,(.int .i64 ((1 :Nat):Int)))]) (.agg #[vp,(.int .i64 ((1 :Nat):Int)),(.int .i64 0),(.int .i64 0)]) (by simp only [List.map_toArray,List.map_cons,List.map_nil]; rfl) (fun wq => hbd1 vp hp.isPtr wq) zN (r_boxA (cs := #[vp,(.int .i64 ((1 :Nat):Int)),(.int .i64 0),(.int .i64 0)]) rfl zN fun w2 hX2 hz2 hB2 => ?_)
 have hzs2:=hX2.size
 have hE2:=hE0.trans hX2
 replace hB2 : BX w2.heap w.heap.size [vp,(.int .i64 ((1 :Nat):Int)),(.int .i64 0),(.int .i64 0)] := hB2
 refine lw_tvn 1 rfl (wp_seq (wp_plain _ [3,0] rfl (r_nil (owL rI 2) o1 u32 ti27 zN fun v3 w3 hX3 hz3 hO3 => ?_)))
 have hzs3:=hX3.size
 have hE3:=hE2.trans hX3
 have hB2x3 := hB2.ext hX3
 refine lw_tvn 1 rfl (wp_seq (wp_seq (wp_plain _ [0] rfl (lw_tvn 1 rfl (wp_block ?_)))))
 refine c_loop (S := Nat × Value) (fun (⟨k,vo⟩ : Nat × Value) => ([(10,vo),(11,(.int .i64 ((k :Nat):Int))),(0,vp),(1,(.int .i64 f)),(2,va),(9,(.pointer (some ⟨w.heap.size,0,none⟩)))] : List (Nat × Value))) (fun (⟨k,vo⟩ : Nat × Value) (W : World) => Ext w W ∧ Fr (owL (owL rI 2) 27) w2.heap.size W.heap.size W.heap vo ((a.take k).map (fun x => [x])) ∧ BX W.heap w.heap.size [vp,(.int .i64 ((1 :Nat):Int)),(.int .i64 0),(.int .i64 0)] ∧ k ≤ a.length ∧ w.heap.size < w2.heap.size ∧ w2.heap.size ≤ W.heap.size) (fun (⟨k,vo⟩ : Nat × Value) => a.length - k) (0,v3) ⟨rfl,rfl,rfl,rfl,rfl,rfl,trivial⟩ ⟨hE3,hO3.up o2,hB2x3,sD,oM,oM⟩ ?_
 clear hE0 hz2 hX2 hO3 hz3 hX3 hzs3 hE3
 rintro ⟨k,vo⟩ ρ5 w5 ⟨hE5,hL5_0,hL5_1,hp5_0,hkg4,hkB6⟩
 have hzs5 : w.heap.size ≤ w5.heap.size := hE5.size
 have hq7 := hL5_1.lt
 refine wp_seq (wp_seq (wp_plain _ [0,0,0,0] rfl (lw_tv 2 rfl (q_len (v := va) u27 rfl ha.isSl zN ?_))))
 by_cases hc8 : ((k :Nat):Int) < ((a.length :Nat):Int)
 ·
  refine q_lss true rfl rfl (decide_eq_true hc8) zN (lw_nil (c_cond_t rfl (wp_skip (wp_seq (wp_block (wp_plain _ [0,0,0,0,2,3,3,4,0] rfl (lw_tv 3 rfl (q_idx (v := va) k u27 ti2 rfl rfl ha.isSl rfl sD zN ?_))))))))
  refine q_load (p := eptr va k 1) (.inr rfl) (.int .i64 (a.getD k 0)) one2 rfl (ldH_ext hE5 (ha.getI sD).1) zN ?_
  refine r_one (u := (.int .i64 (a.getD k 0))) (B := w5.heap.size) good_rI u27 ti2 rfl rfl (frI w5.heap.size w5.heap.size _ _ (ha.getI sD).2) (Nat.le_refl _) zN fun v9 w9 hX9 hz9 hO9 => ?_
  have hzs9:=hX9.size
  have hE9:=hE5.trans hX9
  have hL5_0x9 := hL5_0.ext (o2) hX9
  have hL5_1x9 := hL5_1.ext hX9
  refine r_one (u := v9) (B := w5.heap.size) o1 u32 ti27 rfl rfl hO9 (by first | exact Nat.le_refl _ | omega) zN fun v10 w10 hX10 hz10 hO10 => ?_
  have hzs10:=hX10.size
  have hE10:=hE9.trans hX10
  have hL5_0x10 := hL5_0x9.ext (o2) hX10
  have hL5_1x10 := hL5_1x9.ext hX10
  refine e_appF o1 (v := vo) (a := v10) u32 ti27 rfl rfl rfl hL5_0x10 oM hO10 oM oM sD z68_0 zN fun v11 w11 F11 hC11 hF11 hO11 => ?_
  have hE11 : Ext w w11 := hC11.below hE10 (fun c hc => Nat.le_trans hE2.size (hF11 c hc).1) hE10.size
  have hzs11:=hC11.size
  have hF12 := hL5_1x10.chg hC11 (fun hm => by have := hF11 _ hm; omega)
  refine lw_tvn 1 rfl (wp_plain _ [0,0,0] rfl (lw_tv 1 rfl (q_add ((k + 1 :Nat):Int) rfl rfl (w64n oM sD) zN (lw_tvn 1 rfl ?_))))
  exact ⟨((k + 1),v11),_,rfl,⟨rfl,rfl,rfl,rfl,rfl,rfl,trivial⟩,⟨hE11,(by rw [map_snoc 0 oM]; exact hO11.up o2),hF12,sD,oM,oM⟩,by first | omega | (dsimp only; omega)⟩
 ·
  refine q_lss false rfl rfl (decide_eq_false hc8) zN (lw_nil (c_cond_f rfl (wp_exit (t_exit (t_exit (c_exit_here (wp_seq (wp_plain _ [0,0,0,0,2,0,0,0,4,0] rfl ?_))))))))
  have henv : (a.take k).map (fun x => [x]) = sing a := by rw [List.take_of_length_le oM]; rfl
  have hle : ((a.take k).map (fun x => [x])).length = a.length := by rw [henv]; unfold sing; rw [List.length_map]
  refine lw_tv 2 rfl (q_nilP (hp.isPtr) rfl zN ?_)
  obtain ⟨cs13,hr13,hl13⟩ := RN.at (good_rPr _) hp
  obtain ⟨ve13,rfl,hx13⟩ := RPr.of hr13
  have hln13 := hx13.lenle
  unfold maxLen at hln13
  refine q_fldL (p := vp) 0 fd26_0 rfl (hl13 _ (Chg.of_ext [] hE5)) zN (q_load (p := (padd vp 0)) (.inr rfl) ve13 one24 rfl ((hl13 _ (Chg.of_ext [] hE5)).ld (i := 0) (by simp [exC,fnC])) zN (lw_tv 1 rfl (q_idx (v := ve13) ((f).toNat) u24 tiS55 rfl rfl hx13.isSl oM sD zN (lw_tv 1 rfl ?_))))
  refine lw_callE 145 [] [] [(.pointer (some ⟨w.heap.size,0,none⟩)),(eptr ve13 ((f).toNat) 3),vo] rfl rfl cf145 zN (s_outs f.toNat _ [w.heap.size] w.heap.size vp dp (1) (0) (0) (p) dp (eptr ve13 ((f).toNat) 3) (p.getD ((f).toNat) Fn.zero) vo ((a.take k).map (fun x => [x])) (fun b hb => (by have := List.mem_singleton.1 hb; omega : b < w5.heap.size)) (List.mem_singleton.2 rfl) hL5_1 ((hp.add (F := [w.heap.size]) (good_rP (good_rPr dp)) (fun b hb => by have := List.mem_singleton.1 hb; omega)).ext (good_rP (good_rPr dp)) hE5) oM oM oM (RN.ptr (good_rFn dp) (by decide) Fn.zero ((hx13.add (F := [w.heap.size]) (good_rdS (good_rFn dp)) (fun b hb => by have := List.mem_singleton.1 hb; omega)).ext (good_rdS (good_rFn dp)) hE5) sD) (RN.of_fr2 hL5_0 (fun b hb => by have := List.mem_singleton.1 hb; omega)) hL5_0.cap (by exact hvp) oM (by intro k9 hk9; have h9 := hvp.wf f.toNat oM k9 hk9; rw [hle]; rw [hl]; exact h9) (by rw [henv]; exact sing_ser hna) (by intro k9 hk9; have := hvp.deep f.toNat oM k9 hk9; omega) oM) ?_
  rintro e14 w14 ⟨v14,x14,s14,c14,rfl,hC14,hB14,hr14,hse14,hsb14,hcb14,hrl14⟩
  refine ⟨_,rfl,?_⟩
  have hzs14:=hC14.size
  have hE14 : Ext w w14 := hC14.below hE5 (fun b hb => by have : b = w.heap.size := (by simpa using hb); omega) hE5.size
  have hF17 := hL5_0.chg (o2) hC14 (fun c hc => by have := List.mem_singleton.1 hc; omega)
  have hsn14 := hse14.2.1
  have hsr14 := hse14.2.2
  have hcp14 := hse14.1
  have hrt14 := hr14.rt g2
  have hRL := hrl14
  rw [henv] at hRL
  have hCB := hcb14
  have hEP := EvP.mk' hRL hCB hsb14 hsn14 hsr14
  have hNP := NxP.mk' hEP
  have hST := hEP.steps
  have hXS := hsr14
  have hXL := hsn14
  refine lw_tvn 1 rfl (wp_seq (wp_seq (wp_plain _ [0,0,0,2,0] rfl (lw_tv 1 rfl (q_nil rfl zN (q_fldP (p := (.pointer (some ⟨w.heap.size,0,none⟩))) (b := w.heap.size) (o := 0) 3 fd157_3 rfl rfl zN (q_load (p := (padd (.pointer (some ⟨w.heap.size,0,none⟩)) 3)) (.inr rfl) (.int .i64 c14) one2 rfl (hB14.ldp (i := 3) sM) zN ?_)))))))
  by_cases hc19 : c14 ≠ ((0 :Nat):Int)
  ·
   refine q_neq true rfl rfl (decide_eq_true hc19) zN (lw_nil (c_cond_t rfl (wp_seq (wp_draw _ [3,0,0,0,1,0,0,0] mixed (by kernel_rfl) (r_nil (rI) good_rI u27 ti2 zN fun v20 w20 hX20 hz20 hO20 => ?_)))))
   replace hX20 := hX20.of_drew
   have hzs20:=hX20.size
   have hE20:=hE14.trans hX20
   have hF17x20 := hF17.ext (o2) hX20
   have hB14x20 := hB14.ext hX20
   have hN21 := hrt14.ext g2 hX20
   exact lw_tv 1 rfl (q_nil rfl zN (q_fldP (p := (.pointer (some ⟨w.heap.size,0,none⟩))) (b := w.heap.size) (o := 0) 3 fd157_3 rfl rfl zN (q_load (p := (padd (.pointer (some ⟨w.heap.size,0,none⟩)) 3)) (.inl rfl) (.int .i64 c14) one2 rfl (hB14.ldp (i := 3) sM) zN (lw_tvn 3 rfl (wp_ret (t_ret (post_ret [6,7,8] rfl (.tuple #[v20,(.int .i64 ((0 :Nat):Int)),(.int .i64 c14)]) rfl ⟨v20,(by rw [evT_e (ev_err hRL oM),show nxC p f.toNat a = _ from evD_e (ev_err hRL oM)] <;> rfl),hE20,(by rw [hNP.non (by rw [show nxC p f.toNat a = _ from evD_e (ev_err hRL oM)]; omega)]; exact (hO20.up o1).low hE14.size),hNP,hST⟩)))))))
  ·
   refine q_neq false rfl rfl (decide_eq_false hc19) zN (lw_nil (c_cond_f rfl (wp_skip (wp_seq (wp_plain _ [3,0] rfl (r_nil (rI) good_rI u27 ti2 zN fun v22 w22 hX22 hz22 hO22 => ?_))))))
   have hzs22:=hX22.size
   have hE22:=hE14.trans hX22
   have hF17x22 := hF17.ext (o2) hX22
   have hB14x22 := hB14.ext hX22
   have hN23 := hrt14.ext g2 hX22
   refine lw_tvn 1 rfl (wp_seq (wp_seq (wp_plain _ [0] rfl (lw_tvn 1 rfl (wp_block ?_)))))
   refine c_loop (S := Nat × Value) (fun (⟨k,vo⟩ : Nat × Value) => ([(13,vo),(14,(.int .i64 ((k :Nat):Int))),(9,(.pointer (some ⟨w.heap.size,0,none⟩))),(12,v14)] : List (Nat × Value))) (fun (⟨k,vo⟩ : Nat × Value) (W : World) => Ext w W ∧ Fr (owL rI 2) w14.heap.size W.heap.size W.heap vo (((x14).take k).map (fun s => s.getD 0 0)) ∧ BX W.heap w.heap.size [vp,(.int .i64 ((1 :Nat):Int)),(.int .i64 ((s14 :Nat):Int)),(.int .i64 c14)] ∧ k ≤ (x14).length ∧ RT w14.heap.size (rdL (rdL rI)) W.heap v14 x14 ∧ w14.heap.size ≤ W.heap.size ∧ w.heap.size < w14.heap.size ∧ w14.heap.size ≤ w14.heap.size ∧ w14.heap.size ≤ W.heap.size) (fun (⟨k,vo⟩ : Nat × Value) => (x14).length - k) (0,v22) ⟨rfl,rfl,rfl,rfl,trivial⟩ ⟨hE22,hO22.up o1,hB14x22,sD,(by assumption),oM,oM,oM,oM⟩ ?_
   clear hzs2 hE2 hL5_1 hL5_0 hE5 hzs5 hln13 hC14 hF17 hO22 hz22 hX22 hzs22 hE22 hF17x22
   rintro ⟨k,vo⟩ ρ28 w28 ⟨hE28,hL28_0,hL28_1,hp28_0,hrk24,hkB25,hkg26,hkt27,hkB29⟩
   have hzs28 : w.heap.size ≤ w28.heap.size := hE28.size
   have hq30 := hL28_1.lt
   refine wp_seq (wp_seq (wp_plain _ [0,0,0,0] rfl (lw_tv 2 rfl (q_len (v := v14) u32 rfl hrk24.slL zN ?_))))
   by_cases hc31 : ((k :Nat):Int) < ((x14.length :Nat):Int)
   ·
    refine q_lss true rfl rfl (decide_eq_true hc31) zN (lw_nil (c_cond_t rfl (wp_skip (wp_seq (wp_block (wp_plain _ [0,0,0,0,2,0,2,3,4,0] rfl ?_))))))
    have hkx := hXS k oM
    have hkl := hkx.1
    refine lw_tv 3 rfl (q_idx (v := v14) k u32 ti27 rfl rfl hrk24.slL rfl sD zN ?_)
    obtain ⟨ue32,hl32,hr32⟩ := RT.getL g1 [] (k := k) hrk24 sD
    have hln32 := hr32.lenL
    unfold maxLen at hln32
    refine q_load (p := eptr v14 k 1) (.inr rfl) ue32 one27 rfl hl32 zN (q_idx (v := ue32) 0 u27 ti2 rfl rfl hr32.slL rfl sD zN ?_)
    have hg33 := RT.getI (k := 0) hr32 sD
    refine q_load (p := eptr ue32 0 1) (.inr rfl) (.int .i64 ((x14.getD k []).getD 0 0)) one2 rfl hg33.1 zN (r_one (u := (.int .i64 ((x14.getD k []).getD 0 0))) (B := w28.heap.size) good_rI u27 ti2 rfl rfl (frI w28.heap.size w28.heap.size _ _ hg33.2) (Nat.le_refl _) zN fun v34 w34 hX34 hz34 hO34 => ?_)
    have hzs34:=hX34.size
    have hE34:=hE28.trans hX34
    have hL28_0x34 := hL28_0.ext (o1) hX34
    have hL28_1x34 := hL28_1.ext hX34
    have hN35 := hrk24.ext g2 hX34
    have hN36 := hr32.ext g1 hX34
    refine e_appI (v := vo) (a := v34) u27 ti2 rfl rfl rfl hL28_0x34 oM hO34.rd1 sD z68_0 zN fun v37 w37 F37 hC37 hF37 hO37 => ?_
    have hE37 : Ext w w37 := hC37.below hE34 (fun c hc => Nat.le_trans hE14.size (hF37 c hc).1) hE34.size
    have hzs37:=hC37.size
    have hN38 := hN35.chg g2 hC37 (fun c hc => by have := hF37 c hc; omega)
    have hN39 := hN36.chg g1 hC37 (fun c hc => by have := hF37 c hc; omega)
    have hF40 := hL28_1x34.chg hC37 (fun hm => by have := hF37 _ hm; omega)
    have hF41 := hO34.chg (o1) hC37 (fun c hc => by have := hF37 c hc; omega)
    refine lw_tvn 1 rfl (wp_plain _ [0,0,0] rfl (lw_tv 1 rfl (q_add ((k + 1 :Nat):Int) rfl rfl (w64n oM sD) zN (lw_tvn 1 rfl ?_))))
    exact ⟨((k + 1),v37),_,rfl,⟨rfl,rfl,rfl,rfl,trivial⟩,⟨hE37,(by rw [map_snoc [] oM]; exact hO37.up o1),hF40,sD,(by assumption),oM,oM,oM,oM⟩,by first | omega | (dsimp only; omega)⟩
   ·
    refine q_lss false rfl rfl (decide_eq_false hc31) zN (lw_nil (c_cond_f rfl (wp_exit (t_exit (t_exit (c_exit_here (wp_seq (wp_draw _ [0,0,0,0,1,0,0,0] mixed (by kernel_rfl) (lw_tv 2 rfl (q_nil rfl zN (q_fldP (p := (.pointer (some ⟨w.heap.size,0,none⟩))) (b := w.heap.size) (o := 0) 2 fd157_2 rfl rfl zN (q_load (p := (padd (.pointer (some ⟨w.heap.size,0,none⟩)) 2)) (.inl rfl) (.int .i64 ((s14 :Nat):Int)) one2 rfl (hL28_1.ldp (i := 2) sM) zN (lw_tvn 3 rfl (wp_ret ?_))))))))))))))
    exact post_ret [6,7,8] rfl (.tuple #[vo,(.int .i64 ((s14 :Nat):Int)),(.int .i64 ((0 :Nat):Int))]) rfl ⟨vo,(by rw [evT_o (ev_ok hRL oM),show nxC p f.toNat a = _ from evD_o (ev_ok hRL oM)] <;> rfl),hE28.drew,(by have h := (hL28_0.up o1).low hE14.size; unfold nxR; rw [evR_o (ev_ok hRL oM)]; rwa [List.take_of_length_le oM] at h),hNP,hST⟩
end Go.Proofs.YtnokbaiemimhjaaGreat
namespace Go.Proofs.YtnokbaiemimhjaaGreat
open Go Go.RowKit
set_option linter.unusedVariables false
set_option linter.unusedSimpArgs false
set_option maxHeartbeats 4000000
set_option maxRecDepth 100000
attribute [local irreducible] LW
theorem ar_2l {p : List Fn} {f : Int} {a : Sr} (h : isF p f = 0) (h2 : ((a.length : Nat) : Int) ≠ (p.getD f.toNat Fn.zero).params) : 2 = arC p f a := ar_2 h (by rw [decide_eq_false h2]; rfl)
theorem ar_2n {p : List Fn} {f : Int} {a : Sr} (h : isF p f = 0) (h2 : allN a = false) : 2 = arC p f a := ar_2 h (by rw [h2, Bool.and_false])
theorem ar_0n {p : List Fn} {f : Int} {a : Sr} (h : isF p f = 0) (h1 : ((a.length : Nat) : Int) = (p.getD f.toNat Fn.zero).params) (h2 : allN a = true) : 0 = arC p f a := ar_0 h (by rw [h2, decide_eq_true h1]; rfl)
theorem nb_t {b : Bool} (h : (!b) = true) : b = false := by simpa using h
theorem nb_f {b : Bool} (h : (!b) = false) : b = true := by simpa using h
theorem z67_0 {p : Prop} (h : p := by first | exact ar_n oM | exact ar_2l oM oM | exact ar_2n oM (nb_t (by assumption)) | exact (by omega : _ = isF p f).trans (ar_n oM) | exact (show isF p f = 0 by omega).trans (ar_0n oM oM (nb_f (by assumption)))) : p := h
theorem c_spec_l02Args (w : World) (dp : Nat) (vp : Value) (p : List Fn) (f : Int) (va : Value) (a : List Int) (hp : RN [] (rP (rPr dp)) w.heap vp p) (_hf : -9223372036854775808 ≤ f ∧ f ≤ 9223372036854775807) (ha : Rd (rdL rI) w.heap va a) (hz : SzP p) :
    Calls Tryz.prog 67 #[vp, .int .i64 f, va] w (fun e w' => e = .returned (.int .i64 (arC p f a)) ∧ Ext w w') := by
  refine calls_mk [vp, .int .i64 f, va] 32 Tryz.func67 rfl rfl sM ?_
  have hE0 : Ext w w := Ext.refl w
  have hl_va := ha.lenle
  refine wp_seq (wp_plain _ [0] rfl (lw_tvn 1 rfl (wp_seq (wp_plain _ [0, 0, 3, 0] rfl (lw_tv 2 rfl (lw_call 91 [] [] [vp, (.int .i64 f)] rfl rfl cf91 zN (c_spec_l02Asked _ dp vp (p) _ (hp.ext (good_rP (good_rPr dp)) hE0) _hf (by exact hz)) ?_))))))
  rintro e1 w1 ⟨rfl, hX1⟩
  refine ⟨_, rfl, hX1, ?_⟩
  have hzs1 : w.heap.size ≤ w1.heap.size := hX1.size
  have hE1 : Ext w w1 := hE0.trans hX1
  refine lw_tvn 1 rfl (wp_seq (wp_seq (wp_plain _ [0, 0, 0, 0, 0, 0, 0, 0, 2, 0, 0, 0, 2, 0, 0, 0, 3, 0, 0, 0] rfl (lw_tv 1 rfl ?_))))
  by_cases hc2 : isF p f = ((0 : Nat) : Int)
  ·
    refine q_eql true rfl rfl (decide_eq_true hc2) zN (lw_tv 2 rfl (q_len (v := va) u27 rfl ha.isSl (zS (e := 13) rfl rfl rfl) (lw_tv 1 rfl (q_nilP (hp.isPtr) rfl (zS (e := 13) rfl rfl rfl) ?_))))
    have hi0 := isF_0 (p := p) (f := f) oM
    obtain ⟨cs3, hr3, hl3⟩ := RN.at (good_rPr _) hp
    obtain ⟨ve3, rfl, hx3⟩ := RPr.of hr3
    have hln3 := hx3.lenle
    unfold maxLen at hln3
    refine q_fldL (p := vp) 0 fd26_0 rfl (hl3 _ (Chg.of_ext [] hE1)) (zS (e := 13) rfl rfl rfl) (q_load (p := (padd vp 0)) (.inr rfl) ve3 one24 rfl ((hl3 _ (Chg.of_ext [] hE1)).ld (i := 0) (by simp [exC, fnC])) (zS (e := 13) rfl rfl rfl) (lw_tv 1 rfl (q_idx (v := ve3) ((f).toNat) u24 tiS55 rfl rfl hx3.isSl oM sD (zS (e := 13) rfl rfl rfl) ?_)))
    obtain ⟨cs4, hr4, hl4⟩ := hx3.get (good_rFn dp) Fn.zero (k := ((f).toNat)) sD
    obtain ⟨ve4, rfl, hx4⟩ := RF.of hr4
    have hln4 := hx4.rn.lenle
    unfold maxLen at hln4
    refine q_fldL (p := eptr ve3 ((f).toNat) 3) 1 fd55_1 rfl (hl4 _ (Chg.of_ext [] hE1)) (zS (e := 13) rfl rfl rfl) (q_load (p := (padd (eptr ve3 ((f).toNat) 3) 1)) (.inr rfl) (.int .i64 ((p.getD ((f).toNat) Fn.zero).params)) one2 rfl ((hl4 _ (Chg.of_ext [] hE1)).ld (i := 1) (by simp [exC, fnC])) (zS (e := 13) rfl rfl rfl) ?_)
    by_cases hc5 : ((a.length : Nat) : Int) ≠ (p.getD ((f).toNat) Fn.zero).params
    ·
      exact q_neq true rfl rfl (decide_eq_true hc5) (zS (e := 13) rfl rfl rfl) (lw_tvn 6 rfl (c_cond_t rfl (wp_plain _ [0] rfl (lw_tvn 1 rfl (wp_seq (wp_plain _ [0, 0] rfl (lw_tvn 2 rfl (wp_ret (post_ret [6] rfl (.int .i64 ((2 : Nat) : Int)) rfl ⟨(ret_int z67_0), hE1⟩)))))))))
    ·
      refine q_neq false rfl rfl (decide_eq_false hc5) (zS (e := 13) rfl rfl rfl) (lw_tv 2 rfl (lw_call 144 [] [] [va] rfl rfl cf144 (zS (e := 25) rfl rfl rfl) (c_spec_l01Numbers _ _ _ (ha.ext g1 hE1)) ?_))
      rintro e6 w6 ⟨rfl, hX6⟩
      refine ⟨_, rfl, hX6, ?_⟩
      have hzs6 : w1.heap.size ≤ w6.heap.size := hX6.size
      have hE6 : Ext w w6 := hE1.trans hX6
      refine q_not (!(allN a)) rfl rfl (zS (e := 25) rfl rfl rfl) (lw_tvn 2 rfl ?_)
      cases hb7 : (!(allN a))
      ·
        exact c_cond_f (by first | rfl | (show Value.bool _ = _; rw [hb7])) (wp_skip (wp_seq (wp_plain _ [0, 0] rfl (lw_tvn 2 rfl (wp_ret (post_ret [6] rfl (.int .i64 (isF p f)) rfl ⟨(ret_int z67_0), hE6⟩))))))
      ·
        exact c_cond_t (by first | rfl | (show Value.bool _ = _; rw [hb7])) (wp_plain _ [0] rfl (lw_tvn 1 rfl (wp_seq (wp_plain _ [0, 0] rfl (lw_tvn 2 rfl (wp_ret (post_ret [6] rfl (.int .i64 ((2 : Nat) : Int)) rfl ⟨(ret_int z67_0), hE6⟩)))))))
  ·
    exact q_eql false rfl rfl (decide_eq_false hc2) zN (lw_tvn 18 rfl (c_cond_f rfl (wp_skip (wp_seq (wp_plain _ [0, 0] rfl (lw_tvn 2 rfl (wp_ret (post_ret [6] rfl (.int .i64 (isF p f)) rfl ⟨(ret_int z67_0), hE1⟩))))))))
theorem c_spec_Evaluate (w : World) (dp : Nat) (vp : Value) (p : List Fn) (f : Int) (va : Value) (a : List Int) (hp : RP [] dp w.heap vp p) (_hf : -9223372036854775808 ≤ f ∧ f ≤ 9223372036854775807) (ha : Rd (rdL rI) w.heap va a) (hz : SzP p) :
    Calls Tryz.prog 13 #[(.agg #[vp]), .int .i64 f, va] w (fun e w' => ∃ v0 : Value, e = .returned (.tuple #[v0, .int .i64 ((euT p f a : Nat) : Int), .int .i64 (euC p f a)]) ∧ Ext w w' ∧ Fr (owL rI 2) w.heap.size w'.heap.size w'.heap v0 (euR p f a)) := by
  refine calls_mk [(.agg #[vp]), .int .i64 f, va] 23 Tryz.func13 rfl rfl sM ?_
  have hE0 : Ext w w := Ext.refl w
  have hl_vp := hp.lenle
  unfold maxLen at hl_vp
  have hl_va := ha.lenle
  refine wp_seq (wp_plain _ [3, 0, 0, 0] rfl (r_boxA (cs := #[vp]) rfl zN fun w1 hX1 hz1 hB1 => ?_))
  have hzs1 : w.heap.size ≤ w1.heap.size := hX1.size
  have hE1 : Ext w w1 := hE0.trans hX1
  replace hB1 : BX w1.heap w.heap.size [vp] := hB1
  refine lw_tvn 3 rfl (wp_seq (wp_seq (wp_plain _ [0, 0, 3, 0] rfl (lw_tv 2 rfl (lw_call 67 [] [] [(.pointer (some ⟨w.heap.size, 0, none⟩)), (.int .i64 f), va] rfl rfl cf67 zN (c_spec_l02Args _ dp ((.pointer (some ⟨w.heap.size, 0, none⟩))) (p) _ _ _ (RN.box hB1 (RP.mk' (hp.ext (good_rdS (good_rFn dp)) hE1)) sM) _hf (ha.ext g1 hE1) (by exact hz)) ?_)))))
  rintro e2 w2 ⟨rfl, hX2⟩
  refine ⟨_, rfl, hX2, ?_⟩
  have hzs2 : w1.heap.size ≤ w2.heap.size := hX2.size
  have hE2 : Ext w w2 := hE1.trans hX2
  have hB1x2 := hB1.ext hX2
  refine lw_tvn 1 rfl (wp_seq (wp_plain _ [0, 0] rfl (lw_tv 1 rfl ?_)))
  by_cases hc3 : arC p f a ≠ ((0 : Nat) : Int)
  ·
    refine q_neq true rfl rfl (decide_eq_true hc3) zN (lw_nil (c_cond_t rfl (wp_seq (wp_plain _ [3, 0, 0, 0, 0] rfl (r_nil (rI) good_rI u27 ti2 zN fun v4 w4 hX4 hz4 hO4 => ?_)))))
    have hzs4 : w2.heap.size ≤ w4.heap.size := hX4.size
    have hE4 : Ext w w4 := hE2.trans hX4
    have hB1x4 := hB1x2.ext hX4
    exact lw_tvn 4 rfl (wp_ret (t_ret (post_ret [6, 7, 8] rfl (.tuple #[v4, (.int .i64 ((0 : Nat) : Int)), (.int .i64 (arC p f a))]) rfl ⟨v4, (by rw [euT_n oM, euC_n oM] <;> rfl), hE4, (by rw [euR_n oM]; exact (hO4.up o1).low hE2.size)⟩)))
  ·
    refine q_neq false rfl rfl (decide_eq_false hc3) zN (lw_nil (c_cond_f rfl (wp_skip (wp_seq (wp_plain _ [0, 0, 3, 0, 0, 0, 0, 0, 0] rfl (lw_tv 2 rfl ?_))))))
    have har : arC p f a = 0 := by omega
    have har0 := arC_0 har
    have hvp := okP_vpr har0.1
    have hpr := hvp.par f.toNat oM
    have hal := har0.2.2.1
    refine lw_call 68 [] [] [(.pointer (some ⟨w.heap.size, 0, none⟩)), (.int .i64 f), va] rfl rfl cf68 zN (c_spec_l02Eval _ dp ((.pointer (some ⟨w.heap.size, 0, none⟩))) (p) _ _ _ (RN.box hB1x2 (RP.mk' (hp.ext (good_rdS (good_rFn dp)) hE2)) sM) _hf (ha.ext g1 hE2) (by exact hvp) oM oM (by exact har0.2.2.2)) ?_
    rintro e5 w5 ⟨v5_0, rfl, hX5, hO5_0, hP5_0, hP5_1⟩
    refine ⟨_, rfl, hX5, ?_⟩
    have hzs5 : w2.heap.size ≤ w5.heap.size := hX5.size
    have hE5 : Ext w w5 := hE2.trans hX5
    have hB1x5 := hB1x2.ext hX5
    exact q_extract (vs := [v5_0, (.int .i64 ((evT p 1 f.toNat (sing a) : Nat) : Int)), (.int .i64 (nxC p f.toNat a))]) v5_0 rfl rfl zN (q_extract (vs := [v5_0, (.int .i64 ((evT p 1 f.toNat (sing a) : Nat) : Int)), (.int .i64 (nxC p f.toNat a))]) (.int .i64 ((evT p 1 f.toNat (sing a) : Nat) : Int)) rfl rfl zN (q_extract (vs := [v5_0, (.int .i64 ((evT p 1 f.toNat (sing a) : Nat) : Int)), (.int .i64 (nxC p f.toNat a))]) (.int .i64 (nxC p f.toNat a)) rfl rfl zN (lw_tvn 3 rfl (wp_ret (post_ret [6, 7, 8] rfl (.tuple #[v5_0, (.int .i64 ((evT p 1 f.toNat (sing a) : Nat) : Int)), (.int .i64 (nxC p f.toNat a))]) rfl ⟨v5_0, (by rw [euT_0 har, euC_0 har]), hE5, (by rw [euR_0 har]; exact (hO5_0.up o1).low hE2.size)⟩)))))
end Go.Proofs.YtnokbaiemimhjaaGreat
namespace Go.Proofs.YtnokbaiemimhjaaGreat
open Go Go.RowKit
set_option linter.unusedVariables false
set_option linter.unusedSimpArgs false
set_option maxHeartbeats 4000000
set_option maxRecDepth 100000
attribute [local irreducible] LW
theorem z200_0 {p : Prop} (h : p := by intro u hu; simp only [List.mem_cons, List.not_mem_nil, or_false] at hu; rcases hu with rfl | rfl | rfl | rfl | rfl <;> first | exact ⟨rfl, rfl⟩) : p := h
theorem z200_1 {p : Prop} (h : p := by simp only [List.map_toArray, List.map_cons, List.map_nil]; rfl) : p := h
theorem z200_2 {p : Prop} (h : p := by first | exact LOk.var oM | exact LOk.num oM) : p := h
theorem c_spec_l02Gen_leaf (w : World) (gg gs : Nat) (sv : Value) (cs : List UInt8) (n0 : Nat) (pp : Value) (dp : Nat) (l0 : Int) (pl : Bool) (p : List Fn) (vars : Int) (hgg : gs < gg) (hs : Src w.heap gs sv cs n0) (hB0 : BX w.heap gg [.pointer (some ⟨gs, 0, none⟩), pp, .int .i64 l0, .bool pl]) (hp : RN [gs, gg] (rP (rPr dp)) w.heap pp p) (_hvars : -9223372036854775808 ≤ vars ∧ vars ≤ 9223372036854775807) (hv : 0 ≤ vars ∧ vars ≤ 1000) (hn : n0 + 20 ≤ 1000000000000) :
    Calls Tryz.prog 200 #[.pointer (some ⟨gg, 0, none⟩), .int .i64 vars] w (fun e w' => ∃ (ex : Ex) (n1 : Nat), e = .returned (.agg #[.int .i64 ex.kind, .int .i64 ex.num, .int .i64 ex.pick, .int .i64 ex.count, .slice none 0 0]) ∧ Chg [gs, gg] w w' ∧ Src w'.heap gs sv cs n1 ∧ (n0 ≤ n1 ∧ n1 ≤ n0 + 20) ∧ BX w'.heap gg [.pointer (some ⟨gs, 0, none⟩), pp, .int .i64 l0, .bool pl] ∧ exR ex ∧ ex.kids = [] ∧ LOk p vars ex) := by
  refine calls_mk [.pointer (some ⟨gg, 0, none⟩), .int .i64 vars] 28 Tryz.func200 rfl rfl sM ?_
  have hE0 : Chg [gs, gg] w w := Chg.refl [gs, gg] w
  have hgl := hs.lt
  have hgl2 := hB0.lt
  refine wp_seq (wp_plain _ [3] rfl ?_)
  have hq2 := hB0.lt
  refine r_allocA (z := .agg #[.int .i64 0, .int .i64 0, .int .i64 0, .int .i64 0, .slice none 0 0]) zr174 zN fun w1 hX1 hz1 hB1 => ?_
  have hzs1 : w.heap.size ≤ w1.heap.size := hX1.size
  have hE1 : Chg [gs, gg] w w1 := hE0.ext hX1
  have hsx1 := hs.ext hX1
  have hB0x1 := hB0.ext hX1
  replace hB1 : BX w1.heap w.heap.size [(.int .i64 0), (.int .i64 0), (.int .i64 0), (.int .i64 0), (.slice none 0 0)] := hB1
  refine lw_nil (wp_seq (wp_seq (wp_plain _ [0, 0, 0, 0, 0, 0, 2, 4, 0, 0] rfl (lw_tv 1 rfl ?_))))
  by_cases hc3 : ((0 : Nat) : Int) < vars
  ·
    refine q_gtr true rfl rfl (decide_eq_true hc3) zN (lw_tv 2 rfl (q_nil rfl (zS (e := 7) rfl rfl rfl) (q_fldP (p := (.pointer (some ⟨gg, 0, none⟩))) (b := gg) (o := 0) 0 fd172_0 rfl rfl (zS (e := 7) rfl rfl rfl) (q_load (p := (padd (.pointer (some ⟨gg, 0, none⟩)) 0)) (.inr rfl) (.pointer (some ⟨gs, 0, none⟩)) one88 rfl (hB0x1.ldp (i := 0) sM) (zS (e := 7) rfl rfl rfl) ?_))))
    refine lw_callE 143 [] [] [(.pointer (some ⟨gs, 0, none⟩)), (.int .i64 ((4 : Nat) : Int))] rfl rfl cf143 (zS (e := 7) rfl rfl rfl) (c_spec_l00Src_one _ gs _ _ _ (((4 : Nat) : Int)) hsx1 oM oM sD) ?_
    rintro e4 w4 ⟨x4_0, n4, rfl, hC4, hs4, hb4, hp4_0⟩
    refine ⟨_, rfl, ?_⟩
    have hzs4 : w1.heap.size ≤ w4.heap.size := hC4.size
    have hE4 : Chg [gs, gg] w w4 := hE1.trans (hC4.sub sub_gs)
    have hF5 := hB0x1.chg hC4 (fun hm => by have := List.mem_singleton.1 hm; omega)
    have hF6 := hB1.chg hC4 (fun hm => by have := List.mem_singleton.1 hm; omega)
    refine q_not (!x4_0) rfl rfl (zS (e := 7) rfl rfl rfl) (lw_tvn 1 rfl ?_)
    cases hb7 : (!x4_0)
    ·
      refine c_cond_f (by first | rfl | (show Value.bool _ = _; rw [hb7])) (wp_skip (wp_seq (wp_plain _ [0, 0, 0, 2, 4, 0, 4] rfl (lw_tv 1 rfl (q_nil rfl zN (q_fldP (p := (.pointer (some ⟨gg, 0, none⟩))) (b := gg) (o := 0) 0 fd172_0 rfl rfl zN (q_load (p := (padd (.pointer (some ⟨gg, 0, none⟩)) 0)) (.inr rfl) (.pointer (some ⟨gs, 0, none⟩)) one88 rfl (hF5.ldp (i := 0) sM) zN (lw_callE 150 [] [] [(.pointer (some ⟨gs, 0, none⟩))] rfl rfl cf150 zN (c_spec_l01Any _ gs _ _ _ hs4 oM) ?_))))))))
      rintro e8 w8 ⟨x8_0, n8, rfl, hC8, hs8, hb8, hp8_0⟩
      refine ⟨_, rfl, ?_⟩
      have hzs8 : w4.heap.size ≤ w8.heap.size := hC8.size
      have hE8 : Chg [gs, gg] w w8 := hE4.trans (hC8.sub sub_gs)
      have hF9 := hF5.chg hC8 (fun hm => by have := List.mem_singleton.1 hm; omega)
      have hF10 := hF6.chg hC8 (fun hm => by have := List.mem_singleton.1 hm; omega)
      have hbd11 : ∀ (wq : World), (Instr.build 174 #[(0, (.int .i64 ((1 : Nat) : Int))), (1, (.int .i64 x8_0))]).run Tryz.prog wq = .ok (.agg #[(.int .i64 ((1 : Nat) : Int)), (.int .i64 x8_0), (.int .i64 0), (.int .i64 0), (.slice none 0 0)]) wq := by intro wq; kernel_rfl
      refine q_build (ps := #[(0, (.int .i64 ((1 : Nat) : Int))), (1, (.int .i64 x8_0))]) (.agg #[(.int .i64 ((1 : Nat) : Int)), (.int .i64 x8_0), (.int .i64 0), (.int .i64 0), (.slice none 0 0)]) z200_1 (fun wq => hbd11  wq) zN (e_setA (vs := [(.int .i64 ((1 : Nat) : Int)), (.int .i64 x8_0), (.int .i64 0), (.int .i64 0), (.slice none 0 0)]) agg174 rfl rfl z200_0 hF10 rfl rfl zN fun w12 hC12 hz12 hB12 => ?_)
      replace hB12 : BX w12.heap w.heap.size [(.int .i64 ((1 : Nat) : Int)), (.int .i64 x8_0), (.int .i64 0), (.int .i64 0), (.slice none 0 0)] := hB12
      have hzs12 : w8.heap.size ≤ w12.heap.size := hC12.size
      have hE12 : Chg [gs, gg] w w12 := hE8.fresh hC12 (fun c hc => by have := List.mem_singleton.1 hc; omega)
      have hF13 := hs8.chg hC12 (fun c hc => by have := List.mem_singleton.1 hc; omega)
      have hF14 := hF9.chg hC12 (fun hm => by have := List.mem_singleton.1 hm; omega)
      exact lw_nil (wp_ret (post_retA (cs := [(.int .i64 ((1 : Nat) : Int)), (.int .i64 x8_0), (.int .i64 0), (.int .i64 0), (.slice none 0 0)]) rfl agg174 rfl hB12 rfl ⟨(.mk ((1 : Nat) : Int) x8_0 0 0 []), n8, rfl, hE12, hF13, ⟨by omega, by omega⟩, hF14, (exR_mk oM oM oM oM), rfl, z200_2⟩))
    ·
      refine c_cond_t (by first | rfl | (show Value.bool _ = _; rw [hb7])) (wp_seq (wp_plain _ [0, 0, 0, 2, 0, 4, 0, 4] rfl (lw_tv 1 rfl (q_nil rfl zN (q_fldP (p := (.pointer (some ⟨gg, 0, none⟩))) (b := gg) (o := 0) 0 fd172_0 rfl rfl zN (q_load (p := (padd (.pointer (some ⟨gg, 0, none⟩)) 0)) (.inr rfl) (.pointer (some ⟨gs, 0, none⟩)) one88 rfl (hF5.ldp (i := 0) sM) zN (lw_tv 1 rfl ?_)))))))
      refine lw_callE 80 [] [] [(.pointer (some ⟨gs, 0, none⟩)), (.int .i64 vars)] rfl rfl cf80 zN (c_spec_l00Src_pick _ gs _ _ _ (vars) hs4 oM _hvars sD) ?_
      rintro e15 w15 ⟨x15_0, n15, rfl, hC15, hs15, hb15, hp15_0⟩
      refine ⟨_, rfl, ?_⟩
      have hzs15 : w4.heap.size ≤ w15.heap.size := hC15.size
      have hE15 : Chg [gs, gg] w w15 := hE4.trans (hC15.sub sub_gs)
      have hF16 := hF5.chg hC15 (fun hm => by have := List.mem_singleton.1 hm; omega)
      have hF17 := hF6.chg hC15 (fun hm => by have := List.mem_singleton.1 hm; omega)
      have hbd18 : ∀ (wq : World), (Instr.build 174 #[(0, (.int .i64 ((2 : Nat) : Int))), (1, (.int .i64 x15_0))]).run Tryz.prog wq = .ok (.agg #[(.int .i64 ((2 : Nat) : Int)), (.int .i64 x15_0), (.int .i64 0), (.int .i64 0), (.slice none 0 0)]) wq := by intro wq; kernel_rfl
      refine q_build (ps := #[(0, (.int .i64 ((2 : Nat) : Int))), (1, (.int .i64 x15_0))]) (.agg #[(.int .i64 ((2 : Nat) : Int)), (.int .i64 x15_0), (.int .i64 0), (.int .i64 0), (.slice none 0 0)]) z200_1 (fun wq => hbd18  wq) zN (e_setA (vs := [(.int .i64 ((2 : Nat) : Int)), (.int .i64 x15_0), (.int .i64 0), (.int .i64 0), (.slice none 0 0)]) agg174 rfl rfl z200_0 hF17 rfl rfl zN fun w19 hC19 hz19 hB19 => ?_)
      replace hB19 : BX w19.heap w.heap.size [(.int .i64 ((2 : Nat) : Int)), (.int .i64 x15_0), (.int .i64 0), (.int .i64 0), (.slice none 0 0)] := hB19
      have hzs19 : w15.heap.size ≤ w19.heap.size := hC19.size
      have hE19 : Chg [gs, gg] w w19 := hE15.fresh hC19 (fun c hc => by have := List.mem_singleton.1 hc; omega)
      have hF20 := hs15.chg hC19 (fun c hc => by have := List.mem_singleton.1 hc; omega)
      have hF21 := hF16.chg hC19 (fun hm => by have := List.mem_singleton.1 hm; omega)
      exact lw_nil (wp_ret (t_ret (post_retA (cs := [(.int .i64 ((2 : Nat) : Int)), (.int .i64 x15_0), (.int .i64 0), (.int .i64 0), (.slice none 0 0)]) rfl agg174 rfl hB19 rfl ⟨(.mk ((2 : Nat) : Int) x15_0 0 0 []), n15, rfl, hE19, hF20, ⟨by omega, by omega⟩, hF21, (exR_mk oM oM oM oM), rfl, z200_2⟩)))
  ·
    refine q_gtr false rfl rfl (decide_eq_false hc3) zN (lw_tvn 8 rfl (c_cond_f rfl (wp_skip (wp_seq (wp_plain _ [0, 0, 0, 2, 4, 0, 4] rfl (lw_tv 1 rfl (q_nil rfl zN (q_fldP (p := (.pointer (some ⟨gg, 0, none⟩))) (b := gg) (o := 0) 0 fd172_0 rfl rfl zN (q_load (p := (padd (.pointer (some ⟨gg, 0, none⟩)) 0)) (.inr rfl) (.pointer (some ⟨gs, 0, none⟩)) one88 rfl (hB0x1.ldp (i := 0) sM) zN (lw_callE 150 [] [] [(.pointer (some ⟨gs, 0, none⟩))] rfl rfl cf150 zN (c_spec_l01Any _ gs _ _ _ hsx1 oM) ?_))))))))))
    rintro e22 w22 ⟨x22_0, n22, rfl, hC22, hs22, hb22, hp22_0⟩
    refine ⟨_, rfl, ?_⟩
    have hzs22 : w1.heap.size ≤ w22.heap.size := hC22.size
    have hE22 : Chg [gs, gg] w w22 := hE1.trans (hC22.sub sub_gs)
    have hF23 := hB0x1.chg hC22 (fun hm => by have := List.mem_singleton.1 hm; omega)
    have hF24 := hB1.chg hC22 (fun hm => by have := List.mem_singleton.1 hm; omega)
    have hbd25 : ∀ (wq : World), (Instr.build 174 #[(0, (.int .i64 ((1 : Nat) : Int))), (1, (.int .i64 x22_0))]).run Tryz.prog wq = .ok (.agg #[(.int .i64 ((1 : Nat) : Int)), (.int .i64 x22_0), (.int .i64 0), (.int .i64 0), (.slice none 0 0)]) wq := by intro wq; kernel_rfl
    refine q_build (ps := #[(0, (.int .i64 ((1 : Nat) : Int))), (1, (.int .i64 x22_0))]) (.agg #[(.int .i64 ((1 : Nat) : Int)), (.int .i64 x22_0), (.int .i64 0), (.int .i64 0), (.slice none 0 0)]) z200_1 (fun wq => hbd25  wq) zN (e_setA (vs := [(.int .i64 ((1 : Nat) : Int)), (.int .i64 x22_0), (.int .i64 0), (.int .i64 0), (.slice none 0 0)]) agg174 rfl rfl z200_0 hF24 rfl rfl zN fun w26 hC26 hz26 hB26 => ?_)
    replace hB26 : BX w26.heap w.heap.size [(.int .i64 ((1 : Nat) : Int)), (.int .i64 x22_0), (.int .i64 0), (.int .i64 0), (.slice none 0 0)] := hB26
    have hzs26 : w22.heap.size ≤ w26.heap.size := hC26.size
    have hE26 : Chg [gs, gg] w w26 := hE22.fresh hC26 (fun c hc => by have := List.mem_singleton.1 hc; omega)
    have hF27 := hs22.chg hC26 (fun c hc => by have := List.mem_singleton.1 hc; omega)
    have hF28 := hF23.chg hC26 (fun hm => by have := List.mem_singleton.1 hm; omega)
    exact lw_nil (wp_ret (post_retA (cs := [(.int .i64 ((1 : Nat) : Int)), (.int .i64 x22_0), (.int .i64 0), (.int .i64 0), (.slice none 0 0)]) rfl agg174 rfl hB26 rfl ⟨(.mk ((1 : Nat) : Int) x22_0 0 0 []), n22, rfl, hE26, hF27, ⟨by omega, by omega⟩, hF28, (exR_mk oM oM oM oM), rfl, z200_2⟩))
theorem y202_0 {p : Prop} (h : p := by first | (rw [kn_0 oM]; rfl) | (rw [kn_2 oM]; rfl) | (rw [kn_1 oM]; rfl) | (rw [kn_3 oM]; rfl) | (rw [kn_m (by assumption) (by assumption) (by assumption) (by assumption) (by assumption) (by assumption) (by assumption) (by assumption) (by assumption)])) : p := h
theorem c_kn (w : World) (k : Int) (_hk : -9223372036854775808 ≤ k ∧ k ≤ 9223372036854775807)  :
    Calls Tryz.prog 202 #[.int .i64 k] w (fun e w' => e = .returned (.int .i64 (kn k)) ∧ w' = w) := by
  refine calls_mk [.int .i64 k] 17 Tryz.func202 rfl rfl sM ?_
  have hE0 : w = w := rfl
  refine wp_seq (wp_plain _ [0] rfl (lw_tvn 1 rfl (wp_seq (wp_seq (wp_plain _ [0] rfl (lw_tvn 1 rfl (wp_block (wp_seq (wp_seq (wp_plain _ [0, 0] rfl ?_))))))))))
  by_cases hc1 : k = ((1 : Nat) : Int)
  ·
    exact q_eql true rfl rfl (decide_eq_true hc1) zN (lw_tvn 1 rfl (c_cond_t rfl (wp_skip (c_cond_t rfl (wp_seq (wp_plain _ [0] rfl (lw_tvn 1 rfl (wp_ret (b_ret (t_ret (post_ret [2] rfl (.int .i64 ((0 : Nat) : Int)) rfl ⟨y202_0, hE0⟩)))))))))))
  ·
    refine q_eql false rfl rfl (decide_eq_false hc1) zN (lw_tvn 1 rfl (c_cond_f rfl (wp_plain _ [0, 0] rfl ?_)))
    by_cases hc2 : k = ((2 : Nat) : Int)
    ·
      exact q_eql true rfl rfl (decide_eq_true hc2) zN (lw_tvn 1 rfl (c_cond_t rfl (wp_seq (wp_plain _ [0] rfl (lw_tvn 1 rfl (wp_ret (b_ret (t_ret (post_ret [2] rfl (.int .i64 ((0 : Nat) : Int)) rfl ⟨y202_0, hE0⟩)))))))))
    ·
      refine q_eql false rfl rfl (decide_eq_false hc2) zN (lw_tvn 1 rfl (c_cond_f rfl (wp_seq (wp_seq (wp_plain _ [0, 0] rfl ?_)))))
      by_cases hc3 : k = ((3 : Nat) : Int)
      ·
        exact q_eql true rfl rfl (decide_eq_true hc3) zN (lw_tvn 1 rfl (c_cond_t rfl (wp_skip (c_cond_t rfl (wp_seq (wp_plain _ [0] rfl (lw_tvn 1 rfl (wp_ret (b_ret (t_ret (post_ret [2] rfl (.int .i64 ((2 : Nat) : Int)) rfl ⟨y202_0, hE0⟩)))))))))))
      ·
        refine q_eql false rfl rfl (decide_eq_false hc3) zN (lw_tvn 1 rfl (c_cond_f rfl (wp_seq (wp_plain _ [0, 0] rfl ?_))))
        by_cases hc4 : k = ((4 : Nat) : Int)
        ·
          exact q_eql true rfl rfl (decide_eq_true hc4) zN (lw_tvn 1 rfl (c_cond_t rfl (wp_skip (c_cond_t rfl (wp_seq (wp_plain _ [0] rfl (lw_tvn 1 rfl (wp_ret (b_ret (t_ret (post_ret [2] rfl (.int .i64 ((2 : Nat) : Int)) rfl ⟨y202_0, hE0⟩)))))))))))
        ·
          refine q_eql false rfl rfl (decide_eq_false hc4) zN (lw_tvn 1 rfl (c_cond_f rfl (wp_seq (wp_plain _ [0, 0] rfl ?_))))
          by_cases hc5 : k = ((5 : Nat) : Int)
          ·
            exact q_eql true rfl rfl (decide_eq_true hc5) zN (lw_tvn 1 rfl (c_cond_t rfl (wp_skip (c_cond_t rfl (wp_seq (wp_plain _ [0] rfl (lw_tvn 1 rfl (wp_ret (b_ret (t_ret (post_ret [2] rfl (.int .i64 ((2 : Nat) : Int)) rfl ⟨y202_0, hE0⟩)))))))))))
          ·
            refine q_eql false rfl rfl (decide_eq_false hc5) zN (lw_tvn 1 rfl (c_cond_f rfl (wp_seq (wp_plain _ [0, 0] rfl ?_))))
            by_cases hc6 : k = ((6 : Nat) : Int)
            ·
              exact q_eql true rfl rfl (decide_eq_true hc6) zN (lw_tvn 1 rfl (c_cond_t rfl (wp_skip (c_cond_t rfl (wp_seq (wp_plain _ [0] rfl (lw_tvn 1 rfl (wp_ret (b_ret (t_ret (post_ret [2] rfl (.int .i64 ((2 : Nat) : Int)) rfl ⟨y202_0, hE0⟩)))))))))))
            ·
              refine q_eql false rfl rfl (decide_eq_false hc6) zN (lw_tvn 1 rfl (c_cond_f rfl (wp_plain _ [0, 0] rfl ?_)))
              by_cases hc7 : k = ((9 : Nat) : Int)
              ·
                exact q_eql true rfl rfl (decide_eq_true hc7) zN (lw_tvn 1 rfl (c_cond_t rfl (wp_seq (wp_plain _ [0] rfl (lw_tvn 1 rfl (wp_ret (b_ret (t_ret (post_ret [2] rfl (.int .i64 ((2 : Nat) : Int)) rfl ⟨y202_0, hE0⟩)))))))))
              ·
                refine q_eql false rfl rfl (decide_eq_false hc7) zN (lw_tvn 1 rfl (c_cond_f rfl (wp_seq (wp_plain _ [0, 0] rfl ?_))))
                by_cases hc8 : k = ((7 : Nat) : Int)
                ·
                  exact q_eql true rfl rfl (decide_eq_true hc8) zN (lw_tvn 1 rfl (c_cond_t rfl (wp_seq (wp_plain _ [0] rfl (lw_tvn 1 rfl (wp_ret (b_ret (t_ret (post_ret [2] rfl (.int .i64 ((1 : Nat) : Int)) rfl ⟨y202_0, hE0⟩)))))))))
                ·
                  refine q_eql false rfl rfl (decide_eq_false hc8) zN (lw_tvn 1 rfl (c_cond_f rfl (wp_seq (wp_plain _ [0, 0] rfl ?_))))
                  by_cases hc9 : k = ((8 : Nat) : Int)
                  ·
                    exact q_eql true rfl rfl (decide_eq_true hc9) zN (lw_tvn 1 rfl (c_cond_t rfl (wp_seq (wp_plain _ [0] rfl (lw_tvn 1 rfl (wp_ret (b_ret (t_ret (post_ret [2] rfl (.int .i64 ((3 : Nat) : Int)) rfl ⟨y202_0, hE0⟩)))))))))
                  ·
                    exact q_eql false rfl rfl (decide_eq_false hc9) zN (lw_tvn 1 rfl (c_cond_f rfl (wp_skip (wp_seq (wp_plain _ [0] rfl (lw_tvn 1 rfl (wp_ret (post_ret [2] rfl (.int .i64 (-1)) rfl ⟨y202_0, hE0⟩))))))))
def GX (d : Nat) : Prop := ∀ (w : World) (gg gs : Nat) (sv : Value) (cs : List UInt8) (n0 : Nat) (pp : Value) (dp : Nat) (l0 : Int) (pl : Bool) (p : List Fn) (vars funcs : Int) (hgg : gs < gg) (hs : Src w.heap gs sv cs n0) (hB0 : BX w.heap gg [.pointer (some ⟨gs, 0, none⟩), pp, .int .i64 l0, .bool pl]) (hp : RN [gs, gg] (rP (rPr dp)) w.heap pp p) (_hvars : -9223372036854775808 ≤ vars ∧ vars ≤ 9223372036854775807) (_hfuncs : -9223372036854775808 ≤ funcs ∧ funcs ≤ 9223372036854775807) (hv : 0 ≤ vars ∧ vars + ((d : Nat) : Int) ≤ 1000) (hfu : 0 ≤ funcs ∧ funcs ≤ ((p.length : Nat) : Int)) (hpr : GPr p) (hd : d ≤ 8) (hn : n0 + stp d ≤ 1000000000000) (hl : nds d - 1000000 ≤ l0 ∧ l0 ≤ 1000), Calls Tryz.prog 156 #[.pointer (some ⟨gg, 0, none⟩), .int .i64 vars, .int .i64 funcs, .int .i64 ((d : Nat) : Int)] w (fun e w' => ∃ (v : Value) (ex : Ex) (n1 : Nat) (l1 : Int), e = .returned (.agg #[.int .i64 ex.kind, .int .i64 ex.num, .int .i64 ex.pick, .int .i64 ex.count, v]) ∧ Chg [gs, gg] w w' ∧ Src w'.heap gs sv cs n1 ∧ (n0 ≤ n1 ∧ n1 ≤ n0 + (stp d)) ∧ BX w'.heap gg [.pointer (some ⟨gs, 0, none⟩), pp, .int .i64 l1, .bool pl] ∧ Fr (owS 5 (oEx 174 d) 174) w.heap.size w'.heap.size w'.heap v ex.kids ∧ exR ex ∧ GOk p funcs vars pl d l0 l1 ex)
def GC (d : Nat) : Prop := ∀ (w : World) (gg gs : Nat) (sv : Value) (cs : List UInt8) (n0 : Nat) (pp : Value) (dp : Nat) (l0 : Int) (pl : Bool) (p : List Fn) (vars funcs : Int) (hgg : gs < gg) (hs : Src w.heap gs sv cs n0) (hB0 : BX w.heap gg [.pointer (some ⟨gs, 0, none⟩), pp, .int .i64 l0, .bool pl]) (hp : RN [gs, gg] (rP (rPr dp)) w.heap pp p) (_hvars : -9223372036854775808 ≤ vars ∧ vars ≤ 9223372036854775807) (_hfuncs : -9223372036854775808 ≤ funcs ∧ funcs ≤ 9223372036854775807) (hv : 0 ≤ vars ∧ vars + ((d : Nat) : Int) ≤ 1000) (hfu : 0 ≤ funcs ∧ funcs ≤ ((p.length : Nat) : Int)) (hpr : GPr p) (hd : 1 ≤ d ∧ d ≤ 8) (hn : n0 + (20 + 4 * stp (d - 1)) ≤ 1000000000000) (hl : 1 ≤ l0 ∧ l0 ≤ 1000), Calls Tryz.prog 201 #[.pointer (some ⟨gg, 0, none⟩), .int .i64 vars, .int .i64 funcs, .int .i64 ((d : Nat) : Int)] w (fun e w' => ∃ (v : Value) (ex : Ex) (n1 : Nat) (l1 : Int), e = .returned (.agg #[.int .i64 ex.kind, .int .i64 ex.num, .int .i64 ex.pick, .int .i64 ex.count, v]) ∧ Chg [gs, gg] w w' ∧ Src w'.heap gs sv cs n1 ∧ (n0 ≤ n1 ∧ n1 ≤ n0 + (20 + 4 * stp (d - 1))) ∧ BX w'.heap gg [.pointer (some ⟨gs, 0, none⟩), pp, .int .i64 l1, .bool pl] ∧ Fr (owS 5 (oEx 174 d) 174) w.heap.size w'.heap.size w'.heap v ex.kids ∧ exR ex ∧ GOk p funcs vars pl d (l0 + 1) l1 ex)
theorem z201_0 {p : Prop} (h : p := by intro u hu; simp only [List.mem_cons, List.not_mem_nil, or_false] at hu; rcases hu with rfl | rfl | rfl | rfl | rfl <;> first | exact ⟨rfl, rfl⟩) : p := h
theorem c_spec_l02Gen_call (w : World) (gg gs : Nat) (sv : Value) (cs : List UInt8) (n0 : Nat) (pp : Value) (dp : Nat) (l0 : Int) (pl : Bool) (p : List Fn) (vars : Int) (funcs : Int) (d : Nat) (hgg : gs < gg) (hs : Src w.heap gs sv cs n0) (hB0 : BX w.heap gg [.pointer (some ⟨gs, 0, none⟩), pp, .int .i64 l0, .bool pl]) (hp : RN [gs, gg] (rP (rPr dp)) w.heap pp p) (_hvars : -9223372036854775808 ≤ vars ∧ vars ≤ 9223372036854775807) (_hfuncs : -9223372036854775808 ≤ funcs ∧ funcs ≤ 9223372036854775807) (hv : 0 ≤ vars ∧ vars + ((d : Nat) : Int) ≤ 1000) (hfu : 0 ≤ funcs ∧ funcs ≤ ((p.length : Nat) : Int)) (hpr : GPr p) (hd : 1 ≤ d ∧ d ≤ 8) (hn : n0 + (20 + 4 * stp (d - 1)) ≤ 1000000000000) (hl : 1 ≤ l0 ∧ l0 ≤ 1000) (IH : GX (d - 1)) :
    Calls Tryz.prog 201 #[.pointer (some ⟨gg, 0, none⟩), .int .i64 vars, .int .i64 funcs, .int .i64 ((d : Nat) : Int)] w (fun e w' => ∃ (v : Value) (ex : Ex) (n1 : Nat) (l1 : Int), e = .returned (.agg #[.int .i64 ex.kind, .int .i64 ex.num, .int .i64 ex.pick, .int .i64 ex.count, v]) ∧ Chg [gs, gg] w w' ∧ Src w'.heap gs sv cs n1 ∧ (n0 ≤ n1 ∧ n1 ≤ n0 + (20 + 4 * stp (d - 1))) ∧ BX w'.heap gg [.pointer (some ⟨gs, 0, none⟩), pp, .int .i64 l1, .bool pl] ∧ Fr (owS 5 (oEx 174 d) 174) w.heap.size w'.heap.size w'.heap v ex.kids ∧ exR ex ∧ GOk p funcs vars pl d (l0 + 1) l1 ex) := by
  refine calls_mk [.pointer (some ⟨gg, 0, none⟩), .int .i64 vars, .int .i64 funcs, .int .i64 ((d : Nat) : Int)] 89 Tryz.func201 rfl rfl sM ?_
  have hE0 : Chg [gs, gg] w w := Chg.refl [gs, gg] w
  have hgl := hs.lt
  have hgl2 := hB0.lt
  have hst := stp_20 (d - 1)
  have hnd := nds_pos (d - 1)
  have hnl := nds_le (d := d - 1) oM
  have hpl := hpr.len
  refine wp_seq (wp_plain _ [3] rfl ?_)
  have hq2 := hB0.lt
  refine r_allocA (z := .agg #[.int .i64 0, .int .i64 0, .int .i64 0, .int .i64 0, .slice none 0 0]) zr174 zN fun w1 hX1 hz1 hB1 => ?_
  have hzs1 : w.heap.size ≤ w1.heap.size := hX1.size
  have hE1 : Chg [gs, gg] w w1 := hE0.ext hX1
  have hsx1 := hs.ext hX1
  have hB0x1 := hB0.ext hX1
  replace hB1 : BX w1.heap w.heap.size [(.int .i64 0), (.int .i64 0), (.int .i64 0), (.int .i64 0), (.slice none 0 0)] := hB1
  refine lw_nil (wp_seq (wp_seq (wp_plain _ [0, 0] rfl (lw_tv 1 rfl ?_))))
  by_cases hc3 : funcs = ((0 : Nat) : Int)
  ·
    refine q_eql true rfl rfl (decide_eq_true hc3) zN (lw_nil (c_cond_t rfl (wp_seq (wp_plain _ [0, 0, 4, 4] rfl (lw_tv 2 rfl (lw_callE 200 [] [] [(.pointer (some ⟨gg, 0, none⟩)), (.int .i64 vars)] rfl rfl cf200 zN (c_spec_l02Gen_leaf _ gg gs sv cs n0 pp dp l0 pl p (vars) oM hsx1 hB0x1 (hp.chg (good_rP (good_rPr dp)) hE1) _hvars oM oM) ?_))))))
    rintro e4 w4 ⟨x4, n4, rfl, hC4, hs4, hb4, hB4, hr4, hkd4, hG4⟩
    refine ⟨_, rfl, ?_⟩
    have hzs4 : w1.heap.size ≤ w4.heap.size := hC4.size
    have hE4 : Chg [gs, gg] w w4 := hE1.trans hC4
    have hF5 := hB1.chg hC4 (fun hm => by have := mem2 hm; omega)
    refine e_setA (vs := [(.int .i64 x4.kind), (.int .i64 x4.num), (.int .i64 x4.pick), (.int .i64 x4.count), (.slice none 0 0)]) agg174 rfl rfl z201_0 hF5 rfl rfl zN fun w6 hC6 hz6 hB6 => ?_
    replace hB6 : BX w6.heap w.heap.size [(.int .i64 x4.kind), (.int .i64 x4.num), (.int .i64 x4.pick), (.int .i64 x4.count), (.slice none 0 0)] := hB6
    have hzs6 : w4.heap.size ≤ w6.heap.size := hC6.size
    have hE6 : Chg [gs, gg] w w6 := hE4.fresh hC6 (fun c hc => by have := List.mem_singleton.1 hc; omega)
    have hF7 := hs4.chg hC6 (fun c hc => by have := List.mem_singleton.1 hc; omega)
    have hF8 := hB4.chg hC6 (fun hm => by have := List.mem_singleton.1 hm; omega)
    exact lw_nil (wp_ret (t_ret (post_retA (cs := [(.int .i64 x4.kind), (.int .i64 x4.num), (.int .i64 x4.pick), (.int .i64 x4.count), (.slice none 0 0)]) rfl agg174 rfl hB6 rfl ⟨(.slice none 0 0), x4, n4, l0, rfl, hE6, hF7, ⟨by omega, by omega⟩, hF8, (by rw [hkd4]; exact frNilS _ _ _), hr4, (by exact LOk.okc (by assumption) d)⟩)))
  ·
    refine q_eql false rfl rfl (decide_eq_false hc3) zN (lw_nil (c_cond_f rfl (wp_skip (wp_seq (wp_plain _ [0, 0, 0, 2, 0, 4, 0, 3, 4] rfl (lw_tv 1 rfl (q_nil rfl zN (q_fldP (p := (.pointer (some ⟨gg, 0, none⟩))) (b := gg) (o := 0) 0 fd172_0 rfl rfl zN (q_load (p := (padd (.pointer (some ⟨gg, 0, none⟩)) 0)) (.inr rfl) (.pointer (some ⟨gs, 0, none⟩)) one88 rfl (hB0x1.ldp (i := 0) sM) zN (lw_tv 1 rfl ?_))))))))))
    refine lw_callE 80 [] [] [(.pointer (some ⟨gs, 0, none⟩)), (.int .i64 funcs)] rfl rfl cf80 zN (c_spec_l00Src_pick _ gs _ _ _ (funcs) hsx1 oM _hfuncs sD) ?_
    rintro e9 w9 ⟨x9_0, n9, rfl, hC9, hs9, hb9, hp9_0⟩
    refine ⟨_, rfl, ?_⟩
    have hzs9 : w1.heap.size ≤ w9.heap.size := hC9.size
    have hE9 : Chg [gs, gg] w w9 := hE1.trans (hC9.sub sub_gs)
    have hF10 := hB0x1.chg hC9 (fun hm => by have := List.mem_singleton.1 hm; omega)
    have hF11 := hB1.chg hC9 (fun hm => by have := List.mem_singleton.1 hm; omega)
    have hbd12 : ∀ (wq : World), (Instr.build 174 #[(0, (.int .i64 ((10 : Nat) : Int))), (1, (.int .i64 x9_0))]).run Tryz.prog wq = .ok (.agg #[(.int .i64 ((10 : Nat) : Int)), (.int .i64 x9_0), (.int .i64 0), (.int .i64 0), (.slice none 0 0)]) wq := by intro wq; kernel_rfl
    refine q_build (ps := #[(0, (.int .i64 ((10 : Nat) : Int))), (1, (.int .i64 x9_0))]) (.agg #[(.int .i64 ((10 : Nat) : Int)), (.int .i64 x9_0), (.int .i64 0), (.int .i64 0), (.slice none 0 0)]) (by simp only [List.map_toArray, List.map_cons, List.map_nil]; rfl) (fun wq => hbd12  wq) zN ?_
    have hq14 := hF10.lt
    have hq15 := hF11.lt
    refine r_allocA (z := .agg #[.int .i64 0, .int .i64 0, .int .i64 0, .int .i64 0, .slice none 0 0]) zr174 zN fun w13 hX13 hz13 hB13 => ?_
    have hzs13 : w9.heap.size ≤ w13.heap.size := hX13.size
    have hE13 : Chg [gs, gg] w w13 := hE9.ext hX13
    have hs9x13 := hs9.ext hX13
    have hF10x13 := hF10.ext hX13
    have hF11x13 := hF11.ext hX13
    replace hB13 : BX w13.heap w9.heap.size [(.int .i64 0), (.int .i64 0), (.int .i64 0), (.int .i64 0), (.slice none 0 0)] := hB13
    refine e_setA (vs := [(.int .i64 ((10 : Nat) : Int)), (.int .i64 x9_0), (.int .i64 0), (.int .i64 0), (.slice none 0 0)]) agg174 rfl rfl z201_0 hB13 rfl rfl zN fun w16 hC16 hz16 hB16 => ?_
    replace hB16 : BX w16.heap w9.heap.size [(.int .i64 ((10 : Nat) : Int)), (.int .i64 x9_0), (.int .i64 0), (.int .i64 0), (.slice none 0 0)] := hB16
    have hzs16 : w13.heap.size ≤ w16.heap.size := hC16.size
    have hE16 : Chg [gs, gg] w w16 := hE13.fresh hC16 (fun c hc => by have := List.mem_singleton.1 hc; omega)
    have hF17 := hs9x13.chg hC16 (fun c hc => by have := List.mem_singleton.1 hc; omega)
    have hF18 := hF10x13.chg hC16 (fun hm => by have := List.mem_singleton.1 hm; omega)
    have hF19 := hF11x13.chg hC16 (fun hm => by have := List.mem_singleton.1 hm; omega)
    refine lw_nil (wp_seq (wp_draw _ [0, 0, 0, 1, 0, 0, 1, 0, 1, 0, 0] mixed (by kernel_rfl) (lw_tv 1 rfl ?_)))
    have hxk : x9_0 < funcs := by omega
    refine q_nil rfl zN (q_fldP (p := (.pointer (some ⟨gg, 0, none⟩))) (b := gg) (o := 0) 1 fd172_1 rfl rfl zN (q_load (p := (padd (.pointer (some ⟨gg, 0, none⟩)) 1)) (.inl rfl) pp one93 rfl (hF18.ldp (i := 1) sM) zN (q_nilP (hp.isPtr) rfl zN ?_)))
    obtain ⟨cs20, hr20, hl20⟩ := RN.at (good_rPr _) hp
    obtain ⟨ve20, rfl, hx20⟩ := RPr.of hr20
    have hln20 := hx20.lenle
    unfold maxLen at hln20
    refine q_fldL (p := pp) 0 fd26_0 rfl (hl20 _ hE16.drew) zN (q_load (p := (padd pp 0)) (.inl rfl) ve20 one24 rfl ((hl20 _ hE16.drew).ld (i := 0) (by simp [exC, fnC])) zN (q_fldP (p := (.pointer (some ⟨w9.heap.size, 0, none⟩))) (b := w9.heap.size) (o := 0) 1 fd174_1 rfl rfl zN (q_load (p := (padd (.pointer (some ⟨w9.heap.size, 0, none⟩)) 1)) (.inl rfl) (.int .i64 x9_0) one2 rfl (hB16.ldp (i := 1) sM) zN ?_)))
    refine q_idx (v := ve20) ((x9_0).toNat) u24 tiS55 rfl rfl hx20.isSl oM sD zN (lw_tvn 1 rfl (wp_seq (wp_draw _ [0, 0, 0, 1, 0, 0, 0, 1, 0, 4, 0, 4] mixed (by kernel_rfl) ?_)))
    have hou := hpr.outs (x9_0).toNat oM
    have hpa := hpr.par (x9_0).toNat oM
    refine lw_tv 1 rfl (q_nil rfl zN (q_fldP (p := (.pointer (some ⟨gg, 0, none⟩))) (b := gg) (o := 0) 0 fd172_0 rfl rfl zN (q_load (p := (padd (.pointer (some ⟨gg, 0, none⟩)) 0)) (.inl rfl) (.pointer (some ⟨gs, 0, none⟩)) one88 rfl (hF18.ldp (i := 0) sM) zN (lw_tv 1 rfl (q_nilP (RN.isPtr (RN.ptr (good_rFn dp) (by decide) Fn.zero hx20 sD)) rfl zN ?_)))))
    obtain ⟨cs21, hr21, hl21⟩ := hx20.get (good_rFn dp) Fn.zero (k := ((x9_0).toNat)) sD
    obtain ⟨ve21, rfl, hx21⟩ := RF.of hr21
    have hln21 := hx21.rn.lenle
    unfold maxLen at hln21
    refine q_fldL (p := eptr ve20 ((x9_0).toNat) 3) 2 fd55_2 rfl (hl21 _ hE16.drew.drew) zN (q_load (p := (padd (eptr ve20 ((x9_0).toNat) 3) 2)) (.inl rfl) ve21 one53 rfl ((hl21 _ hE16.drew.drew).ld (i := 2) (by simp [exC, fnC])) zN (q_len (v := ve21) u53 rfl hx21.rn.isSl zN ?_))
    refine lw_callE 80 [] [] [(.pointer (some ⟨gs, 0, none⟩)), (.int .i64 ((((p.getD ((x9_0).toNat) Fn.zero).outs).length : Nat) : Int))] rfl rfl cf80 zN (c_spec_l00Src_pick _ gs _ _ _ (((((p.getD ((x9_0).toNat) Fn.zero).outs).length : Nat) : Int)) hF17 oM oM sD) ?_
    rintro e22 w22 ⟨x22_0, n22, rfl, hC22, hs22, hb22, hp22_0⟩
    refine ⟨_, rfl, ?_⟩
    replace hC22 := hC22.of_drew
    replace hC22 := hC22.of_drew
    have hzs22 : w16.heap.size ≤ w22.heap.size := hC22.size
    have hE22 : Chg [gs, gg] w w22 := hE16.trans (hC22.sub sub_gs)
    have hF23 := hF18.chg hC22 (fun hm => by have := List.mem_singleton.1 hm; omega)
    have hF24 := hF19.chg hC22 (fun hm => by have := List.mem_singleton.1 hm; omega)
    have hF25 := hB16.chg hC22 (fun hm => by have := List.mem_singleton.1 hm; omega)
    refine q_fldP (p := (.pointer (some ⟨w9.heap.size, 0, none⟩))) (b := w9.heap.size) (o := 0) 2 fd174_2 rfl rfl zN (e_setB (k := 2) (w := w22) sz2 rfl rfl ⟨rfl, rfl⟩ hF25 sM zN fun w26 hC26 hz26 hB26 => ?_)
    replace hB26 : BX w26.heap w9.heap.size [(.int .i64 ((10 : Nat) : Int)), (.int .i64 x9_0), (.int .i64 x22_0), (.int .i64 0), (.slice none 0 0)] := hB26
    have hzs26 : w22.heap.size ≤ w26.heap.size := hC26.size
    have hE26 : Chg [gs, gg] w w26 := hE22.fresh hC26 (fun c hc => by have := List.mem_singleton.1 hc; omega)
    have hF27 := hs22.chg hC26 (fun c hc => by have := List.mem_singleton.1 hc; omega)
    have hF28 := hF23.chg hC26 (fun hm => by have := List.mem_singleton.1 hm; omega)
    have hF29 := hF24.chg hC26 (fun hm => by have := List.mem_singleton.1 hm; omega)
    refine lw_nil ?_
    refine wp_seq (c_cut (S := Int × Int × Nat) (fun (⟨k, cnt, m1⟩ : Int × Int × Nat) => ([(0, (.pointer (some ⟨gg, 0, none⟩))), (1, (.int .i64 vars)), (2, (.int .i64 funcs)), (3, (.int .i64 ((d : Nat) : Int))), (8, (.pointer (some ⟨w.heap.size, 0, none⟩))), (9, (.pointer (some ⟨w9.heap.size, 0, none⟩))), (10, (eptr ve20 ((x9_0).toNat) 3))] : List (Nat × Value))) (fun (⟨k, cnt, m1⟩ : Int × Int × Nat) (W : World) => Chg [gs, gg] w W ∧ Src W.heap gs sv cs m1 ∧ BX W.heap gg [(.pointer (some ⟨gs, 0, none⟩)), pp, (.int .i64 l0), (.bool pl)] ∧ BX W.heap w.heap.size [(.int .i64 0), (.int .i64 0), (.int .i64 0), (.int .i64 0), (.slice none 0 0)] ∧ BX W.heap w9.heap.size [(.int .i64 k), (.int .i64 x9_0), (.int .i64 x22_0), (.int .i64 cnt), (.slice none 0 0)] ∧ ((k = 10 ∧ cnt = 0) ∨ (k = 11 ∧ (((p.getD (x9_0).toNat Fn.zero).outs.length : Nat) : Int) = (p.getD (x9_0).toNat Fn.zero).params ∧ 0 ≤ cnt ∧ cnt ≤ 8)) ∧ (n0 ≤ m1 ∧ m1 ≤ n0 + 8)) ?_ ?_)
    ·
      refine wp_seq (wp_draw _ [0, 0, 0, 1, 0, 0, 0, 0, 1, 0, 0, 0, 0, 0, 1, 4, 0] mixed (by kernel_rfl) (lw_tv 1 rfl (q_nilP (RN.isPtr (RN.ptr (good_rFn dp) (by decide) Fn.zero hx20 sD)) rfl zN (q_fldL (p := eptr ve20 ((x9_0).toNat) 3) 2 fd55_2 rfl (hl21 _ hE26.drew) zN (q_load (p := (padd (eptr ve20 ((x9_0).toNat) 3) 2)) (.inl rfl) ve21 one53 rfl ((hl21 _ hE26.drew).ld (i := 2) (by simp [exC, fnC])) zN (q_len (v := ve21) u53 rfl hx21.rn.isSl zN ?_))))))
      refine lw_tv 1 rfl (q_nilP (RN.isPtr (RN.ptr (good_rFn dp) (by decide) Fn.zero hx20 sD)) rfl zN (q_fldL (p := eptr ve20 ((x9_0).toNat) 3) 1 fd55_1 rfl (hl21 _ hE26.drew) zN (q_load (p := (padd (eptr ve20 ((x9_0).toNat) 3) 1)) (.inl rfl) (.int .i64 ((p.getD ((x9_0).toNat) Fn.zero).params)) one2 rfl ((hl21 _ hE26.drew).ld (i := 1) (by simp [exC, fnC])) zN ?_)))
      by_cases hc31 : ((((p.getD ((x9_0).toNat) Fn.zero).outs).length : Nat) : Int) = (p.getD ((x9_0).toNat) Fn.zero).params
      ·
        refine q_eql true rfl rfl (decide_eq_true hc31) zN (lw_tv 2 rfl (q_nil rfl (zS (e := 55) rfl rfl rfl) (q_fldP (p := (.pointer (some ⟨gg, 0, none⟩))) (b := gg) (o := 0) 0 fd172_0 rfl rfl (zS (e := 55) rfl rfl rfl) (q_load (p := (padd (.pointer (some ⟨gg, 0, none⟩)) 0)) (.inl rfl) (.pointer (some ⟨gs, 0, none⟩)) one88 rfl (hF28.ldp (i := 0) sM) (zS (e := 55) rfl rfl rfl) ?_))))
        refine lw_callE 143 [] [] [(.pointer (some ⟨gs, 0, none⟩)), (.int .i64 ((2 : Nat) : Int))] rfl rfl cf143 (zS (e := 55) rfl rfl rfl) (c_spec_l00Src_one _ gs _ _ _ (((2 : Nat) : Int)) hF27 oM oM sD) ?_
        rintro e32 w32 ⟨x32_0, n32, rfl, hC32, hs32, hb32, hp32_0⟩
        refine ⟨_, rfl, ?_⟩
        replace hC32 := hC32.of_drew
        have hzs32 : w26.heap.size ≤ w32.heap.size := hC32.size
        have hE32 : Chg [gs, gg] w w32 := hE26.trans (hC32.sub sub_gs)
        have hF33 := hF28.chg hC32 (fun hm => by have := List.mem_singleton.1 hm; omega)
        have hF34 := hF29.chg hC32 (fun hm => by have := List.mem_singleton.1 hm; omega)
        have hF35 := hB26.chg hC32 (fun hm => by have := List.mem_singleton.1 hm; omega)
        refine lw_tvn 1 rfl ?_
        cases hb36 : x32_0
        ·
          exact c_cond_f (by first | rfl | (show Value.bool _ = _; rw [hb36])) (wp_skip ⟨(((10 : Nat) : Int), 0, n32), _, rfl, ⟨rfl, rfl, rfl, rfl, rfl, rfl, rfl, trivial⟩, ⟨hE32, hs32, hF33, hF34, hF35, oM, oM⟩⟩)
        ·
          refine c_cond_t (by first | rfl | (show Value.bool _ = _; rw [hb36])) (wp_seq (wp_plain _ [0, 4] rfl (q_fldP (p := (.pointer (some ⟨w9.heap.size, 0, none⟩))) (b := w9.heap.size) (o := 0) 0 fd174_0 rfl rfl zN (e_setB (k := 0) (w := w32) sz2 rfl rfl ⟨rfl, rfl⟩ hF35 sM zN fun w37 hC37 hz37 hB37 => ?_))))
          replace hB37 : BX w37.heap w9.heap.size [(.int .i64 ((11 : Nat) : Int)), (.int .i64 x9_0), (.int .i64 x22_0), (.int .i64 0), (.slice none 0 0)] := hB37
          have hzs37 : w32.heap.size ≤ w37.heap.size := hC37.size
          have hE37 : Chg [gs, gg] w w37 := hE32.fresh hC37 (fun c hc => by have := List.mem_singleton.1 hc; omega)
          have hF38 := hs32.chg hC37 (fun c hc => by have := List.mem_singleton.1 hc; omega)
          have hF39 := hF33.chg hC37 (fun hm => by have := List.mem_singleton.1 hm; omega)
          have hF40 := hF34.chg hC37 (fun hm => by have := List.mem_singleton.1 hm; omega)
          refine lw_nil (wp_plain _ [0, 0, 0, 2, 4, 0, 4] rfl (lw_tv 1 rfl (q_nil rfl zN (q_fldP (p := (.pointer (some ⟨gg, 0, none⟩))) (b := gg) (o := 0) 0 fd172_0 rfl rfl zN (q_load (p := (padd (.pointer (some ⟨gg, 0, none⟩)) 0)) (.inr rfl) (.pointer (some ⟨gs, 0, none⟩)) one88 rfl (hF39.ldp (i := 0) sM) zN ?_)))))
          refine lw_callE 80 [] [] [(.pointer (some ⟨gs, 0, none⟩)), (.int .i64 ((4 : Nat) : Int))] rfl rfl cf80 zN (c_spec_l00Src_pick _ gs _ _ _ (((4 : Nat) : Int)) hF38 oM oM sD) ?_
          rintro e41 w41 ⟨x41_0, n41, rfl, hC41, hs41, hb41, hp41_0⟩
          refine ⟨_, rfl, ?_⟩
          have hzs41 : w37.heap.size ≤ w41.heap.size := hC41.size
          have hE41 : Chg [gs, gg] w w41 := hE37.trans (hC41.sub sub_gs)
          have hF42 := hF39.chg hC41 (fun hm => by have := List.mem_singleton.1 hm; omega)
          have hF43 := hF40.chg hC41 (fun hm => by have := List.mem_singleton.1 hm; omega)
          have hF44 := hB37.chg hC41 (fun hm => by have := List.mem_singleton.1 hm; omega)
          refine q_fldP (p := (.pointer (some ⟨w9.heap.size, 0, none⟩))) (b := w9.heap.size) (o := 0) 3 fd174_3 rfl rfl zN (e_setB (k := 3) (w := w41) sz2 rfl rfl ⟨rfl, rfl⟩ hF44 sM zN fun w45 hC45 hz45 hB45 => ?_)
          replace hB45 : BX w45.heap w9.heap.size [(.int .i64 ((11 : Nat) : Int)), (.int .i64 x9_0), (.int .i64 x22_0), (.int .i64 x41_0), (.slice none 0 0)] := hB45
          have hzs45 : w41.heap.size ≤ w45.heap.size := hC45.size
          have hE45 : Chg [gs, gg] w w45 := hE41.fresh hC45 (fun c hc => by have := List.mem_singleton.1 hc; omega)
          have hF46 := hs41.chg hC45 (fun c hc => by have := List.mem_singleton.1 hc; omega)
          have hF47 := hF42.chg hC45 (fun hm => by have := List.mem_singleton.1 hm; omega)
          have hF48 := hF43.chg hC45 (fun hm => by have := List.mem_singleton.1 hm; omega)
          exact lw_nil ⟨(((11 : Nat) : Int), x41_0, n41), _, rfl, ⟨rfl, rfl, rfl, rfl, rfl, rfl, rfl, trivial⟩, ⟨hE45, hF46, hF47, hF48, hB45, oM, oM⟩⟩
      ·
        exact q_eql false rfl rfl (decide_eq_false hc31) zN (lw_tvn 7 rfl (c_cond_f rfl (wp_skip ⟨(((10 : Nat) : Int), 0, n22), _, rfl, ⟨rfl, rfl, rfl, rfl, rfl, rfl, rfl, trivial⟩, ⟨hE26.drew, hF27, hF28, hF29, hB26, oM, oM⟩⟩)))
    ·
      clear hE0 hz1 hX1 hzs1 hE1 hC9 hzs9 hE9 hF10 hF11 hz13 hX13 hzs13 hE13 hF10x13 hF11x13 hz16 hC16 hzs16 hE16 hF17 hF18 hF19 hln20 hln21 hC22 hzs22 hE22 hF23 hF24 hF25 hz26 hC26 hzs26 hE26 hF27 hF28 hF29
      rintro ⟨k, cnt, m1⟩ ρ30 w30 ⟨hE30, hL30_0, hL30_1, hL30_2, hL30_3, hkc, hm8⟩
      have hzs30 : w.heap.size ≤ w30.heap.size := hE30.size
      have hq49 := hL30_1.lt
      have hq50 := hL30_2.lt
      have hq51 := hL30_3.lt
      refine wp_seq (wp_seq (wp_plain _ [0] rfl (lw_tvn 1 rfl (wp_block ?_))))
      refine c_loop (S := Nat × Int × Nat × Value × List Ex) (fun (⟨i, l, m, vk, xs⟩ : Nat × Int × Nat × Value × List Ex) => ([(11, (.int .i64 ((i : Nat) : Int))), (0, (.pointer (some ⟨gg, 0, none⟩))), (1, (.int .i64 vars)), (2, (.int .i64 funcs)), (3, (.int .i64 ((d : Nat) : Int))), (8, (.pointer (some ⟨w.heap.size, 0, none⟩))), (9, (.pointer (some ⟨w9.heap.size, 0, none⟩))), (10, (eptr ve20 ((x9_0).toNat) 3))] : List (Nat × Value))) (fun (⟨i, l, m, vk, xs⟩ : Nat × Int × Nat × Value × List Ex) (W : World) => Chg [gs, gg] w W ∧ Fr (owS 5 (oEx 174 d) 174) w30.heap.size W.heap.size W.heap vk xs ∧ Src W.heap gs sv cs m ∧ BX W.heap gg [(.pointer (some ⟨gs, 0, none⟩)), pp, (.int .i64 l), (.bool pl)] ∧ BX W.heap w.heap.size [(.int .i64 0), (.int .i64 0), (.int .i64 0), (.int .i64 0), (.slice none 0 0)] ∧ BX W.heap w9.heap.size [(.int .i64 k), (.int .i64 x9_0), (.int .i64 x22_0), (.int .i64 cnt), vk] ∧ ((i : Nat) : Int) ≤ (p.getD (x9_0).toNat Fn.zero).params ∧ KOk p funcs vars pl k d l0 l xs i ∧ (n0 ≤ m ∧ m ≤ n0 + 8 + tmN i (stp (d - 1))) ∧ gg < w30.heap.size ∧ w.heap.size < w30.heap.size ∧ w9.heap.size < w30.heap.size ∧ w30.heap.size ≤ W.heap.size) (fun (⟨i, l, m, vk, xs⟩ : Nat × Int × Nat × Value × List Ex) => (p.getD (x9_0).toNat Fn.zero).params.toNat - i) (0, l0, m1, (.slice none 0 0), ([] : List Ex)) ⟨rfl, rfl, rfl, rfl, rfl, rfl, rfl, rfl, trivial⟩ ⟨hE30, (frNilS _ 0 _).up (good_owS (good_oEx 174 d)), hL30_0, hL30_1, hL30_2, hL30_3, oM, (by exact KOk.nil ..), (by exact ⟨by omega, by show _ ≤ n0 + 8 + 0; omega⟩), oM, oM, oM, oM⟩ ?_
      clear hL30_3 hL30_2 hL30_1 hL30_0
      rintro ⟨i, l, m, vk, xs⟩ ρ55 w55 ⟨hE55, hL55_0, hL55_1, hL55_2, hL55_3, hL55_4, hi4, hko, hmb, hkg52, hkg53, hkg54, hkB56⟩
      have hzs55 : w.heap.size ≤ w55.heap.size := hE55.size
      have hq57 := hL55_2.lt
      have hq58 := hL55_3.lt
      have hq59 := hL55_4.lt
      refine wp_seq (wp_seq (wp_plain _ [0, 0, 0, 0, 2, 0] rfl (lw_tv 2 rfl (q_nilP (RN.isPtr (RN.ptr (good_rFn dp) (by decide) Fn.zero hx20 sD)) rfl zN (q_fldL (p := eptr ve20 ((x9_0).toNat) 3) 1 fd55_1 rfl (hl21 _ hE55) zN (q_load (p := (padd (eptr ve20 ((x9_0).toNat) 3) 1)) (.inr rfl) (.int .i64 ((p.getD ((x9_0).toNat) Fn.zero).params)) one2 rfl ((hl21 _ hE55).ld (i := 1) (by simp [exC, fnC])) zN ?_))))))
      by_cases hc60 : ((i : Nat) : Int) < (p.getD ((x9_0).toNat) Fn.zero).params
      ·
        refine q_lss true rfl rfl (decide_eq_true hc60) zN (lw_nil (c_cond_t rfl (wp_skip (wp_seq (wp_block ?_)))))
        letI : JR := jrC [gs, gg]
        refine Jx.wp_draw _ [0, 1, 0, 0, 0, 0, 0, 3, 3, 4, 0, 4] mixed (by kernel_rfl) ?_
        have htn := tmN_4 (k := stp (d - 1)) (i := i + 1) oM
        have hts : tmN (i + 1) (stp (d - 1)) = tmN i (stp (d - 1)) + stp (d - 1) := rfl
        have hti := tmI_4 (k := nds (d - 1)) (i := i) oM oM
        have hlo := hko.lo
        have hln := hko.len
        refine Jx.q_fldP (p := (.pointer (some ⟨w9.heap.size, 0, none⟩))) (b := w9.heap.size) (o := 0) 4 fd174_4 rfl rfl zN (Jx.q_loadJ (p := (padd (.pointer (some ⟨w9.heap.size, 0, none⟩)) 4)) vk one53 rfl (fun wj hj => (BX.chg (w := w55.drew) (F := [gs, gg]) hL55_4 hj (fun hm => by have := mem2 hm; omega)).ldp (i := 4) sM) zN (Jx.q_move (.pointer (some ⟨gg, 0, none⟩)) rfl zN (Jx.q_move (.int .i64 vars) rfl zN (Jx.q_move (.int .i64 funcs) rfl zN (Jx.q_move (.int .i64 ((d : Nat) : Int)) rfl zN (Jx.j1 (q_sub ((d - 1 : Nat) : Int) rfl rfl (by rw [w64 oM oM]; omega) zN (lw_nil ?_))))))))
        refine Jx.lw_call 156 [] [] [(.pointer (some ⟨gg, 0, none⟩)), (.int .i64 vars), (.int .i64 funcs), (.int .i64 ((d - 1 : Nat) : Int))] rfl rfl cf156 zN (IH _ gg gs sv cs m pp dp l pl p (vars) (funcs) oM hL55_1 hL55_2 (hp.chg (good_rP (good_rPr dp)) hE55.drew) _hvars _hfuncs oM oM (by exact hpr) oM oM oM) ?_
        rintro e61 w61 ⟨v61, x61, n61, l61, rfl, hC61, hs61, hb61, hB61, hO61, hr61, hG61⟩
        refine ⟨_, rfl, hC61, ?_⟩
        replace hO61 := hO61.low (B' := w55.heap.size) (Nat.le_refl _)
        replace hC61 := hC61.of_drew
        have hzs61 : w55.heap.size ≤ w61.heap.size := hC61.size
        have hE61 : Chg [gs, gg] w w61 := hE55.trans hC61
        have hF62 := hL55_0.chg ((good_owS (good_oEx 174 d))) hC61 (fun c hc => by have := mem2 hc; omega)
        have hF63 := hL55_3.chg hC61 (fun hm => by have := mem2 hm; omega)
        have hF64 := hL55_4.chg hC61 (fun hm => by have := mem2 hm; omega)
        refine Jx.tail rfl (r_oneS (cs := [(.int .i64 x61.kind), (.int .i64 x61.num), (.int .i64 x61.pick), (.int .i64 x61.count), v61]) (y := x61) (B := w55.heap.size) (good_oEx 174 d) u53 tiS174 rfl (by decide) rfl (FrN.mk1 oM hr61 hO61) oM zN fun v65 w65 hX65 hz65 hO65 => ?_)
        have hzs65 : w61.heap.size ≤ w65.heap.size := hX65.size
        have hE65 : Chg [gs, gg] w w65 := hE61.ext hX65
        have hF62x65 := hF62.ext ((good_owS (good_oEx 174 d))) hX65
        have hs61x65 := hs61.ext hX65
        have hB61x65 := hB61.ext hX65
        have hF63x65 := hF63.ext hX65
        have hF64x65 := hF64.ext hX65
        refine e_appS (v := vk) (a := v65) (good_oEx 174 d) u53 tiS174 rfl (by decide) rfl rfl hF62x65 oM hO65 oM oM oM (by unfold maxLen; omega) zN fun v66 w66 F66 hC66 hF66 hO66 => ?_
        have hzs66 : w65.heap.size ≤ w66.heap.size := hC66.size
        have hE66 : Chg [gs, gg] w w66 := hE65.fresh hC66 (fun c hc => by have := hF66 _ hc; omega)
        have hF67 := hs61x65.chg hC66 (fun c hc => by have := hF66 _ hc; omega)
        have hF68 := hB61x65.chg hC66 (fun hm => by have := hF66 _ hm; omega)
        have hF69 := hF63x65.chg hC66 (fun hm => by have := hF66 _ hm; omega)
        have hF70 := hF64x65.chg hC66 (fun hm => by have := hF66 _ hm; omega)
        refine q_fldP (p := (.pointer (some ⟨w9.heap.size, 0, none⟩))) (b := w9.heap.size) (o := 0) 4 fd174_4 rfl rfl zN (e_setB (k := 4) (w := w66) sz53 rfl rfl (isSl_one hO66.isSlS) hF70 sM zN fun w71 hC71 hz71 hB71 => ?_)
        replace hB71 : BX w71.heap w9.heap.size [(.int .i64 k), (.int .i64 x9_0), (.int .i64 x22_0), (.int .i64 cnt), v66] := hB71
        have hzs71 : w66.heap.size ≤ w71.heap.size := hC71.size
        have hE71 : Chg [gs, gg] w w71 := hE66.fresh hC71 (fun c hc => by have := List.mem_singleton.1 hc; omega)
        have hF72 := hF67.chg hC71 (fun c hc => by have := List.mem_singleton.1 hc; omega)
        have hF73 := hF68.chg hC71 (fun hm => by have := List.mem_singleton.1 hm; omega)
        have hF74 := hF69.chg hC71 (fun hm => by have := List.mem_singleton.1 hm; omega)
        have hF75 := hO66.chg ((good_owS (good_oEx 174 d))) hC71 (fun c hc => by have := List.mem_singleton.1 hc; omega)
        exact lw_nil (wp_plain _ [0, 0, 0] rfl (lw_tv 1 rfl (q_add ((i + 1 : Nat) : Int) rfl rfl (w64n oM oM) zN (lw_tvn 1 rfl ⟨((i + 1), l61, n61, v66, (xs ++ [x61])), _, rfl, ⟨rfl, rfl, rfl, rfl, rfl, rfl, rfl, rfl, trivial⟩, ⟨hE71, hF75.up (good_owS (good_oEx 174 d)), hF72, hF73, hF74, hB71, oM, (by exact hko.snoc oM (by rw [if_neg oM]) (by assumption)), oM, oM, oM, oM, oM⟩, by first | omega | (dsimp only; omega)⟩))))
      ·
        refine q_lss false rfl rfl (decide_eq_false hc60) zN (lw_nil (c_cond_f rfl (wp_exit (t_exit (t_exit (c_exit_here (wp_seq (wp_plain _ [2, 4] rfl (q_loadA (p := (.pointer (some ⟨w9.heap.size, 0, none⟩))) (.inr rfl) [(.int .i64 k), (.int .i64 x9_0), (.int .i64 x22_0), (.int .i64 cnt), vk] agg174 rfl (fun wq9 hw9 => LD.of_box (BX.ext (w := w55) hL55_4 hw9)) rfl zN (e_setA (vs := [(.int .i64 k), (.int .i64 x9_0), (.int .i64 x22_0), (.int .i64 cnt), vk]) agg174 rfl rfl (by intro u hu; simp only [List.mem_cons, List.not_mem_nil, or_false] at hu; rcases hu with rfl | rfl | rfl | rfl | rfl <;> first | exact ⟨rfl, rfl⟩ | exact isSl_one hL55_0.isSlS) hL55_3 rfl rfl zN fun w76 hC76 hz76 hB76 => ?_))))))))))
        replace hB76 : BX w76.heap w.heap.size [(.int .i64 k), (.int .i64 x9_0), (.int .i64 x22_0), (.int .i64 cnt), vk] := hB76
        have hzs76 : w55.heap.size ≤ w76.heap.size := hC76.size
        have hE76 : Chg [gs, gg] w w76 := hE55.fresh hC76 (fun c hc => by have := List.mem_singleton.1 hc; omega)
        have hF77 := hL55_0.chg ((good_owS (good_oEx 174 d))) hC76 (fun c hc => by have := List.mem_singleton.1 hc; omega)
        have hF78 := hL55_1.chg hC76 (fun c hc => by have := List.mem_singleton.1 hc; omega)
        have hF79 := hL55_2.chg hC76 (fun hm => by have := List.mem_singleton.1 hm; omega)
        have hF80 := hL55_4.chg hC76 (fun hm => by have := List.mem_singleton.1 hm; omega)
        refine lw_nil (wp_ret ?_)
        have hln := hko.len
        have htn := tmN_4 (k := stp (d - 1)) (i := i) oM
        exact post_retA (cs := [(.int .i64 k), (.int .i64 x9_0), (.int .i64 x22_0), (.int .i64 cnt), vk]) rfl agg174 rfl hB76 rfl ⟨vk, (.mk k x9_0 x22_0 cnt xs), m, l, rfl, hE76, hF78, ⟨by omega, by omega⟩, hF79, ((hF77.up (good_owS (good_oEx 174 d))).low (B' := w.heap.size) oM), (exR_mk oM oM oM oM), (by exact hko.node1 oM oM oM (fun _ => by omega) (wfN_cl hkc oM oM oM))⟩
theorem z156_0 {p : Prop} (h : p := by intro u hu; simp only [List.mem_cons, List.not_mem_nil, or_false] at hu; rcases hu with rfl | rfl | rfl | rfl | rfl <;> first | exact ⟨rfl, rfl⟩) : p := h
theorem z156_1 {p : Prop} (h : p := by exact hko.snoc oM (by first | rw [if_pos oM] | rw [if_neg oM]) (by assumption)) : p := h
theorem z156_2 {p : Prop} (h : p := by intro hpl; first | omega | (simp_all; omega) | simp_all) : p := h
theorem c_spec_l02Gen_expr (w : World) (gg gs : Nat) (sv : Value) (cs : List UInt8) (n0 : Nat) (pp : Value) (dp : Nat) (l0 : Int) (pl : Bool) (p : List Fn) (vars : Int) (funcs : Int) (d : Nat) (hgg : gs < gg) (hs : Src w.heap gs sv cs n0) (hB0 : BX w.heap gg [.pointer (some ⟨gs, 0, none⟩), pp, .int .i64 l0, .bool pl]) (hp : RN [gs, gg] (rP (rPr dp)) w.heap pp p) (_hvars : -9223372036854775808 ≤ vars ∧ vars ≤ 9223372036854775807) (_hfuncs : -9223372036854775808 ≤ funcs ∧ funcs ≤ 9223372036854775807) (hv : 0 ≤ vars ∧ vars + ((d : Nat) : Int) ≤ 1000) (hfu : 0 ≤ funcs ∧ funcs ≤ ((p.length : Nat) : Int)) (hpr : GPr p) (hd : d ≤ 8) (hn : n0 + stp d ≤ 1000000000000) (hl : nds d - 1000000 ≤ l0 ∧ l0 ≤ 1000) (IH1 : ∀ d', d' < d → GX d') (IH2 : 1 ≤ d → GC d) :
    Calls Tryz.prog 156 #[.pointer (some ⟨gg, 0, none⟩), .int .i64 vars, .int .i64 funcs, .int .i64 ((d : Nat) : Int)] w (fun e w' => ∃ (v : Value) (ex : Ex) (n1 : Nat) (l1 : Int), e = .returned (.agg #[.int .i64 ex.kind, .int .i64 ex.num, .int .i64 ex.pick, .int .i64 ex.count, v]) ∧ Chg [gs, gg] w w' ∧ Src w'.heap gs sv cs n1 ∧ (n0 ≤ n1 ∧ n1 ≤ n0 + (stp d)) ∧ BX w'.heap gg [.pointer (some ⟨gs, 0, none⟩), pp, .int .i64 l1, .bool pl] ∧ Fr (owS 5 (oEx 174 d) 174) w.heap.size w'.heap.size w'.heap v ex.kids ∧ exR ex ∧ GOk p funcs vars pl d l0 l1 ex) := by
  refine calls_mk [.pointer (some ⟨gg, 0, none⟩), .int .i64 vars, .int .i64 funcs, .int .i64 ((d : Nat) : Int)] 117 Tryz.func156 rfl rfl sM ?_
  have hE0 : Chg [gs, gg] w w := Chg.refl [gs, gg] w
  have hgl := hs.lt
  have hgl2 := hB0.lt
  have hst := stp_20 d
  have hnd := nds_pos d
  have hnl := nds_le (d := d) oM
  refine wp_seq (wp_plain _ [3] rfl ?_)
  have hq2 := hB0.lt
  refine r_allocA (z := .agg #[.int .i64 0, .int .i64 0, .int .i64 0, .int .i64 0, .slice none 0 0]) zr174 zN fun w1 hX1 hz1 hB1 => ?_
  have hzs1 : w.heap.size ≤ w1.heap.size := hX1.size
  have hE1 : Chg [gs, gg] w w1 := hE0.ext hX1
  have hsx1 := hs.ext hX1
  have hB0x1 := hB0.ext hX1
  replace hB1 : BX w1.heap w.heap.size [(.int .i64 0), (.int .i64 0), (.int .i64 0), (.int .i64 0), (.slice none 0 0)] := hB1
  refine lw_nil (wp_seq (wp_plain _ [0, 0, 0, 2, 0, 0, 0, 4] rfl (lw_tv 1 rfl (q_nil rfl zN (q_fldP (p := (.pointer (some ⟨gg, 0, none⟩))) (b := gg) (o := 0) 2 fd172_2 rfl rfl zN (q_load (p := (padd (.pointer (some ⟨gg, 0, none⟩)) 2)) (.inr rfl) (.int .i64 l0) one2 rfl (hB0x1.ldp (i := 2) sM) zN ?_))))))
  refine q_sub (l0 - ((1 : Nat) : Int)) rfl rfl (w64 sD sD) zN (q_nil rfl zN ?_)
  refine q_fldP (p := (.pointer (some ⟨gg, 0, none⟩))) (b := gg) (o := 0) 2 fd172_2 rfl rfl zN (e_setB (k := 2) (w := w1) sz2 rfl rfl ⟨rfl, rfl⟩ hB0x1 sM zN fun w3 hC3 hz3 hB3 => ?_)
  replace hB3 : BX w3.heap gg [(.pointer (some ⟨gs, 0, none⟩)), pp, (.int .i64 (l0 - ((1 : Nat) : Int))), (.bool pl)] := hB3
  have hzs3 : w1.heap.size ≤ w3.heap.size := hC3.size
  have hE3 : Chg [gs, gg] w w3 := hE1.trans (hC3.sub sub_gg)
  have hF4 := hsx1.chg hC3 (fun c hc => by have := List.mem_singleton.1 hc; omega)
  have hF5 := hB1.chg hC3 (fun hm => by have := List.mem_singleton.1 hm; omega)
  refine lw_nil (wp_seq (wp_seq (wp_plain _ [0, 0, 0, 2, 0, 0, 0, 0, 0, 0, 0, 0, 0, 2, 4, 0] rfl (lw_tv 1 rfl (q_nil rfl zN (q_fldP (p := (.pointer (some ⟨gg, 0, none⟩))) (b := gg) (o := 0) 2 fd172_2 rfl rfl zN (q_load (p := (padd (.pointer (some ⟨gg, 0, none⟩)) 2)) (.inr rfl) (.int .i64 (l0 - ((1 : Nat) : Int))) one2 rfl (hB3.ldp (i := 2) sM) zN ?_)))))))
  by_cases hc6 : l0 - ((1 : Nat) : Int) < ((1 : Nat) : Int)
  ·
    refine q_lss true rfl rfl (decide_eq_true hc6) zN (lw_tvn 11 rfl (c_cond_t rfl (wp_seq (wp_plain _ [0, 0, 4, 4] rfl (lw_tv 2 rfl (lw_callE 200 [] [] [(.pointer (some ⟨gg, 0, none⟩)), (.int .i64 vars)] rfl rfl cf200 zN (c_spec_l02Gen_leaf _ gg gs sv cs n0 pp dp (l0 - ((1 : Nat) : Int)) pl p (vars) oM hF4 hB3 (hp.chg (good_rP (good_rPr dp)) hE3) _hvars oM oM) ?_))))))
    rintro e7 w7 ⟨x7, n7, rfl, hC7, hs7, hb7, hB7, hr7, hkd7, hG7⟩
    refine ⟨_, rfl, ?_⟩
    have hzs7 : w3.heap.size ≤ w7.heap.size := hC7.size
    have hE7 : Chg [gs, gg] w w7 := hE3.trans hC7
    have hF8 := hF5.chg hC7 (fun hm => by have := mem2 hm; omega)
    refine e_setA (vs := [(.int .i64 x7.kind), (.int .i64 x7.num), (.int .i64 x7.pick), (.int .i64 x7.count), (.slice none 0 0)]) agg174 rfl rfl z156_0 hF8 rfl rfl zN fun w9 hC9 hz9 hB9 => ?_
    replace hB9 : BX w9.heap w.heap.size [(.int .i64 x7.kind), (.int .i64 x7.num), (.int .i64 x7.pick), (.int .i64 x7.count), (.slice none 0 0)] := hB9
    have hzs9 : w7.heap.size ≤ w9.heap.size := hC9.size
    have hE9 : Chg [gs, gg] w w9 := hE7.fresh hC9 (fun c hc => by have := List.mem_singleton.1 hc; omega)
    have hF10 := hs7.chg hC9 (fun c hc => by have := List.mem_singleton.1 hc; omega)
    have hF11 := hB7.chg hC9 (fun hm => by have := List.mem_singleton.1 hm; omega)
    exact lw_nil (wp_ret (t_ret (post_retA (cs := [(.int .i64 x7.kind), (.int .i64 x7.num), (.int .i64 x7.pick), (.int .i64 x7.count), (.slice none 0 0)]) rfl agg174 rfl hB9 rfl ⟨(.slice none 0 0), x7, n7, (l0 - ((1 : Nat) : Int)), rfl, hE9, hF10, ⟨by omega, by omega⟩, hF11, (by rw [hkd7]; exact frNilS _ _ _), hr7, (by exact LOk.ok (by assumption) d)⟩)))
  ·
    refine q_lss false rfl rfl (decide_eq_false hc6) zN (lw_tv 2 rfl ?_)
    by_cases hc12 : ((d : Nat) : Int) < ((1 : Nat) : Int)
    ·
      refine q_lss true rfl rfl (decide_eq_true hc12) (zS (e := 24) rfl rfl rfl) (lw_tvn 8 rfl (c_cond_t rfl (wp_seq (wp_plain _ [0, 0, 4, 4] rfl (lw_tv 2 rfl (lw_callE 200 [] [] [(.pointer (some ⟨gg, 0, none⟩)), (.int .i64 vars)] rfl rfl cf200 zN (c_spec_l02Gen_leaf _ gg gs sv cs n0 pp dp (l0 - ((1 : Nat) : Int)) pl p (vars) oM hF4 hB3 (hp.chg (good_rP (good_rPr dp)) hE3) _hvars oM oM) ?_))))))
      rintro e13 w13 ⟨x13, n13, rfl, hC13, hs13, hb13, hB13, hr13, hkd13, hG13⟩
      refine ⟨_, rfl, ?_⟩
      have hzs13 : w3.heap.size ≤ w13.heap.size := hC13.size
      have hE13 : Chg [gs, gg] w w13 := hE3.trans hC13
      have hF14 := hF5.chg hC13 (fun hm => by have := mem2 hm; omega)
      refine e_setA (vs := [(.int .i64 x13.kind), (.int .i64 x13.num), (.int .i64 x13.pick), (.int .i64 x13.count), (.slice none 0 0)]) agg174 rfl rfl z156_0 hF14 rfl rfl zN fun w15 hC15 hz15 hB15 => ?_
      replace hB15 : BX w15.heap w.heap.size [(.int .i64 x13.kind), (.int .i64 x13.num), (.int .i64 x13.pick), (.int .i64 x13.count), (.slice none 0 0)] := hB15
      have hzs15 : w13.heap.size ≤ w15.heap.size := hC15.size
      have hE15 : Chg [gs, gg] w w15 := hE13.fresh hC15 (fun c hc => by have := List.mem_singleton.1 hc; omega)
      have hF16 := hs13.chg hC15 (fun c hc => by have := List.mem_singleton.1 hc; omega)
      have hF17 := hB13.chg hC15 (fun hm => by have := List.mem_singleton.1 hm; omega)
      exact lw_nil (wp_ret (t_ret (post_retA (cs := [(.int .i64 x13.kind), (.int .i64 x13.num), (.int .i64 x13.pick), (.int .i64 x13.count), (.slice none 0 0)]) rfl agg174 rfl hB15 rfl ⟨(.slice none 0 0), x13, n13, (l0 - ((1 : Nat) : Int)), rfl, hE15, hF16, ⟨by omega, by omega⟩, hF17, (by rw [hkd13]; exact frNilS _ _ _), hr13, (by exact LOk.ok (by assumption) d)⟩)))
    ·
      refine q_lss false rfl rfl (decide_eq_false hc12) (zS (e := 24) rfl rfl rfl) (lw_tv 3 rfl (q_nil rfl (zS (e := 28) rfl rfl rfl) (q_fldP (p := (.pointer (some ⟨gg, 0, none⟩))) (b := gg) (o := 0) 0 fd172_0 rfl rfl (zS (e := 28) rfl rfl rfl) (q_load (p := (padd (.pointer (some ⟨gg, 0, none⟩)) 0)) (.inr rfl) (.pointer (some ⟨gs, 0, none⟩)) one88 rfl (hB3.ldp (i := 0) sM) (zS (e := 28) rfl rfl rfl) ?_))))
      refine lw_callE 143 [] [] [(.pointer (some ⟨gs, 0, none⟩)), (.int .i64 ((5 : Nat) : Int))] rfl rfl cf143 (zS (e := 28) rfl rfl rfl) (c_spec_l00Src_one _ gs _ _ _ (((5 : Nat) : Int)) hF4 oM oM sD) ?_
      rintro e18 w18 ⟨x18_0, n18, rfl, hC18, hs18, hb18, hp18_0⟩
      refine ⟨_, rfl, ?_⟩
      have hzs18 : w3.heap.size ≤ w18.heap.size := hC18.size
      have hE18 : Chg [gs, gg] w w18 := hE3.trans (hC18.sub sub_gs)
      have hF19 := hB3.chg hC18 (fun hm => by have := List.mem_singleton.1 hm; omega)
      have hF20 := hF5.chg hC18 (fun hm => by have := List.mem_singleton.1 hm; omega)
      refine lw_tvn 1 rfl ?_
      cases hb21 : x18_0
      ·
        refine c_cond_f (by first | rfl | (show Value.bool _ = _; rw [hb21])) (wp_skip (wp_seq (wp_plain _ [0, 3, 4] rfl ?_)))
        have hnds := nds_s (d := d) oM
        have hstp := stp_s (d := d) oM
        have hst1 := stp_20 (d - 1)
        have hnd1 := nds_pos (d - 1)
        have hbd22 : ∀ (wq : World), (Instr.build 174 #[]).run Tryz.prog wq = .ok (.agg #[(.int .i64 0), (.int .i64 0), (.int .i64 0), (.int .i64 0), (.slice none 0 0)]) wq := by intro wq; kernel_rfl
        refine q_build (ps := #[]) (.agg #[(.int .i64 0), (.int .i64 0), (.int .i64 0), (.int .i64 0), (.slice none 0 0)]) (by simp only [List.map_toArray, List.map_cons, List.map_nil]) (fun wq => hbd22  wq) zN ?_
        have hq24 := hF19.lt
        have hq25 := hF20.lt
        refine r_allocA (z := .agg #[.int .i64 0, .int .i64 0, .int .i64 0, .int .i64 0, .slice none 0 0]) zr174 zN fun w23 hX23 hz23 hB23 => ?_
        have hzs23 : w18.heap.size ≤ w23.heap.size := hX23.size
        have hE23 : Chg [gs, gg] w w23 := hE18.ext hX23
        have hs18x23 := hs18.ext hX23
        have hF19x23 := hF19.ext hX23
        have hF20x23 := hF20.ext hX23
        replace hB23 : BX w23.heap w18.heap.size [(.int .i64 0), (.int .i64 0), (.int .i64 0), (.int .i64 0), (.slice none 0 0)] := hB23
        refine e_setA (vs := [(.int .i64 0), (.int .i64 0), (.int .i64 0), (.int .i64 0), (.slice none 0 0)]) agg174 rfl rfl z156_0 hB23 rfl rfl zN fun w26 hC26 hz26 hB26 => ?_
        replace hB26 : BX w26.heap w18.heap.size [(.int .i64 0), (.int .i64 0), (.int .i64 0), (.int .i64 0), (.slice none 0 0)] := hB26
        have hzs26 : w23.heap.size ≤ w26.heap.size := hC26.size
        have hE26 : Chg [gs, gg] w w26 := hE23.fresh hC26 (fun c hc => by have := List.mem_singleton.1 hc; omega)
        have hF27 := hs18x23.chg hC26 (fun c hc => by have := List.mem_singleton.1 hc; omega)
        have hF28 := hF19x23.chg hC26 (fun hm => by have := List.mem_singleton.1 hm; omega)
        have hF29 := hF20x23.chg hC26 (fun hm => by have := List.mem_singleton.1 hm; omega)
        refine lw_nil (wp_seq (c_cut (S := Int × Nat) (fun (⟨k, m1⟩ : Int × Nat) => ([(0, (.pointer (some ⟨gg, 0, none⟩))), (1, (.int .i64 vars)), (2, (.int .i64 funcs)), (3, (.int .i64 ((d : Nat) : Int))), (8, (.pointer (some ⟨w.heap.size, 0, none⟩))), (9, (.pointer (some ⟨w18.heap.size, 0, none⟩)))] : List (Nat × Value))) (fun (⟨k, m1⟩ : Int × Nat) (W : World) => Chg [gs, gg] w W ∧ Src W.heap gs sv cs m1 ∧ BX W.heap gg [(.pointer (some ⟨gs, 0, none⟩)), pp, (.int .i64 (l0 - ((1 : Nat) : Int))), (.bool pl)] ∧ BX W.heap w.heap.size [(.int .i64 0), (.int .i64 0), (.int .i64 0), (.int .i64 0), (.slice none 0 0)] ∧ BX W.heap w18.heap.size [(.int .i64 k), (.int .i64 0), (.int .i64 0), (.int .i64 0), (.slice none 0 0)] ∧ (k = 3 ∨ k = 4 ∨ k = 5 ∨ k = 6 ∨ k = 7 ∨ k = 8 ∨ k = 9) ∧ (n0 ≤ m1 ∧ m1 ≤ n0 + 4)) ?_ ?_))
        ·
          refine wp_seq (wp_plain _ [0, 0, 0, 2, 4] rfl (lw_tv 1 rfl (q_nil rfl zN (q_fldP (p := (.pointer (some ⟨gg, 0, none⟩))) (b := gg) (o := 0) 0 fd172_0 rfl rfl zN (q_load (p := (padd (.pointer (some ⟨gg, 0, none⟩)) 0)) (.inr rfl) (.pointer (some ⟨gs, 0, none⟩)) one88 rfl (hF28.ldp (i := 0) sM) zN ?_)))))
          refine lw_callE 80 [] [] [(.pointer (some ⟨gs, 0, none⟩)), (.int .i64 ((12 : Nat) : Int))] rfl rfl cf80 zN (c_spec_l00Src_pick _ gs _ _ _ (((12 : Nat) : Int)) hF27 oM oM sD) ?_
          rintro e31 w31 ⟨x31_0, n31, rfl, hC31, hs31, hb31, hp31_0⟩
          refine ⟨_, rfl, ?_⟩
          have hzs31 : w26.heap.size ≤ w31.heap.size := hC31.size
          have hE31 : Chg [gs, gg] w w31 := hE26.trans (hC31.sub sub_gs)
          have hF32 := hF28.chg hC31 (fun hm => by have := List.mem_singleton.1 hm; omega)
          have hF33 := hF29.chg hC31 (fun hm => by have := List.mem_singleton.1 hm; omega)
          have hF34 := hB26.chg hC31 (fun hm => by have := List.mem_singleton.1 hm; omega)
          refine lw_nil (wp_block (wp_seq (wp_plain _ [0, 0] rfl ?_)))
          by_cases hc35 : x31_0 = ((0 : Nat) : Int)
          ·
            refine q_eql true rfl rfl (decide_eq_true hc35) zN (lw_tvn 1 rfl (c_cond_t rfl (wp_plain _ [0, 4] rfl (q_fldP (p := (.pointer (some ⟨w18.heap.size, 0, none⟩))) (b := w18.heap.size) (o := 0) 0 fd174_0 rfl rfl zN (e_setB (k := 0) (w := w31) sz2 rfl rfl ⟨rfl, rfl⟩ hF34 sM zN fun w36 hC36 hz36 hB36 => ?_)))))
            replace hB36 : BX w36.heap w18.heap.size [(.int .i64 ((7 : Nat) : Int)), (.int .i64 0), (.int .i64 0), (.int .i64 0), (.slice none 0 0)] := hB36
            have hzs36 : w31.heap.size ≤ w36.heap.size := hC36.size
            have hE36 : Chg [gs, gg] w w36 := hE31.fresh hC36 (fun c hc => by have := List.mem_singleton.1 hc; omega)
            have hF37 := hs31.chg hC36 (fun c hc => by have := List.mem_singleton.1 hc; omega)
            have hF38 := hF32.chg hC36 (fun hm => by have := List.mem_singleton.1 hm; omega)
            have hF39 := hF33.chg hC36 (fun hm => by have := List.mem_singleton.1 hm; omega)
            exact lw_nil ⟨(((7 : Nat) : Int), n31), _, rfl, ⟨rfl, rfl, rfl, rfl, rfl, rfl, trivial⟩, ⟨hE36, hF37, hF38, hF39, hB36, oM, oM⟩⟩
          ·
            refine q_eql false rfl rfl (decide_eq_false hc35) zN (lw_tvn 1 rfl (c_cond_f rfl (wp_seq (wp_plain _ [0, 0] rfl ?_))))
            by_cases hc40 : x31_0 = ((1 : Nat) : Int)
            ·
              refine q_eql true rfl rfl (decide_eq_true hc40) zN (lw_tvn 1 rfl (c_cond_t rfl (wp_plain _ [0, 4] rfl (q_fldP (p := (.pointer (some ⟨w18.heap.size, 0, none⟩))) (b := w18.heap.size) (o := 0) 0 fd174_0 rfl rfl zN (e_setB (k := 0) (w := w31) sz2 rfl rfl ⟨rfl, rfl⟩ hF34 sM zN fun w41 hC41 hz41 hB41 => ?_)))))
              replace hB41 : BX w41.heap w18.heap.size [(.int .i64 ((9 : Nat) : Int)), (.int .i64 0), (.int .i64 0), (.int .i64 0), (.slice none 0 0)] := hB41
              have hzs41 : w31.heap.size ≤ w41.heap.size := hC41.size
              have hE41 : Chg [gs, gg] w w41 := hE31.fresh hC41 (fun c hc => by have := List.mem_singleton.1 hc; omega)
              have hF42 := hs31.chg hC41 (fun c hc => by have := List.mem_singleton.1 hc; omega)
              have hF43 := hF32.chg hC41 (fun hm => by have := List.mem_singleton.1 hm; omega)
              have hF44 := hF33.chg hC41 (fun hm => by have := List.mem_singleton.1 hm; omega)
              exact lw_nil ⟨(((9 : Nat) : Int), n31), _, rfl, ⟨rfl, rfl, rfl, rfl, rfl, rfl, trivial⟩, ⟨hE41, hF42, hF43, hF44, hB41, oM, oM⟩⟩
            ·
              refine q_eql false rfl rfl (decide_eq_false hc40) zN (lw_tvn 1 rfl (c_cond_f rfl (wp_seq (wp_plain _ [0, 0] rfl ?_))))
              by_cases hc45 : x31_0 = ((2 : Nat) : Int)
              ·
                refine q_eql true rfl rfl (decide_eq_true hc45) zN (lw_tvn 1 rfl (c_cond_t rfl (wp_plain _ [0, 4] rfl (q_fldP (p := (.pointer (some ⟨w18.heap.size, 0, none⟩))) (b := w18.heap.size) (o := 0) 0 fd174_0 rfl rfl zN (e_setB (k := 0) (w := w31) sz2 rfl rfl ⟨rfl, rfl⟩ hF34 sM zN fun w46 hC46 hz46 hB46 => ?_)))))
                replace hB46 : BX w46.heap w18.heap.size [(.int .i64 ((8 : Nat) : Int)), (.int .i64 0), (.int .i64 0), (.int .i64 0), (.slice none 0 0)] := hB46
                have hzs46 : w31.heap.size ≤ w46.heap.size := hC46.size
                have hE46 : Chg [gs, gg] w w46 := hE31.fresh hC46 (fun c hc => by have := List.mem_singleton.1 hc; omega)
                have hF47 := hs31.chg hC46 (fun c hc => by have := List.mem_singleton.1 hc; omega)
                have hF48 := hF32.chg hC46 (fun hm => by have := List.mem_singleton.1 hm; omega)
                have hF49 := hF33.chg hC46 (fun hm => by have := List.mem_singleton.1 hm; omega)
                exact lw_nil ⟨(((8 : Nat) : Int), n31), _, rfl, ⟨rfl, rfl, rfl, rfl, rfl, rfl, trivial⟩, ⟨hE46, hF47, hF48, hF49, hB46, oM, oM⟩⟩
              ·
                refine q_eql false rfl rfl (decide_eq_false hc45) zN (lw_tvn 1 rfl (c_cond_f rfl (wp_seq (wp_plain _ [0, 0] rfl ?_))))
                by_cases hc50 : x31_0 = ((3 : Nat) : Int)
                ·
                  refine q_eql true rfl rfl (decide_eq_true hc50) zN (lw_tvn 1 rfl (c_cond_t rfl (wp_plain _ [0, 4] rfl (q_fldP (p := (.pointer (some ⟨w18.heap.size, 0, none⟩))) (b := w18.heap.size) (o := 0) 0 fd174_0 rfl rfl zN (e_setB (k := 0) (w := w31) sz2 rfl rfl ⟨rfl, rfl⟩ hF34 sM zN fun w51 hC51 hz51 hB51 => ?_)))))
                  replace hB51 : BX w51.heap w18.heap.size [(.int .i64 ((6 : Nat) : Int)), (.int .i64 0), (.int .i64 0), (.int .i64 0), (.slice none 0 0)] := hB51
                  have hzs51 : w31.heap.size ≤ w51.heap.size := hC51.size
                  have hE51 : Chg [gs, gg] w w51 := hE31.fresh hC51 (fun c hc => by have := List.mem_singleton.1 hc; omega)
                  have hF52 := hs31.chg hC51 (fun c hc => by have := List.mem_singleton.1 hc; omega)
                  have hF53 := hF32.chg hC51 (fun hm => by have := List.mem_singleton.1 hm; omega)
                  have hF54 := hF33.chg hC51 (fun hm => by have := List.mem_singleton.1 hm; omega)
                  exact lw_nil ⟨(((6 : Nat) : Int), n31), _, rfl, ⟨rfl, rfl, rfl, rfl, rfl, rfl, trivial⟩, ⟨hE51, hF52, hF53, hF54, hB51, oM, oM⟩⟩
                ·
                  refine q_eql false rfl rfl (decide_eq_false hc50) zN (lw_tvn 1 rfl (c_cond_f rfl (wp_seq (wp_seq (wp_plain _ [0, 0] rfl ?_)))))
                  by_cases hc55 : x31_0 = ((4 : Nat) : Int)
                  ·
                    refine q_eql true rfl rfl (decide_eq_true hc55) zN (lw_tvn 1 rfl (c_cond_t rfl (wp_skip (c_cond_t rfl (wp_plain _ [0, 4] rfl (q_fldP (p := (.pointer (some ⟨w18.heap.size, 0, none⟩))) (b := w18.heap.size) (o := 0) 0 fd174_0 rfl rfl zN (e_setB (k := 0) (w := w31) sz2 rfl rfl ⟨rfl, rfl⟩ hF34 sM zN fun w56 hC56 hz56 hB56 => ?_)))))))
                    replace hB56 : BX w56.heap w18.heap.size [(.int .i64 ((3 : Nat) : Int)), (.int .i64 0), (.int .i64 0), (.int .i64 0), (.slice none 0 0)] := hB56
                    have hzs56 : w31.heap.size ≤ w56.heap.size := hC56.size
                    have hE56 : Chg [gs, gg] w w56 := hE31.fresh hC56 (fun c hc => by have := List.mem_singleton.1 hc; omega)
                    have hF57 := hs31.chg hC56 (fun c hc => by have := List.mem_singleton.1 hc; omega)
                    have hF58 := hF32.chg hC56 (fun hm => by have := List.mem_singleton.1 hm; omega)
                    have hF59 := hF33.chg hC56 (fun hm => by have := List.mem_singleton.1 hm; omega)
                    exact lw_nil ⟨(((3 : Nat) : Int), n31), _, rfl, ⟨rfl, rfl, rfl, rfl, rfl, rfl, trivial⟩, ⟨hE56, hF57, hF58, hF59, hB56, oM, oM⟩⟩
                  ·
                    refine q_eql false rfl rfl (decide_eq_false hc55) zN (lw_tvn 1 rfl (c_cond_f rfl (wp_plain _ [0, 0] rfl ?_)))
                    by_cases hc60 : x31_0 = ((5 : Nat) : Int)
                    ·
                      refine q_eql true rfl rfl (decide_eq_true hc60) zN (lw_tvn 1 rfl (c_cond_t rfl (wp_plain _ [0, 4] rfl (q_fldP (p := (.pointer (some ⟨w18.heap.size, 0, none⟩))) (b := w18.heap.size) (o := 0) 0 fd174_0 rfl rfl zN (e_setB (k := 0) (w := w31) sz2 rfl rfl ⟨rfl, rfl⟩ hF34 sM zN fun w61 hC61 hz61 hB61 => ?_)))))
                      replace hB61 : BX w61.heap w18.heap.size [(.int .i64 ((3 : Nat) : Int)), (.int .i64 0), (.int .i64 0), (.int .i64 0), (.slice none 0 0)] := hB61
                      have hzs61 : w31.heap.size ≤ w61.heap.size := hC61.size
                      have hE61 : Chg [gs, gg] w w61 := hE31.fresh hC61 (fun c hc => by have := List.mem_singleton.1 hc; omega)
                      have hF62 := hs31.chg hC61 (fun c hc => by have := List.mem_singleton.1 hc; omega)
                      have hF63 := hF32.chg hC61 (fun hm => by have := List.mem_singleton.1 hm; omega)
                      have hF64 := hF33.chg hC61 (fun hm => by have := List.mem_singleton.1 hm; omega)
                      exact lw_nil ⟨(((3 : Nat) : Int), n31), _, rfl, ⟨rfl, rfl, rfl, rfl, rfl, rfl, trivial⟩, ⟨hE61, hF62, hF63, hF64, hB61, oM, oM⟩⟩
                    ·
                      refine q_eql false rfl rfl (decide_eq_false hc60) zN (lw_tvn 1 rfl (c_cond_f rfl (wp_seq (wp_plain _ [0, 0] rfl ?_))))
                      by_cases hc65 : x31_0 = ((6 : Nat) : Int)
                      ·
                        refine q_eql true rfl rfl (decide_eq_true hc65) zN (lw_tvn 1 rfl (c_cond_t rfl (wp_plain _ [0, 4] rfl (q_fldP (p := (.pointer (some ⟨w18.heap.size, 0, none⟩))) (b := w18.heap.size) (o := 0) 0 fd174_0 rfl rfl zN (e_setB (k := 0) (w := w31) sz2 rfl rfl ⟨rfl, rfl⟩ hF34 sM zN fun w66 hC66 hz66 hB66 => ?_)))))
                        replace hB66 : BX w66.heap w18.heap.size [(.int .i64 ((4 : Nat) : Int)), (.int .i64 0), (.int .i64 0), (.int .i64 0), (.slice none 0 0)] := hB66
                        have hzs66 : w31.heap.size ≤ w66.heap.size := hC66.size
                        have hE66 : Chg [gs, gg] w w66 := hE31.fresh hC66 (fun c hc => by have := List.mem_singleton.1 hc; omega)
                        have hF67 := hs31.chg hC66 (fun c hc => by have := List.mem_singleton.1 hc; omega)
                        have hF68 := hF32.chg hC66 (fun hm => by have := List.mem_singleton.1 hm; omega)
                        have hF69 := hF33.chg hC66 (fun hm => by have := List.mem_singleton.1 hm; omega)
                        exact lw_nil ⟨(((4 : Nat) : Int), n31), _, rfl, ⟨rfl, rfl, rfl, rfl, rfl, rfl, trivial⟩, ⟨hE66, hF67, hF68, hF69, hB66, oM, oM⟩⟩
                      ·
                        refine q_eql false rfl rfl (decide_eq_false hc65) zN (lw_tvn 1 rfl (c_cond_f rfl (wp_seq (wp_seq (wp_plain _ [0, 0] rfl ?_)))))
                        by_cases hc70 : x31_0 = ((7 : Nat) : Int)
                        ·
                          refine q_eql true rfl rfl (decide_eq_true hc70) zN (lw_tvn 1 rfl (c_cond_t rfl (wp_skip (c_cond_t rfl (wp_plain _ [0, 4] rfl (q_fldP (p := (.pointer (some ⟨w18.heap.size, 0, none⟩))) (b := w18.heap.size) (o := 0) 0 fd174_0 rfl rfl zN (e_setB (k := 0) (w := w31) sz2 rfl rfl ⟨rfl, rfl⟩ hF34 sM zN fun w71 hC71 hz71 hB71 => ?_)))))))
                          replace hB71 : BX w71.heap w18.heap.size [(.int .i64 ((5 : Nat) : Int)), (.int .i64 0), (.int .i64 0), (.int .i64 0), (.slice none 0 0)] := hB71
                          have hzs71 : w31.heap.size ≤ w71.heap.size := hC71.size
                          have hE71 : Chg [gs, gg] w w71 := hE31.fresh hC71 (fun c hc => by have := List.mem_singleton.1 hc; omega)
                          have hF72 := hs31.chg hC71 (fun c hc => by have := List.mem_singleton.1 hc; omega)
                          have hF73 := hF32.chg hC71 (fun hm => by have := List.mem_singleton.1 hm; omega)
                          have hF74 := hF33.chg hC71 (fun hm => by have := List.mem_singleton.1 hm; omega)
                          exact lw_nil ⟨(((5 : Nat) : Int), n31), _, rfl, ⟨rfl, rfl, rfl, rfl, rfl, rfl, trivial⟩, ⟨hE71, hF72, hF73, hF74, hB71, oM, oM⟩⟩
                        ·
                          refine q_eql false rfl rfl (decide_eq_false hc70) zN (lw_tvn 1 rfl (c_cond_f rfl (wp_seq (wp_plain _ [0, 0] rfl ?_))))
                          by_cases hc75 : x31_0 = ((8 : Nat) : Int)
                          ·
                            refine q_eql true rfl rfl (decide_eq_true hc75) zN (lw_tvn 1 rfl (c_cond_t rfl (wp_skip (c_cond_t rfl (wp_plain _ [0, 4] rfl (q_fldP (p := (.pointer (some ⟨w18.heap.size, 0, none⟩))) (b := w18.heap.size) (o := 0) 0 fd174_0 rfl rfl zN (e_setB (k := 0) (w := w31) sz2 rfl rfl ⟨rfl, rfl⟩ hF34 sM zN fun w76 hC76 hz76 hB76 => ?_)))))))
                            replace hB76 : BX w76.heap w18.heap.size [(.int .i64 ((5 : Nat) : Int)), (.int .i64 0), (.int .i64 0), (.int .i64 0), (.slice none 0 0)] := hB76
                            have hzs76 : w31.heap.size ≤ w76.heap.size := hC76.size
                            have hE76 : Chg [gs, gg] w w76 := hE31.fresh hC76 (fun c hc => by have := List.mem_singleton.1 hc; omega)
                            have hF77 := hs31.chg hC76 (fun c hc => by have := List.mem_singleton.1 hc; omega)
                            have hF78 := hF32.chg hC76 (fun hm => by have := List.mem_singleton.1 hm; omega)
                            have hF79 := hF33.chg hC76 (fun hm => by have := List.mem_singleton.1 hm; omega)
                            exact lw_nil ⟨(((5 : Nat) : Int), n31), _, rfl, ⟨rfl, rfl, rfl, rfl, rfl, rfl, trivial⟩, ⟨hE76, hF77, hF78, hF79, hB76, oM, oM⟩⟩
                          ·
                            refine q_eql false rfl rfl (decide_eq_false hc75) zN (lw_tvn 1 rfl (c_cond_f rfl (wp_plain _ [0, 0] rfl ?_)))
                            by_cases hc80 : x31_0 = ((9 : Nat) : Int)
                            ·
                              refine q_eql true rfl rfl (decide_eq_true hc80) zN (lw_tvn 1 rfl (c_cond_t rfl (wp_plain _ [0, 4] rfl (q_fldP (p := (.pointer (some ⟨w18.heap.size, 0, none⟩))) (b := w18.heap.size) (o := 0) 0 fd174_0 rfl rfl zN (e_setB (k := 0) (w := w31) sz2 rfl rfl ⟨rfl, rfl⟩ hF34 sM zN fun w81 hC81 hz81 hB81 => ?_)))))
                              replace hB81 : BX w81.heap w18.heap.size [(.int .i64 ((5 : Nat) : Int)), (.int .i64 0), (.int .i64 0), (.int .i64 0), (.slice none 0 0)] := hB81
                              have hzs81 : w31.heap.size ≤ w81.heap.size := hC81.size
                              have hE81 : Chg [gs, gg] w w81 := hE31.fresh hC81 (fun c hc => by have := List.mem_singleton.1 hc; omega)
                              have hF82 := hs31.chg hC81 (fun c hc => by have := List.mem_singleton.1 hc; omega)
                              have hF83 := hF32.chg hC81 (fun hm => by have := List.mem_singleton.1 hm; omega)
                              have hF84 := hF33.chg hC81 (fun hm => by have := List.mem_singleton.1 hm; omega)
                              exact lw_nil ⟨(((5 : Nat) : Int), n31), _, rfl, ⟨rfl, rfl, rfl, rfl, rfl, rfl, trivial⟩, ⟨hE81, hF82, hF83, hF84, hB81, oM, oM⟩⟩
                            ·
                              refine q_eql false rfl rfl (decide_eq_false hc80) zN (lw_tvn 1 rfl (c_cond_f rfl (wp_seq (wp_plain _ [0, 0, 0, 0, 4, 4] rfl (lw_tv 4 rfl (lw_callE 201 [] [] [(.pointer (some ⟨gg, 0, none⟩)), (.int .i64 vars), (.int .i64 funcs), (.int .i64 ((d : Nat) : Int))] rfl rfl cf201 zN (IH2 oM _ gg gs sv cs n31 pp dp (l0 - ((1 : Nat) : Int)) pl p (vars) (funcs) oM hs31 hF32 (hp.chg (good_rP (good_rPr dp)) hE31) _hvars _hfuncs oM oM (by exact hpr) oM oM oM) ?_))))))
                              rintro e85 w85 ⟨v85, x85, n85, l85, rfl, hC85, hs85, hb85, hB85, hO85, hr85, hG85⟩
                              refine ⟨_, rfl, ?_⟩
                              have hzs85 : w31.heap.size ≤ w85.heap.size := hC85.size
                              have hE85 : Chg [gs, gg] w w85 := hE31.trans hC85
                              have hF86 := hF33.chg hC85 (fun hm => by have := mem2 hm; omega)
                              have hF87 := hF34.chg hC85 (fun hm => by have := mem2 hm; omega)
                              refine e_setA (vs := [(.int .i64 x85.kind), (.int .i64 x85.num), (.int .i64 x85.pick), (.int .i64 x85.count), v85]) agg174 rfl rfl (by intro u hu; simp only [List.mem_cons, List.not_mem_nil, or_false] at hu; rcases hu with rfl | rfl | rfl | rfl | rfl <;> first | exact ⟨rfl, rfl⟩ | exact isSl_one hO85.isSlS) hF86 rfl rfl zN fun w88 hC88 hz88 hB88 => ?_
                              replace hB88 : BX w88.heap w.heap.size [(.int .i64 x85.kind), (.int .i64 x85.num), (.int .i64 x85.pick), (.int .i64 x85.count), v85] := hB88
                              have hzs88 : w85.heap.size ≤ w88.heap.size := hC88.size
                              have hE88 : Chg [gs, gg] w w88 := hE85.fresh hC88 (fun c hc => by have := List.mem_singleton.1 hc; omega)
                              have hF89 := hs85.chg hC88 (fun c hc => by have := List.mem_singleton.1 hc; omega)
                              have hF90 := hB85.chg hC88 (fun hm => by have := List.mem_singleton.1 hm; omega)
                              have hF91 := hF87.chg hC88 (fun hm => by have := List.mem_singleton.1 hm; omega)
                              have hF92 := hO85.chg ((good_owS (good_oEx 174 d))) hC88 (fun c hc => by have := List.mem_singleton.1 hc; omega)
                              exact lw_nil (wp_ret (b_ret (t_ret (post_retA (cs := [(.int .i64 x85.kind), (.int .i64 x85.num), (.int .i64 x85.pick), (.int .i64 x85.count), v85]) rfl agg174 rfl hB88 rfl ⟨v85, x85, n85, l85, rfl, hE88, hF89, ⟨by omega, by omega⟩, hF90, ((hF92.up (good_owS (good_oEx 174 d))).low (B' := w.heap.size) oM), hr85, (by exact GOk.up1 (by assumption))⟩))))
        ·
          clear hE0 hz1 hX1 hzs1 hE1 hz3 hC3 hzs3 hE3 hF4 hF5 hC18 hzs18 hE18 hF19 hF20 hz23 hX23 hzs23 hE23 hF19x23 hF20x23 hz26 hC26 hzs26 hE26 hF27 hF28 hF29
          rintro ⟨k, m1⟩ ρ30 w30 ⟨hE30, hL30_0, hL30_1, hL30_2, hL30_3, hkk, hm4⟩
          have hzs30 : w.heap.size ≤ w30.heap.size := hE30.size
          have hq93 := hL30_1.lt
          have hq94 := hL30_2.lt
          have hq95 := hL30_3.lt
          refine wp_seq (c_cut (S := Int) (fun (k2 : Int) => ([(0, (.pointer (some ⟨gg, 0, none⟩))), (1, (.int .i64 vars)), (2, (.int .i64 funcs)), (3, (.int .i64 ((d : Nat) : Int))), (8, (.pointer (some ⟨w.heap.size, 0, none⟩))), (9, (.pointer (some ⟨w18.heap.size, 0, none⟩)))] : List (Nat × Value))) (fun (k2 : Int) (W : World) => Chg [gs, gg] w W ∧ Src W.heap gs sv cs m1 ∧ BX W.heap gg [(.pointer (some ⟨gs, 0, none⟩)), pp, (.int .i64 (l0 - ((1 : Nat) : Int))), (.bool pl)] ∧ BX W.heap w.heap.size [(.int .i64 0), (.int .i64 0), (.int .i64 0), (.int .i64 0), (.slice none 0 0)] ∧ BX W.heap w18.heap.size [(.int .i64 k2), (.int .i64 0), (.int .i64 0), (.int .i64 0), (.slice none 0 0)] ∧ (k2 = 3 ∨ k2 = 4 ∨ k2 = 5 ∨ k2 = 6 ∨ k2 = 7 ∨ k2 = 8 ∨ k2 = 9) ∧ (pl = true → k2 ≠ 6 ∧ k2 ≠ 8)) ?_ ?_)
          ·
            refine wp_seq (wp_plain _ [0, 0, 0, 2, 0, 0, 2, 0, 0, 0, 2, 0, 0, 0] rfl (lw_tv 1 rfl (q_nil rfl zN (q_fldP (p := (.pointer (some ⟨gg, 0, none⟩))) (b := gg) (o := 0) 3 fd172_3 rfl rfl zN (q_load (p := (padd (.pointer (some ⟨gg, 0, none⟩)) 3)) (.inr rfl) (.bool (true && pl)) one4 rfl (hL30_1.ldp (i := 3) sM) zN (lw_tv 1 rfl ?_))))))
            cases hb97 : (true && pl)
            ·
              exact lw_tvn 9 rfl (c_cond_f rfl (wp_skip ⟨k, _, rfl, ⟨rfl, rfl, rfl, rfl, rfl, rfl, trivial⟩, ⟨hE30, hL30_0, hL30_1, hL30_2, hL30_3, oM, z156_2⟩⟩))
            ·
              refine q_fldP (p := (.pointer (some ⟨w18.heap.size, 0, none⟩))) (b := w18.heap.size) (o := 0) 0 fd174_0 rfl rfl (zS (e := 77) rfl rfl rfl) (q_load (p := (padd (.pointer (some ⟨w18.heap.size, 0, none⟩)) 0)) (.inr rfl) (.int .i64 k) one2 rfl (hL30_3.ldp (i := 0) sM) (zS (e := 77) rfl rfl rfl) ?_)
              by_cases hc98 : k = ((8 : Nat) : Int)
              ·
                refine q_eql true rfl rfl (decide_eq_true hc98) (zS (e := 77) rfl rfl rfl) (lw_tvn 6 rfl (c_cond_t rfl (wp_plain _ [0, 4] rfl (q_fldP (p := (.pointer (some ⟨w18.heap.size, 0, none⟩))) (b := w18.heap.size) (o := 0) 0 fd174_0 rfl rfl zN (e_setB (k := 0) (w := w30) sz2 rfl rfl ⟨rfl, rfl⟩ hL30_3 sM zN fun w99 hC99 hz99 hB99 => ?_)))))
                replace hB99 : BX w99.heap w18.heap.size [(.int .i64 ((5 : Nat) : Int)), (.int .i64 0), (.int .i64 0), (.int .i64 0), (.slice none 0 0)] := hB99
                have hzs99 : w30.heap.size ≤ w99.heap.size := hC99.size
                have hE99 : Chg [gs, gg] w w99 := hE30.fresh hC99 (fun c hc => by have := List.mem_singleton.1 hc; omega)
                have hF100 := hL30_0.chg hC99 (fun c hc => by have := List.mem_singleton.1 hc; omega)
                have hF101 := hL30_1.chg hC99 (fun hm => by have := List.mem_singleton.1 hm; omega)
                have hF102 := hL30_2.chg hC99 (fun hm => by have := List.mem_singleton.1 hm; omega)
                exact lw_nil ⟨((5 : Nat) : Int), _, rfl, ⟨rfl, rfl, rfl, rfl, rfl, rfl, trivial⟩, ⟨hE99, hF100, hF101, hF102, hB99, oM, z156_2⟩⟩
              ·
                refine q_eql false rfl rfl (decide_eq_false hc98) (zS (e := 77) rfl rfl rfl) (lw_tv 1 rfl (q_fldP (p := (.pointer (some ⟨w18.heap.size, 0, none⟩))) (b := w18.heap.size) (o := 0) 0 fd174_0 rfl rfl (zS (e := 81) rfl rfl rfl) (q_load (p := (padd (.pointer (some ⟨w18.heap.size, 0, none⟩)) 0)) (.inr rfl) (.int .i64 k) one2 rfl (hL30_3.ldp (i := 0) sM) (zS (e := 81) rfl rfl rfl) ?_)))
                by_cases hc103 : k = ((6 : Nat) : Int)
                ·
                  refine q_eql true rfl rfl (decide_eq_true hc103) (zS (e := 81) rfl rfl rfl) (lw_tvn 2 rfl (c_cond_t rfl (wp_plain _ [0, 4] rfl (q_fldP (p := (.pointer (some ⟨w18.heap.size, 0, none⟩))) (b := w18.heap.size) (o := 0) 0 fd174_0 rfl rfl zN (e_setB (k := 0) (w := w30) sz2 rfl rfl ⟨rfl, rfl⟩ hL30_3 sM zN fun w104 hC104 hz104 hB104 => ?_)))))
                  replace hB104 : BX w104.heap w18.heap.size [(.int .i64 ((5 : Nat) : Int)), (.int .i64 0), (.int .i64 0), (.int .i64 0), (.slice none 0 0)] := hB104
                  have hzs104 : w30.heap.size ≤ w104.heap.size := hC104.size
                  have hE104 : Chg [gs, gg] w w104 := hE30.fresh hC104 (fun c hc => by have := List.mem_singleton.1 hc; omega)
                  have hF105 := hL30_0.chg hC104 (fun c hc => by have := List.mem_singleton.1 hc; omega)
                  have hF106 := hL30_1.chg hC104 (fun hm => by have := List.mem_singleton.1 hm; omega)
                  have hF107 := hL30_2.chg hC104 (fun hm => by have := List.mem_singleton.1 hm; omega)
                  exact lw_nil ⟨((5 : Nat) : Int), _, rfl, ⟨rfl, rfl, rfl, rfl, rfl, rfl, trivial⟩, ⟨hE104, hF105, hF106, hF107, hB104, oM, z156_2⟩⟩
                ·
                  exact q_eql false rfl rfl (decide_eq_false hc103) (zS (e := 81) rfl rfl rfl) (lw_tvn 2 rfl (c_cond_f rfl (wp_skip ⟨k, _, rfl, ⟨rfl, rfl, rfl, rfl, rfl, rfl, trivial⟩, ⟨hE30, hL30_0, hL30_1, hL30_2, hL30_3, oM, z156_2⟩⟩)))
          ·
            clear hL30_3 hL30_2 hL30_1 hL30_0 hE30 hzs30
            rintro k2 ρ96 w96 ⟨hE96, hL96_0, hL96_1, hL96_2, hL96_3, hk2, hk6⟩
            have hzs96 : w.heap.size ≤ w96.heap.size := hE96.size
            have hq108 := hL96_1.lt
            have hq109 := hL96_2.lt
            have hq110 := hL96_3.lt
            refine wp_seq (wp_seq (wp_plain _ [0] rfl (lw_tvn 1 rfl (wp_block ?_))))
            have hknb := kn_p hk2
            refine c_loop (S := Nat × Int × Nat × Value × List Ex) (fun (⟨i, l, m, vk, xs⟩ : Nat × Int × Nat × Value × List Ex) => ([(10, (.int .i64 ((i : Nat) : Int))), (0, (.pointer (some ⟨gg, 0, none⟩))), (1, (.int .i64 vars)), (2, (.int .i64 funcs)), (3, (.int .i64 ((d : Nat) : Int))), (8, (.pointer (some ⟨w.heap.size, 0, none⟩))), (9, (.pointer (some ⟨w18.heap.size, 0, none⟩)))] : List (Nat × Value))) (fun (⟨i, l, m, vk, xs⟩ : Nat × Int × Nat × Value × List Ex) (W : World) => Chg [gs, gg] w W ∧ Fr (owS 5 (oEx 174 d) 174) w96.heap.size W.heap.size W.heap vk xs ∧ Src W.heap gs sv cs m ∧ BX W.heap gg [(.pointer (some ⟨gs, 0, none⟩)), pp, (.int .i64 l), (.bool pl)] ∧ BX W.heap w.heap.size [(.int .i64 0), (.int .i64 0), (.int .i64 0), (.int .i64 0), (.slice none 0 0)] ∧ BX W.heap w18.heap.size [(.int .i64 k2), (.int .i64 0), (.int .i64 0), (.int .i64 0), vk] ∧ ((i : Nat) : Int) ≤ kn k2 ∧ KOk p funcs vars pl k2 d (l0 - 1) l xs i ∧ (n0 ≤ m ∧ m ≤ n0 + 8 + tmN i (stp (d - 1))) ∧ gg < w96.heap.size ∧ w.heap.size < w96.heap.size ∧ w18.heap.size < w96.heap.size ∧ w96.heap.size ≤ W.heap.size) (fun (⟨i, l, m, vk, xs⟩ : Nat × Int × Nat × Value × List Ex) => (kn k2).toNat - i) (0, (l0 - ((1 : Nat) : Int)), m1, (.slice none 0 0), ([] : List Ex)) ⟨rfl, rfl, rfl, rfl, rfl, rfl, rfl, trivial⟩ ⟨hE96, (frNilS _ 0 _).up (good_owS (good_oEx 174 d)), hL96_0, hL96_1, hL96_2, hL96_3, oM, (by exact KOk.nil ..), (by exact ⟨by omega, by show _ ≤ n0 + 8 + 0; omega⟩), oM, oM, oM, oM⟩ ?_
            clear hL96_3 hL96_2 hL96_1 hL96_0
            rintro ⟨i, l, m, vk, xs⟩ ρ114 w114 ⟨hE114, hL114_0, hL114_1, hL114_2, hL114_3, hL114_4, hi4, hko, hmb, hkg111, hkg112, hkg113, hkB115⟩
            have hzs114 : w.heap.size ≤ w114.heap.size := hE114.size
            have hq116 := hL114_2.lt
            have hq117 := hL114_3.lt
            have hq118 := hL114_4.lt
            refine wp_seq (wp_seq (wp_plain _ [0, 0, 2, 0, 0] rfl (lw_tv 1 rfl (q_fldP (p := (.pointer (some ⟨w18.heap.size, 0, none⟩))) (b := w18.heap.size) (o := 0) 0 fd174_0 rfl rfl zN (q_load (p := (padd (.pointer (some ⟨w18.heap.size, 0, none⟩)) 0)) (.inr rfl) (.int .i64 k2) one2 rfl (hL114_4.ldp (i := 0) sM) zN (lw_callq 202 [] [] [(.int .i64 k2)] rfl rfl cf202 zN (.int .i64 (kn k2)) (fun wq => c_kn wq _ oM) ?_))))))
            by_cases hc120 : ((i : Nat) : Int) < kn k2
            ·
              refine q_lss true rfl rfl (decide_eq_true hc120) zN (lw_nil (c_cond_t rfl (wp_skip (wp_seq (wp_block (wp_seq (wp_plain _ [0, 0] rfl (lw_tvn 2 rfl (wp_seq (wp_seq (wp_plain _ [0, 2, 0, 0, 0, 0, 0] rfl (q_fldP (p := (.pointer (some ⟨w18.heap.size, 0, none⟩))) (b := w18.heap.size) (o := 0) 0 fd174_0 rfl rfl zN (q_load (p := (padd (.pointer (some ⟨w18.heap.size, 0, none⟩)) 0)) (.inr rfl) (.int .i64 k2) one2 rfl (hL114_4.ldp (i := 0) sM) zN ?_)))))))))))))
              by_cases hc121 : k2 = ((9 : Nat) : Int)
              ·
                refine q_eql true rfl rfl (decide_eq_true hc121) zN (lw_tv 2 rfl ?_)
                by_cases hc122 : ((i : Nat) : Int) = ((1 : Nat) : Int)
                ·
                  refine q_eql true rfl rfl (decide_eq_true hc122) (zS (e := 99) rfl rfl rfl) (lw_tvn 1 rfl (c_cond_t rfl (wp_plain _ [0, 0, 0] rfl (lw_tv 1 rfl ?_))))
                  refine q_add (vars + ((1 : Nat) : Int)) rfl rfl (w64 sD sD) zN (lw_tvn 1 rfl ?_)
                  letI : JR := jrC [gs, gg]
                  refine Jx.wp_draw _ [0, 1, 0, 0, 0, 0, 0, 3, 3, 4, 0, 4] mixed (by kernel_rfl) ?_
                  have htn := tmN_4 (k := stp (d - 1)) (i := i + 1) oM
                  have hts : tmN (i + 1) (stp (d - 1)) = tmN i (stp (d - 1)) + stp (d - 1) := rfl
                  have hti := tmI_4 (k := nds (d - 1)) (i := i) oM oM
                  have hlo := hko.lo
                  have hln := hko.len
                  refine Jx.q_fldP (p := (.pointer (some ⟨w18.heap.size, 0, none⟩))) (b := w18.heap.size) (o := 0) 4 fd174_4 rfl rfl zN (Jx.q_loadJ (p := (padd (.pointer (some ⟨w18.heap.size, 0, none⟩)) 4)) vk one53 rfl (fun wj hj => (BX.chg (w := w114.drew) (F := [gs, gg]) hL114_4 hj (fun hm => by have := mem2 hm; omega)).ldp (i := 4) sM) zN (Jx.q_move (.pointer (some ⟨gg, 0, none⟩)) rfl zN (Jx.q_move (.int .i64 (vars + ((1 : Nat) : Int))) rfl zN (Jx.q_move (.int .i64 funcs) rfl zN (Jx.q_move (.int .i64 ((d : Nat) : Int)) rfl zN (Jx.j1 (q_sub ((d - 1 : Nat) : Int) rfl rfl (by rw [w64 oM oM]; omega) zN (lw_nil ?_))))))))
                  refine Jx.lw_call 156 [] [] [(.pointer (some ⟨gg, 0, none⟩)), (.int .i64 (vars + ((1 : Nat) : Int))), (.int .i64 funcs), (.int .i64 ((d - 1 : Nat) : Int))] rfl rfl cf156 zN (IH1 (d - 1) oM _ gg gs sv cs m pp dp l pl p (vars + ((1 : Nat) : Int)) (funcs) oM hL114_1 hL114_2 (hp.chg (good_rP (good_rPr dp)) hE114.drew) oM _hfuncs oM oM (by exact hpr) oM oM oM) ?_
                  rintro e123 w123 ⟨v123, x123, n123, l123, rfl, hC123, hs123, hb123, hB123, hO123, hr123, hG123⟩
                  refine ⟨_, rfl, hC123, ?_⟩
                  replace hO123 := hO123.low (B' := w114.heap.size) (Nat.le_refl _)
                  replace hC123 := hC123.of_drew
                  have hzs123 : w114.heap.size ≤ w123.heap.size := hC123.size
                  have hE123 : Chg [gs, gg] w w123 := hE114.trans hC123
                  have hF124 := hL114_0.chg ((good_owS (good_oEx 174 d))) hC123 (fun c hc => by have := mem2 hc; omega)
                  have hF125 := hL114_3.chg hC123 (fun hm => by have := mem2 hm; omega)
                  have hF126 := hL114_4.chg hC123 (fun hm => by have := mem2 hm; omega)
                  refine Jx.tail rfl (r_oneS (cs := [(.int .i64 x123.kind), (.int .i64 x123.num), (.int .i64 x123.pick), (.int .i64 x123.count), v123]) (y := x123) (B := w114.heap.size) (good_oEx 174 d) u53 tiS174 rfl (by decide) rfl (FrN.mk1 oM hr123 hO123) oM zN fun v127 w127 hX127 hz127 hO127 => ?_)
                  have hzs127 : w123.heap.size ≤ w127.heap.size := hX127.size
                  have hE127 : Chg [gs, gg] w w127 := hE123.ext hX127
                  have hF124x127 := hF124.ext ((good_owS (good_oEx 174 d))) hX127
                  have hs123x127 := hs123.ext hX127
                  have hB123x127 := hB123.ext hX127
                  have hF125x127 := hF125.ext hX127
                  have hF126x127 := hF126.ext hX127
                  refine e_appS (v := vk) (a := v127) (good_oEx 174 d) u53 tiS174 rfl (by decide) rfl rfl hF124x127 oM hO127 oM oM oM (by unfold maxLen; omega) zN fun v128 w128 F128 hC128 hF128 hO128 => ?_
                  have hzs128 : w127.heap.size ≤ w128.heap.size := hC128.size
                  have hE128 : Chg [gs, gg] w w128 := hE127.fresh hC128 (fun c hc => by have := hF128 _ hc; omega)
                  have hF129 := hs123x127.chg hC128 (fun c hc => by have := hF128 _ hc; omega)
                  have hF130 := hB123x127.chg hC128 (fun hm => by have := hF128 _ hm; omega)
                  have hF131 := hF125x127.chg hC128 (fun hm => by have := hF128 _ hm; omega)
                  have hF132 := hF126x127.chg hC128 (fun hm => by have := hF128 _ hm; omega)
                  refine q_fldP (p := (.pointer (some ⟨w18.heap.size, 0, none⟩))) (b := w18.heap.size) (o := 0) 4 fd174_4 rfl rfl zN (e_setB (k := 4) (w := w128) sz53 rfl rfl (isSl_one hO128.isSlS) hF132 sM zN fun w133 hC133 hz133 hB133 => ?_)
                  replace hB133 : BX w133.heap w18.heap.size [(.int .i64 k2), (.int .i64 0), (.int .i64 0), (.int .i64 0), v128] := hB133
                  have hzs133 : w128.heap.size ≤ w133.heap.size := hC133.size
                  have hE133 : Chg [gs, gg] w w133 := hE128.fresh hC133 (fun c hc => by have := List.mem_singleton.1 hc; omega)
                  have hF134 := hF129.chg hC133 (fun c hc => by have := List.mem_singleton.1 hc; omega)
                  have hF135 := hF130.chg hC133 (fun hm => by have := List.mem_singleton.1 hm; omega)
                  have hF136 := hF131.chg hC133 (fun hm => by have := List.mem_singleton.1 hm; omega)
                  have hF137 := hO128.chg ((good_owS (good_oEx 174 d))) hC133 (fun c hc => by have := List.mem_singleton.1 hc; omega)
                  exact lw_nil (wp_plain _ [0, 0, 0] rfl (lw_tv 1 rfl (q_add ((i + 1 : Nat) : Int) rfl rfl (w64n oM oM) zN (lw_tvn 1 rfl ⟨((i + 1), l123, n123, v128, (xs ++ [x123])), _, rfl, ⟨rfl, rfl, rfl, rfl, rfl, rfl, rfl, trivial⟩, ⟨hE133, hF137.up (good_owS (good_oEx 174 d)), hF134, hF135, hF136, hB133, oM, z156_1, oM, oM, oM, oM, oM⟩, by first | omega | (dsimp only; omega)⟩))))
                ·
                  refine q_eql false rfl rfl (decide_eq_false hc122) (zS (e := 99) rfl rfl rfl) (lw_tvn 1 rfl (c_cond_f rfl (wp_skip ?_)))
                  letI : JR := jrC [gs, gg]
                  refine Jx.wp_draw _ [0, 1, 0, 0, 0, 0, 0, 3, 3, 4, 0, 4] mixed (by kernel_rfl) ?_
                  have htn := tmN_4 (k := stp (d - 1)) (i := i + 1) oM
                  have hts : tmN (i + 1) (stp (d - 1)) = tmN i (stp (d - 1)) + stp (d - 1) := rfl
                  have hti := tmI_4 (k := nds (d - 1)) (i := i) oM oM
                  have hlo := hko.lo
                  have hln := hko.len
                  refine Jx.q_fldP (p := (.pointer (some ⟨w18.heap.size, 0, none⟩))) (b := w18.heap.size) (o := 0) 4 fd174_4 rfl rfl zN (Jx.q_loadJ (p := (padd (.pointer (some ⟨w18.heap.size, 0, none⟩)) 4)) vk one53 rfl (fun wj hj => (BX.chg (w := w114.drew) (F := [gs, gg]) hL114_4 hj (fun hm => by have := mem2 hm; omega)).ldp (i := 4) sM) zN (Jx.q_move (.pointer (some ⟨gg, 0, none⟩)) rfl zN (Jx.q_move (.int .i64 vars) rfl zN (Jx.q_move (.int .i64 funcs) rfl zN (Jx.q_move (.int .i64 ((d : Nat) : Int)) rfl zN (Jx.j1 (q_sub ((d - 1 : Nat) : Int) rfl rfl (by rw [w64 oM oM]; omega) zN (lw_nil ?_))))))))
                  refine Jx.lw_call 156 [] [] [(.pointer (some ⟨gg, 0, none⟩)), (.int .i64 vars), (.int .i64 funcs), (.int .i64 ((d - 1 : Nat) : Int))] rfl rfl cf156 zN (IH1 (d - 1) oM _ gg gs sv cs m pp dp l pl p (vars) (funcs) oM hL114_1 hL114_2 (hp.chg (good_rP (good_rPr dp)) hE114.drew) _hvars _hfuncs oM oM (by exact hpr) oM oM oM) ?_
                  rintro e138 w138 ⟨v138, x138, n138, l138, rfl, hC138, hs138, hb138, hB138, hO138, hr138, hG138⟩
                  refine ⟨_, rfl, hC138, ?_⟩
                  replace hO138 := hO138.low (B' := w114.heap.size) (Nat.le_refl _)
                  replace hC138 := hC138.of_drew
                  have hzs138 : w114.heap.size ≤ w138.heap.size := hC138.size
                  have hE138 : Chg [gs, gg] w w138 := hE114.trans hC138
                  have hF139 := hL114_0.chg ((good_owS (good_oEx 174 d))) hC138 (fun c hc => by have := mem2 hc; omega)
                  have hF140 := hL114_3.chg hC138 (fun hm => by have := mem2 hm; omega)
                  have hF141 := hL114_4.chg hC138 (fun hm => by have := mem2 hm; omega)
                  refine Jx.tail rfl (r_oneS (cs := [(.int .i64 x138.kind), (.int .i64 x138.num), (.int .i64 x138.pick), (.int .i64 x138.count), v138]) (y := x138) (B := w114.heap.size) (good_oEx 174 d) u53 tiS174 rfl (by decide) rfl (FrN.mk1 oM hr138 hO138) oM zN fun v142 w142 hX142 hz142 hO142 => ?_)
                  have hzs142 : w138.heap.size ≤ w142.heap.size := hX142.size
                  have hE142 : Chg [gs, gg] w w142 := hE138.ext hX142
                  have hF139x142 := hF139.ext ((good_owS (good_oEx 174 d))) hX142
                  have hs138x142 := hs138.ext hX142
                  have hB138x142 := hB138.ext hX142
                  have hF140x142 := hF140.ext hX142
                  have hF141x142 := hF141.ext hX142
                  refine e_appS (v := vk) (a := v142) (good_oEx 174 d) u53 tiS174 rfl (by decide) rfl rfl hF139x142 oM hO142 oM oM oM (by unfold maxLen; omega) zN fun v143 w143 F143 hC143 hF143 hO143 => ?_
                  have hzs143 : w142.heap.size ≤ w143.heap.size := hC143.size
                  have hE143 : Chg [gs, gg] w w143 := hE142.fresh hC143 (fun c hc => by have := hF143 _ hc; omega)
                  have hF144 := hs138x142.chg hC143 (fun c hc => by have := hF143 _ hc; omega)
                  have hF145 := hB138x142.chg hC143 (fun hm => by have := hF143 _ hm; omega)
                  have hF146 := hF140x142.chg hC143 (fun hm => by have := hF143 _ hm; omega)
                  have hF147 := hF141x142.chg hC143 (fun hm => by have := hF143 _ hm; omega)
                  refine q_fldP (p := (.pointer (some ⟨w18.heap.size, 0, none⟩))) (b := w18.heap.size) (o := 0) 4 fd174_4 rfl rfl zN (e_setB (k := 4) (w := w143) sz53 rfl rfl (isSl_one hO143.isSlS) hF147 sM zN fun w148 hC148 hz148 hB148 => ?_)
                  replace hB148 : BX w148.heap w18.heap.size [(.int .i64 k2), (.int .i64 0), (.int .i64 0), (.int .i64 0), v143] := hB148
                  have hzs148 : w143.heap.size ≤ w148.heap.size := hC148.size
                  have hE148 : Chg [gs, gg] w w148 := hE143.fresh hC148 (fun c hc => by have := List.mem_singleton.1 hc; omega)
                  have hF149 := hF144.chg hC148 (fun c hc => by have := List.mem_singleton.1 hc; omega)
                  have hF150 := hF145.chg hC148 (fun hm => by have := List.mem_singleton.1 hm; omega)
                  have hF151 := hF146.chg hC148 (fun hm => by have := List.mem_singleton.1 hm; omega)
                  have hF152 := hO143.chg ((good_owS (good_oEx 174 d))) hC148 (fun c hc => by have := List.mem_singleton.1 hc; omega)
                  exact lw_nil (wp_plain _ [0, 0, 0] rfl (lw_tv 1 rfl (q_add ((i + 1 : Nat) : Int) rfl rfl (w64n oM oM) zN (lw_tvn 1 rfl ⟨((i + 1), l138, n138, v143, (xs ++ [x138])), _, rfl, ⟨rfl, rfl, rfl, rfl, rfl, rfl, rfl, trivial⟩, ⟨hE148, hF152.up (good_owS (good_oEx 174 d)), hF149, hF150, hF151, hB148, oM, z156_1, oM, oM, oM, oM, oM⟩, by first | omega | (dsimp only; omega)⟩))))
              ·
                refine q_eql false rfl rfl (decide_eq_false hc121) zN (lw_tvn 4 rfl (c_cond_f rfl (wp_skip ?_)))
                letI : JR := jrC [gs, gg]
                refine Jx.wp_draw _ [0, 1, 0, 0, 0, 0, 0, 3, 3, 4, 0, 4] mixed (by kernel_rfl) ?_
                have htn := tmN_4 (k := stp (d - 1)) (i := i + 1) oM
                have hts : tmN (i + 1) (stp (d - 1)) = tmN i (stp (d - 1)) + stp (d - 1) := rfl
                have hti := tmI_4 (k := nds (d - 1)) (i := i) oM oM
                have hlo := hko.lo
                have hln := hko.len
                refine Jx.q_fldP (p := (.pointer (some ⟨w18.heap.size, 0, none⟩))) (b := w18.heap.size) (o := 0) 4 fd174_4 rfl rfl zN (Jx.q_loadJ (p := (padd (.pointer (some ⟨w18.heap.size, 0, none⟩)) 4)) vk one53 rfl (fun wj hj => (BX.chg (w := w114.drew) (F := [gs, gg]) hL114_4 hj (fun hm => by have := mem2 hm; omega)).ldp (i := 4) sM) zN (Jx.q_move (.pointer (some ⟨gg, 0, none⟩)) rfl zN (Jx.q_move (.int .i64 vars) rfl zN (Jx.q_move (.int .i64 funcs) rfl zN (Jx.q_move (.int .i64 ((d : Nat) : Int)) rfl zN (Jx.j1 (q_sub ((d - 1 : Nat) : Int) rfl rfl (by rw [w64 oM oM]; omega) zN (lw_nil ?_))))))))
                refine Jx.lw_call 156 [] [] [(.pointer (some ⟨gg, 0, none⟩)), (.int .i64 vars), (.int .i64 funcs), (.int .i64 ((d - 1 : Nat) : Int))] rfl rfl cf156 zN (IH1 (d - 1) oM _ gg gs sv cs m pp dp l pl p (vars) (funcs) oM hL114_1 hL114_2 (hp.chg (good_rP (good_rPr dp)) hE114.drew) _hvars _hfuncs oM oM (by exact hpr) oM oM oM) ?_
                rintro e153 w153 ⟨v153, x153, n153, l153, rfl, hC153, hs153, hb153, hB153, hO153, hr153, hG153⟩
                refine ⟨_, rfl, hC153, ?_⟩
                replace hO153 := hO153.low (B' := w114.heap.size) (Nat.le_refl _)
                replace hC153 := hC153.of_drew
                have hzs153 : w114.heap.size ≤ w153.heap.size := hC153.size
                have hE153 : Chg [gs, gg] w w153 := hE114.trans hC153
                have hF154 := hL114_0.chg ((good_owS (good_oEx 174 d))) hC153 (fun c hc => by have := mem2 hc; omega)
                have hF155 := hL114_3.chg hC153 (fun hm => by have := mem2 hm; omega)
                have hF156 := hL114_4.chg hC153 (fun hm => by have := mem2 hm; omega)
                refine Jx.tail rfl (r_oneS (cs := [(.int .i64 x153.kind), (.int .i64 x153.num), (.int .i64 x153.pick), (.int .i64 x153.count), v153]) (y := x153) (B := w114.heap.size) (good_oEx 174 d) u53 tiS174 rfl (by decide) rfl (FrN.mk1 oM hr153 hO153) oM zN fun v157 w157 hX157 hz157 hO157 => ?_)
                have hzs157 : w153.heap.size ≤ w157.heap.size := hX157.size
                have hE157 : Chg [gs, gg] w w157 := hE153.ext hX157
                have hF154x157 := hF154.ext ((good_owS (good_oEx 174 d))) hX157
                have hs153x157 := hs153.ext hX157
                have hB153x157 := hB153.ext hX157
                have hF155x157 := hF155.ext hX157
                have hF156x157 := hF156.ext hX157
                refine e_appS (v := vk) (a := v157) (good_oEx 174 d) u53 tiS174 rfl (by decide) rfl rfl hF154x157 oM hO157 oM oM oM (by unfold maxLen; omega) zN fun v158 w158 F158 hC158 hF158 hO158 => ?_
                have hzs158 : w157.heap.size ≤ w158.heap.size := hC158.size
                have hE158 : Chg [gs, gg] w w158 := hE157.fresh hC158 (fun c hc => by have := hF158 _ hc; omega)
                have hF159 := hs153x157.chg hC158 (fun c hc => by have := hF158 _ hc; omega)
                have hF160 := hB153x157.chg hC158 (fun hm => by have := hF158 _ hm; omega)
                have hF161 := hF155x157.chg hC158 (fun hm => by have := hF158 _ hm; omega)
                have hF162 := hF156x157.chg hC158 (fun hm => by have := hF158 _ hm; omega)
                refine q_fldP (p := (.pointer (some ⟨w18.heap.size, 0, none⟩))) (b := w18.heap.size) (o := 0) 4 fd174_4 rfl rfl zN (e_setB (k := 4) (w := w158) sz53 rfl rfl (isSl_one hO158.isSlS) hF162 sM zN fun w163 hC163 hz163 hB163 => ?_)
                replace hB163 : BX w163.heap w18.heap.size [(.int .i64 k2), (.int .i64 0), (.int .i64 0), (.int .i64 0), v158] := hB163
                have hzs163 : w158.heap.size ≤ w163.heap.size := hC163.size
                have hE163 : Chg [gs, gg] w w163 := hE158.fresh hC163 (fun c hc => by have := List.mem_singleton.1 hc; omega)
                have hF164 := hF159.chg hC163 (fun c hc => by have := List.mem_singleton.1 hc; omega)
                have hF165 := hF160.chg hC163 (fun hm => by have := List.mem_singleton.1 hm; omega)
                have hF166 := hF161.chg hC163 (fun hm => by have := List.mem_singleton.1 hm; omega)
                have hF167 := hO158.chg ((good_owS (good_oEx 174 d))) hC163 (fun c hc => by have := List.mem_singleton.1 hc; omega)
                exact lw_nil (wp_plain _ [0, 0, 0] rfl (lw_tv 1 rfl (q_add ((i + 1 : Nat) : Int) rfl rfl (w64n oM oM) zN (lw_tvn 1 rfl ⟨((i + 1), l153, n153, v158, (xs ++ [x153])), _, rfl, ⟨rfl, rfl, rfl, rfl, rfl, rfl, rfl, trivial⟩, ⟨hE163, hF167.up (good_owS (good_oEx 174 d)), hF164, hF165, hF166, hB163, oM, z156_1, oM, oM, oM, oM, oM⟩, by first | omega | (dsimp only; omega)⟩))))
            ·
              refine q_lss false rfl rfl (decide_eq_false hc120) zN (lw_nil (c_cond_f rfl (wp_exit (t_exit (t_exit (c_exit_here (wp_seq (wp_plain _ [2, 4] rfl (q_loadA (p := (.pointer (some ⟨w18.heap.size, 0, none⟩))) (.inr rfl) [(.int .i64 k2), (.int .i64 0), (.int .i64 0), (.int .i64 0), vk] agg174 rfl (fun wq9 hw9 => LD.of_box (BX.ext (w := w114) hL114_4 hw9)) rfl zN (e_setA (vs := [(.int .i64 k2), (.int .i64 0), (.int .i64 0), (.int .i64 0), vk]) agg174 rfl rfl (by intro u hu; simp only [List.mem_cons, List.not_mem_nil, or_false] at hu; rcases hu with rfl | rfl | rfl | rfl | rfl <;> first | exact ⟨rfl, rfl⟩ | exact isSl_one hL114_0.isSlS) hL114_3 rfl rfl zN fun w168 hC168 hz168 hB168 => ?_))))))))))
              replace hB168 : BX w168.heap w.heap.size [(.int .i64 k2), (.int .i64 0), (.int .i64 0), (.int .i64 0), vk] := hB168
              have hzs168 : w114.heap.size ≤ w168.heap.size := hC168.size
              have hE168 : Chg [gs, gg] w w168 := hE114.fresh hC168 (fun c hc => by have := List.mem_singleton.1 hc; omega)
              have hF169 := hL114_0.chg ((good_owS (good_oEx 174 d))) hC168 (fun c hc => by have := List.mem_singleton.1 hc; omega)
              have hF170 := hL114_1.chg hC168 (fun c hc => by have := List.mem_singleton.1 hc; omega)
              have hF171 := hL114_2.chg hC168 (fun hm => by have := List.mem_singleton.1 hm; omega)
              have hF172 := hL114_4.chg hC168 (fun hm => by have := List.mem_singleton.1 hm; omega)
              refine lw_nil (wp_ret ?_)
              have hln := hko.len
              have htn := tmN_4 (k := stp (d - 1)) (i := i) oM
              exact post_retA (cs := [(.int .i64 k2), (.int .i64 0), (.int .i64 0), (.int .i64 0), vk]) rfl agg174 rfl hB168 rfl ⟨vk, (.mk k2 0 0 0 xs), m, l, rfl, hE168, hF170, ⟨by omega, by omega⟩, hF171, ((hF169.up (good_owS (good_oEx 174 d))).low (B' := w.heap.size) oM), (exR_mk oM oM oM oM), (by exact hko.node oM oM oM hk6 (wfN_op oM oM))⟩
      ·
        refine c_cond_t (by first | rfl | (show Value.bool _ = _; rw [hb21])) (wp_seq (wp_plain _ [0, 0, 4, 4] rfl (lw_tv 2 rfl (lw_callE 200 [] [] [(.pointer (some ⟨gg, 0, none⟩)), (.int .i64 vars)] rfl rfl cf200 zN (c_spec_l02Gen_leaf _ gg gs sv cs n18 pp dp (l0 - ((1 : Nat) : Int)) pl p (vars) oM hs18 hF19 (hp.chg (good_rP (good_rPr dp)) hE18) _hvars oM oM) ?_))))
        rintro e173 w173 ⟨x173, n173, rfl, hC173, hs173, hb173, hB173, hr173, hkd173, hG173⟩
        refine ⟨_, rfl, ?_⟩
        have hzs173 : w18.heap.size ≤ w173.heap.size := hC173.size
        have hE173 : Chg [gs, gg] w w173 := hE18.trans hC173
        have hF174 := hF20.chg hC173 (fun hm => by have := mem2 hm; omega)
        refine e_setA (vs := [(.int .i64 x173.kind), (.int .i64 x173.num), (.int .i64 x173.pick), (.int .i64 x173.count), (.slice none 0 0)]) agg174 rfl rfl z156_0 hF174 rfl rfl zN fun w175 hC175 hz175 hB175 => ?_
        replace hB175 : BX w175.heap w.heap.size [(.int .i64 x173.kind), (.int .i64 x173.num), (.int .i64 x173.pick), (.int .i64 x173.count), (.slice none 0 0)] := hB175
        have hzs175 : w173.heap.size ≤ w175.heap.size := hC175.size
        have hE175 : Chg [gs, gg] w w175 := hE173.fresh hC175 (fun c hc => by have := List.mem_singleton.1 hc; omega)
        have hF176 := hs173.chg hC175 (fun c hc => by have := List.mem_singleton.1 hc; omega)
        have hF177 := hB173.chg hC175 (fun hm => by have := List.mem_singleton.1 hm; omega)
        exact lw_nil (wp_ret (t_ret (post_retA (cs := [(.int .i64 x173.kind), (.int .i64 x173.num), (.int .i64 x173.pick), (.int .i64 x173.count), (.slice none 0 0)]) rfl agg174 rfl hB175 rfl ⟨(.slice none 0 0), x173, n173, (l0 - ((1 : Nat) : Int)), rfl, hE175, hF176, ⟨by omega, by omega⟩, hF177, (by rw [hkd173]; exact frNilS _ _ _), hr173, (by exact LOk.ok (by assumption) d)⟩)))
theorem GX_all : ∀ d, GX d ∧ (1 ≤ d → GC d) := by
  intro d
  induction d using Nat.strongRecOn with
  | _ d ih =>
    have hc : 1 ≤ d → GC d := fun h1 w gg gs sv cs n0 pp dp l0 pl p vars funcs hgg hs hB0 hp hv' hf' hv hfu hpr hd hn hl => c_spec_l02Gen_call w gg gs sv cs n0 pp dp l0 pl p vars funcs d hgg hs hB0 hp hv' hf' hv hfu hpr hd hn hl (ih (d - 1) (by omega)).1
    exact ⟨fun w gg gs sv cs n0 pp dp l0 pl p vars funcs hgg hs hB0 hp hv' hf' hv hfu hpr hd hn hl => c_spec_l02Gen_expr w gg gs sv cs n0 pp dp l0 pl p vars funcs d hgg hs hB0 hp hv' hf' hv hfu hpr hd hn hl (fun d' h => (ih d' h).1) hc, hc⟩
theorem GX_any (d : Nat) : GX d := (GX_all d).1end Go.Proofs.YtnokbaiemimhjaaGreat
namespace Go.Proofs.YtnokbaiemimhjaaGreat
open Go Go.RowKit
set_option linter.unusedVariables false
set_option linter.unusedSimpArgs false
set_option maxHeartbeats 4000000
set_option maxRecDepth 100000
attribute [local irreducible] LW
theorem c_spec_l00Src_text (w : World) (g : Nat) (sv : Value) (cs : List UInt8) (n0 : Nat) (vl : Value) (us : List Value) (hs : Src w.heap g sv cs n0) (hn0 : n0 + 2 ≤ 1000000000000) (hl : ∀ w', Chg [g] w w' → Rd (rdL rV) w'.heap vl us) (hus : ∀ u ∈ us, ∃ s, u = Value.string s) (hul : 1 ≤ us.length ∧ us.length ≤ 1000)  :
    Calls Tryz.prog 154 #[.pointer (some ⟨g, 0, none⟩), vl] w (fun e w' => ∃ (x0 : ByteArray) (n1 : Nat), e = .returned (.string x0) ∧ Chg [g] w w' ∧ Src w'.heap g sv cs n1 ∧ (n0 ≤ n1 ∧ n1 ≤ n0 + 2) ∧ (Value.string x0 ∈ us)) := by
  refine calls_mk [.pointer (some ⟨g, 0, none⟩), vl] 12 Tryz.func154 rfl rfl sM ?_
  have hE0 : Chg [g] w w := Chg.refl [g] w
  have hl_vl := (hl _ hE0).lenle
  have hgl := hs.lt
  refine wp_seq (wp_plain _ [0] rfl (lw_tvn 1 rfl (wp_seq (wp_plain _ [0, 0, 0, 0, 4, 0, 2, 0] rfl (lw_tv 3 rfl (q_len (v := vl) u168 rfl (hl _ hE0).isSl zN (lw_callE 80 [] [] [(.pointer (some ⟨g, 0, none⟩)), (.int .i64 ((us.length : Nat) : Int))] rfl rfl cf80 zN (c_spec_l00Src_pick _ g _ _ _ (((us.length : Nat) : Int)) hs oM oM oM) ?_)))))))
  rintro e1 w1 ⟨x1_0, n1, rfl, hC1, hs1, hb1, hp1_0⟩
  refine ⟨_, rfl, ?_⟩
  have hzs1 : w.heap.size ≤ w1.heap.size := hC1.size
  have hE1 : Chg [g] w w1 := hE0.trans hC1
  refine q_idx (v := vl) ((x1_0).toNat) u168 ti9 rfl rfl (hl _ hE1).isSl oM sD zN ?_
  obtain ⟨sx2, hsx2⟩ := hus (us.getD ((x1_0).toNat) undef) (gd_mem sD)
  refine q_load (p := eptr vl ((x1_0).toNat) 1) (.inr rfl) (.string sx2) one9 rfl (by rw [← hsx2]; exact (Rd.getV (hl _ hE1) sD).1) zN ?_
  have hsm : Value.string sx2 ∈ us := hsx2 ▸ gd_mem sD
  exact lw_tvn 1 rfl (wp_ret (post_ret [4] rfl (.string sx2) rfl ⟨sx2, n1, rfl, hE1, hs1, ⟨by omega, by omega⟩, (by exact hsm)⟩))
theorem c_spec_Decimal (w : World) (n : Int) (_hn : -9223372036854775808 ≤ n ∧ n ≤ 9223372036854775807) (hk : 0 ≤ n ∧ n < 10) :
    Calls Tryz.prog 155 #[.int .i64 n] w (fun e w' => ∃ s, e = .returned (.string s) ∧ Ext w w' ∧ s = dig n.toNat) := by
  refine calls_mk [.int .i64 n] 20 Tryz.func155 rfl rfl sM ?_
  have hE0 : Ext w w := Ext.refl w
  refine wp_seq (wp_plain _ [0] rfl (lw_tvn 1 rfl (wp_seq (wp_seq (wp_plain _ [0, 0] rfl (lw_tv 1 rfl ?_))))))
  by_cases hc1 : n < ((10 : Nat) : Int)
  ·
    refine q_lss true rfl rfl (decide_eq_true hc1) zN (lw_nil (c_cond_t rfl (wp_seq (wp_plain _ [0, 0, 0, 3, 2, 0] rfl (lw_tv 1 rfl ?_)))))
    refine q_add (((48 : Nat) : Int) + n) rfl rfl (w64 sD sD) zN (q_conv (IntKind.u8.wrap (((48 : Nat) : Int) + n)) u2 u5 rfl rfl zN ?_)
    refine r_one (u := (.int .u8 (IntKind.u8.wrap (((48 : Nat) : Int) + n)))) (B := w.heap.size) good_rV u22 ti5 rfl rfl (frV (w.heap.size) (w.heap.size) _ ⟨rfl, rfl⟩) (Nat.le_refl _) zN fun v2 w2 hX2 hz2 hO2 => ?_
    have hzs2 : w.heap.size ≤ w2.heap.size := hX2.size
    have hE2 : Ext w w2 := hE0.trans hX2
    exact q_byteE u22 u5 u9 rfl hO2 zN (lw_tvn 1 rfl (wp_ret (t_ret (post_ret [2] rfl (.string (⟨#[UInt8.ofNat (IntKind.u8.wrap (((48 : Nat) : Int) + n)).toNat]⟩ : ByteArray)) rfl ⟨(⟨#[UInt8.ofNat (IntKind.u8.wrap (((48 : Nat) : Int) + n)).toNat]⟩ : ByteArray), rfl, hE2, (by exact dig_eq hk.1 hk.2)⟩))))
  ·
    exact absurd hk.2 hc1
theorem c_spec_l02Draw (w : World) (g : Nat) (sv : Value) (cs : List UInt8) (n0 : Nat) (funcs : Int) (nodes : Int) (plain : Bool) (hs : Src w.heap g sv cs n0) (hn0 : n0 + (150000 * funcs.toNat) ≤ 1000000000000) (_hfuncs : -9223372036854775808 ≤ funcs ∧ funcs ≤ 9223372036854775807) (_hnodes : -9223372036854775808 ≤ nodes ∧ nodes ≤ 9223372036854775807) (hfn : 0 ≤ funcs ∧ funcs ≤ 9) (hnd : 1 ≤ nodes ∧ nodes ≤ 30) :
    Calls Tryz.prog 90 #[.pointer (some ⟨g, 0, none⟩), .int .i64 funcs, .int .i64 nodes, .bool plain] w (fun e w' => ∃ (v : Value) (p : List Fn) (n1 : Nat), e = .returned (.agg #[v]) ∧ Chg [g] w w' ∧ Src w'.heap g sv cs n1 ∧ (n0 ≤ n1 ∧ n1 ≤ n0 + (150000 * funcs.toNat)) ∧ Fr (owS 3 (oFn 174 6) 55) w.heap.size w'.heap.size w'.heap v p ∧ DPr p plain ∧ Dn p ∧ ((p.length : Nat) : Int) = funcs) := by
  refine calls_mk [.pointer (some ⟨g, 0, none⟩), .int .i64 funcs, .int .i64 nodes, .bool plain] 65 Tryz.func90 rfl rfl sM ?_
  have hE0 : Chg [g] w w := Chg.refl [g] w
  have hgl := hs.lt
  have hs5 := stp5
  have hn5 := nds5
  refine wp_seq (wp_plain _ [3] rfl (r_allocA (z := .agg #[.slice none 0 0]) zr26 zN fun w1 hX1 hz1 hB1 => ?_))
  have hzs1 : w.heap.size ≤ w1.heap.size := hX1.size
  have hE1 : Chg [g] w w1 := hE0.ext hX1
  have hsx1 := hs.ext hX1
  replace hB1 : BX w1.heap w.heap.size [(.slice none 0 0)] := hB1
  refine lw_nil (wp_seq (wp_plain _ [0, 3, 4] rfl ?_))
  have hbd2 : ∀ (wq : World), (Instr.build 26 #[]).run Tryz.prog wq = .ok (.agg #[(.slice none 0 0)]) wq := by intro wq; kernel_rfl
  refine q_build (ps := #[]) (.agg #[(.slice none 0 0)]) (by simp only [List.map_toArray, List.map_cons, List.map_nil]) (fun wq => hbd2  wq) zN ?_
  have hq4 := hB1.lt
  refine r_allocA (z := .agg #[.slice none 0 0]) zr26 zN fun w3 hX3 hz3 hB3 => ?_
  have hzs3 : w1.heap.size ≤ w3.heap.size := hX3.size
  have hE3 : Chg [g] w w3 := hE1.ext hX3
  have hsx3 := hsx1.ext hX3
  have hB1x3 := hB1.ext hX3
  replace hB3 : BX w3.heap w1.heap.size [(.slice none 0 0)] := hB3
  refine e_setA (vs := [(.slice none 0 0)]) agg26 rfl rfl (by intro u hu; simp only [List.mem_cons, List.not_mem_nil, or_false] at hu; rcases hu with rfl <;> first | exact ⟨rfl, rfl⟩) hB3 rfl rfl zN fun w5 hC5 hz5 hB5 => ?_
  replace hB5 : BX w5.heap w1.heap.size [(.slice none 0 0)] := hB5
  have hzs5 : w3.heap.size ≤ w5.heap.size := hC5.size
  have hE5 : Chg [g] w w5 := hE3.fresh hC5 (fun c hc => by have := List.mem_singleton.1 hc; omega)
  have hF6 := hsx3.chg hC5 (fun c hc => by have := List.mem_singleton.1 hc; omega)
  have hF7 := hB1x3.chg hC5 (fun hm => by have := List.mem_singleton.1 hm; omega)
  refine lw_nil (wp_seq (wp_seq (wp_plain _ [0] rfl (lw_tvn 1 rfl (wp_block ?_)))))
  refine c_loop (S := Nat × Value × List Fn × Nat) (fun (⟨k, vp, ps, m⟩ : Nat × Value × List Fn × Nat) => ([(10, (.int .i64 ((k : Nat) : Int))), (0, (.pointer (some ⟨g, 0, none⟩))), (1, (.int .i64 funcs)), (2, (.int .i64 nodes)), (3, (.bool plain)), (8, (.pointer (some ⟨w.heap.size, 0, none⟩))), (9, (.pointer (some ⟨w1.heap.size, 0, none⟩)))] : List (Nat × Value))) (fun (⟨k, vp, ps, m⟩ : Nat × Value × List Fn × Nat) (W : World) => Chg [g] w W ∧ Fr (owS 3 (oFn 174 6) 55) w5.heap.size W.heap.size W.heap vp ps ∧ Src W.heap g sv cs m ∧ BX W.heap w.heap.size [(.slice none 0 0)] ∧ BX W.heap w1.heap.size [vp] ∧ ((k : Nat) : Int) ≤ funcs ∧ DPr ps plain ∧ Dn ps ∧ ps.length = k ∧ (n0 ≤ m ∧ m ≤ n0 + 150000 * k) ∧ (g < w5.heap.size ∧ w.heap.size ≤ w5.heap.size) ∧ w.heap.size < w5.heap.size ∧ w1.heap.size < w5.heap.size ∧ w5.heap.size ≤ W.heap.size) (fun (⟨k, vp, ps, m⟩ : Nat × Value × List Fn × Nat) => funcs.toNat - k) (0, (.slice none 0 0), ([] : List Fn), n0) ⟨rfl, rfl, rfl, rfl, rfl, rfl, rfl, trivial⟩ ⟨hE5, (frNilS _ 0 _).up (good_owS (good_oFn 174 6)), hF6, hF7, hB5, oM, (by exact DPr.nil _), (by exact Dn.nil), (by rfl), oM, oM, oM, oM, oM⟩ ?_
  clear hE0 hz1 hX1 hzs1 hE1 hz3 hX3 hzs3 hE3 hz5 hC5 hF6 hF7
  rintro ⟨k, vp, ps, m⟩ ρ10 w10 ⟨hE10, hL10_0, hL10_1, hL10_2, hL10_3, hkf, hdp, hdn, hpk, hmk, hgb, hkg8, hkg9, hkB11⟩
  have hzs10 : w.heap.size ≤ w10.heap.size := hE10.size
  have hq12 := hL10_2.lt
  have hq13 := hL10_3.lt
  refine wp_seq (wp_seq (wp_plain _ [0, 0, 0] rfl (lw_tv 2 rfl ?_)))
  by_cases hc14 : ((k : Nat) : Int) < funcs
  ·
    refine q_lss true rfl rfl (decide_eq_true hc14) zN (lw_nil (c_cond_t rfl (wp_skip (wp_seq (wp_block (wp_seq (wp_plain _ [0, 3, 4, 0, 3, 0, 0, 4, 0, 0, 3, 4] rfl (lw_tv 1 rfl (r_four (ys := [(.string (⟨#[102]⟩)), (.string (⟨#[103]⟩)), (.string (⟨#[115, 116, 101, 112]⟩)), (.string (⟨#[104, 50]⟩))]) good_rV u168 ti9 rfl rfl rfl rfl rfl rfl (elsV4 ⟨rfl, rfl⟩ ⟨rfl, rfl⟩ ⟨rfl, rfl⟩ ⟨rfl, rfl⟩) zN fun v15 w15 hX15 hz15 hO15 => ?_)))))))))
    have hzs15 : w10.heap.size ≤ w15.heap.size := hX15.size
    have hE15 : Chg [g] w w15 := hE10.ext hX15
    have hL10_0x15 := hL10_0.ext ((good_owS (good_oFn 174 6))) hX15
    have hL10_1x15 := hL10_1.ext hX15
    have hL10_2x15 := hL10_2.ext hX15
    have hL10_3x15 := hL10_3.ext hX15
    refine lw_callE 154 [] [] [(.pointer (some ⟨g, 0, none⟩)), v15] rfl rfl cf154 zN (c_spec_l00Src_text _ g _ _ _ v15 _ hL10_1x15 oM (fun w9 h9 => (hO15.chg oV h9 (fun c hc => by have := List.mem_singleton.1 hc; omega)).rdV1) (by intro u hu; simp only [List.mem_cons, List.not_mem_nil, or_false] at hu; rcases hu with rfl | rfl | rfl | rfl <;> exact ⟨_, rfl⟩) sM) ?_
    rintro e16 w16 ⟨x16_0, n16, rfl, hC16, hs16, hb16, hp16_0⟩
    refine ⟨_, rfl, ?_⟩
    have hzs16 : w15.heap.size ≤ w16.heap.size := hC16.size
    have hE16 : Chg [g] w w16 := hE15.trans hC16
    have hF17 := hL10_0x15.chg ((good_owS (good_oFn 174 6))) hC16 (fun c hc => by have := List.mem_singleton.1 hc; omega)
    have hF18 := hL10_2x15.chg hC16 (fun hm => by have := List.mem_singleton.1 hm; omega)
    have hF19 := hL10_3x15.chg hC16 (fun hm => by have := List.mem_singleton.1 hm; omega)
    have hF20 := hO15.chg (oV) hC16 (fun c hc => by have := List.mem_singleton.1 hc; omega)
    have hfo := mem_four hp16_0
    refine lw_tv 1 rfl (lw_call 155 [] [] [(.int .i64 ((k : Nat) : Int))] rfl rfl cf155 zN (c_spec_Decimal _ (((k : Nat) : Int)) oM oM) ?_)
    rintro e21 w21 ⟨st21, rfl, hX21, rfl⟩
    refine ⟨_, rfl, hX21, ?_⟩
    have hzs21 : w16.heap.size ≤ w21.heap.size := hX21.size
    have hE21 : Chg [g] w w21 := hE16.ext hX21
    have hF17x21 := hF17.ext ((good_owS (good_oFn 174 6))) hX21
    have hs16x21 := hs16.ext hX21
    have hF18x21 := hF18.ext hX21
    have hF19x21 := hF19.ext hX21
    have hF20x21 := hF20.ext (oV) hX21
    refine q_adds (a := x16_0) (b := dig k) rfl rfl (by have := four_size _ hfo; have := dig_size k; omega) zN (lw_tv 1 rfl (lw_callE 80 [] [] [(.pointer (some ⟨g, 0, none⟩)), (.int .i64 ((3 : Nat) : Int))] rfl rfl cf80 zN (c_spec_l00Src_pick _ g _ _ _ (((3 : Nat) : Int)) hs16x21 oM oM sD) ?_))
    rintro e22 w22 ⟨x22_0, n22, rfl, hC22, hs22, hb22, hp22_0⟩
    refine ⟨_, rfl, ?_⟩
    have hzs22 : w21.heap.size ≤ w22.heap.size := hC22.size
    have hE22 : Chg [g] w w22 := hE21.trans hC22
    have hF23 := hF17x21.chg ((good_owS (good_oFn 174 6))) hC22 (fun c hc => by have := List.mem_singleton.1 hc; omega)
    have hF24 := hF18x21.chg hC22 (fun hm => by have := List.mem_singleton.1 hm; omega)
    have hF25 := hF19x21.chg hC22 (fun hm => by have := List.mem_singleton.1 hm; omega)
    have hF26 := hF20x21.chg (oV) hC22 (fun c hc => by have := List.mem_singleton.1 hc; omega)
    refine q_add (((1 : Nat) : Int) + x22_0) rfl rfl (w64 sD sD) zN ?_
    have hbd27 : ∀ (wq : World), (Instr.build 55 #[(0, (.string (x16_0 ++ dig k))), (1, (.int .i64 (((1 : Nat) : Int) + x22_0)))]).run Tryz.prog wq = .ok (.agg #[(.string (x16_0 ++ dig k)), (.int .i64 (((1 : Nat) : Int) + x22_0)), (.slice none 0 0)]) wq := by intro wq; kernel_rfl
    refine q_build (ps := #[(0, (.string (x16_0 ++ dig k))), (1, (.int .i64 (((1 : Nat) : Int) + x22_0)))]) (.agg #[(.string (x16_0 ++ dig k)), (.int .i64 (((1 : Nat) : Int) + x22_0)), (.slice none 0 0)]) (by simp only [List.map_toArray, List.map_cons, List.map_nil]; rfl) (fun wq => hbd27  wq) zN ?_
    have hq29 := hF24.lt
    have hq30 := hF25.lt
    refine r_allocA (z := .agg #[.string ByteArray.empty, .int .i64 0, .slice none 0 0]) zr55 zN fun w28 hX28 hz28 hB28 => ?_
    have hzs28 : w22.heap.size ≤ w28.heap.size := hX28.size
    have hE28 : Chg [g] w w28 := hE22.ext hX28
    have hF23x28 := hF23.ext ((good_owS (good_oFn 174 6))) hX28
    have hs22x28 := hs22.ext hX28
    have hF24x28 := hF24.ext hX28
    have hF25x28 := hF25.ext hX28
    have hF26x28 := hF26.ext (oV) hX28
    replace hB28 : BX w28.heap w22.heap.size [(.string ByteArray.empty), (.int .i64 0), (.slice none 0 0)] := hB28
    refine e_setA (vs := [(.string (x16_0 ++ dig k)), (.int .i64 (((1 : Nat) : Int) + x22_0)), (.slice none 0 0)]) agg55 rfl rfl (by intro u hu; simp only [List.mem_cons, List.not_mem_nil, or_false] at hu; rcases hu with rfl | rfl | rfl <;> first | exact ⟨rfl, rfl⟩) hB28 rfl rfl zN fun w31 hC31 hz31 hB31 => ?_
    replace hB31 : BX w31.heap w22.heap.size [(.string (x16_0 ++ dig k)), (.int .i64 (((1 : Nat) : Int) + x22_0)), (.slice none 0 0)] := hB31
    have hzs31 : w28.heap.size ≤ w31.heap.size := hC31.size
    have hE31 : Chg [g] w w31 := hE28.fresh hC31 (fun c hc => by have := List.mem_singleton.1 hc; omega)
    have hF32 := hF23x28.chg ((good_owS (good_oFn 174 6))) hC31 (fun c hc => by have := List.mem_singleton.1 hc; omega)
    have hF33 := hs22x28.chg hC31 (fun c hc => by have := List.mem_singleton.1 hc; omega)
    have hF34 := hF24x28.chg hC31 (fun hm => by have := List.mem_singleton.1 hm; omega)
    have hF35 := hF25x28.chg hC31 (fun hm => by have := List.mem_singleton.1 hm; omega)
    have hF36 := hF26x28.chg (oV) hC31 (fun c hc => by have := List.mem_singleton.1 hc; omega)
    refine lw_nil (wp_seq (wp_plain _ [0, 4, 0, 0] rfl (lw_tv 1 rfl (lw_callE 80 [] [] [(.pointer (some ⟨g, 0, none⟩)), (.int .i64 ((3 : Nat) : Int))] rfl rfl cf80 zN (c_spec_l00Src_pick _ g _ _ _ (((3 : Nat) : Int)) hF33 oM oM sD) ?_))))
    rintro e37 w37 ⟨x37_0, n37, rfl, hC37, hs37, hb37, hp37_0⟩
    refine ⟨_, rfl, ?_⟩
    have hzs37 : w31.heap.size ≤ w37.heap.size := hC37.size
    have hE37 : Chg [g] w w37 := hE31.trans hC37
    have hF38 := hF32.chg ((good_owS (good_oFn 174 6))) hC37 (fun c hc => by have := List.mem_singleton.1 hc; omega)
    have hF39 := hF34.chg hC37 (fun hm => by have := List.mem_singleton.1 hm; omega)
    have hF40 := hF35.chg hC37 (fun hm => by have := List.mem_singleton.1 hm; omega)
    have hF41 := hF36.chg (oV) hC37 (fun c hc => by have := List.mem_singleton.1 hc; omega)
    have hF42 := hB31.chg hC37 (fun hm => by have := List.mem_singleton.1 hm; omega)
    refine q_add (((1 : Nat) : Int) + x37_0) rfl rfl (w64 sD sD) zN (lw_tvn 1 rfl ?_)
    refine wp_seq (c_cut (S := Int × Nat) (fun (⟨o, m1⟩ : Int × Nat) => ([(12, (.int .i64 o)), (0, (.pointer (some ⟨g, 0, none⟩))), (1, (.int .i64 funcs)), (2, (.int .i64 nodes)), (3, (.bool plain)), (8, (.pointer (some ⟨w.heap.size, 0, none⟩))), (9, (.pointer (some ⟨w1.heap.size, 0, none⟩))), (10, (.int .i64 ((k : Nat) : Int))), (11, (.pointer (some ⟨w22.heap.size, 0, none⟩)))] : List (Nat × Value))) (fun (⟨o, m1⟩ : Int × Nat) (W : World) => Chg [g] w W ∧ Fr (owS 3 (oFn 174 6) 55) w5.heap.size w10.heap.size W.heap vp ps ∧ Src W.heap g sv cs m1 ∧ BX W.heap w.heap.size [(.slice none 0 0)] ∧ BX W.heap w1.heap.size [vp] ∧ BX W.heap w22.heap.size [(.string (x16_0 ++ dig k)), (.int .i64 (((1 : Nat) : Int) + x22_0)), (.slice none 0 0)] ∧ (1 ≤ o ∧ o ≤ 3) ∧ (n0 ≤ m1 ∧ m1 ≤ n0 + 150000 * k + 8) ∧ w10.heap.size ≤ w37.heap.size ∧ (g < w5.heap.size ∧ w.heap.size ≤ w5.heap.size) ∧ w10.heap.size ≤ w22.heap.size ∧ w5.heap.size ≤ W.heap.size) ?_ ?_)
    ·
      refine wp_seq (wp_plain _ [0, 4] rfl (lw_tv 1 rfl (lw_callE 143 [] [] [(.pointer (some ⟨g, 0, none⟩)), (.int .i64 ((2 : Nat) : Int))] rfl rfl cf143 zN (c_spec_l00Src_one _ g _ _ _ (((2 : Nat) : Int)) hs37 oM oM sD) ?_)))
      rintro e45 w45 ⟨x45_0, n45, rfl, hC45, hs45, hb45, hp45_0⟩
      refine ⟨_, rfl, ?_⟩
      have hzs45 : w37.heap.size ≤ w45.heap.size := hC45.size
      have hE45 : Chg [g] w w45 := hE37.trans hC45
      have hF46 := hF38.chg ((good_owS (good_oFn 174 6))) hC45 (fun c hc => by have := List.mem_singleton.1 hc; omega)
      have hF47 := hF39.chg hC45 (fun hm => by have := List.mem_singleton.1 hm; omega)
      have hF48 := hF40.chg hC45 (fun hm => by have := List.mem_singleton.1 hm; omega)
      have hF49 := hF41.chg (oV) hC45 (fun c hc => by have := List.mem_singleton.1 hc; omega)
      have hF50 := hF42.chg hC45 (fun hm => by have := List.mem_singleton.1 hm; omega)
      refine lw_nil ?_
      cases hb51 : x45_0
      ·
        exact c_cond_f (by first | rfl | (show Value.bool _ = _; rw [hb51])) (wp_skip ⟨((((1 : Nat) : Int) + x37_0), n45), _, rfl, ⟨rfl, rfl, rfl, rfl, rfl, rfl, rfl, rfl, rfl, trivial⟩, ⟨hE45, hF46, hs45, hF47, hF48, hF50, oM, oM, oM, oM, oM, oM⟩⟩)
      ·
        exact c_cond_t (by first | rfl | (show Value.bool _ = _; rw [hb51])) (wp_plain _ [0, 2, 0] rfl (q_fldP (p := (.pointer (some ⟨w22.heap.size, 0, none⟩))) (b := w22.heap.size) (o := 0) 1 fd55_1 rfl rfl zN (q_load (p := (padd (.pointer (some ⟨w22.heap.size, 0, none⟩)) 1)) (.inr rfl) (.int .i64 (((1 : Nat) : Int) + x22_0)) one2 rfl (hF50.ldp (i := 1) sM) zN (lw_tvn 1 rfl ⟨((((1 : Nat) : Int) + x22_0), n45), _, rfl, ⟨rfl, rfl, rfl, rfl, rfl, rfl, rfl, rfl, rfl, trivial⟩, ⟨hE45, hF46, hs45, hF47, hF48, hF50, oM, oM, oM, oM, oM, oM⟩⟩))))
    ·
      clear hL10_3 hL10_2 hL10_1 hL10_0 hO15 hz15 hX15 hzs15 hE15 hL10_0x15 hL10_1x15 hL10_2x15 hL10_3x15 hC16 hzs16 hE16 hF17 hF18 hF19 hF20 hX21 hzs21 hE21 hF17x21 hF18x21 hF19x21 hF20x21 hC22 hzs22 hE22 hF23 hF24 hF25 hF26 hz28 hX28 hzs28 hE28 hF23x28 hF24x28 hF25x28 hF26x28 hz31 hC31 hzs31 hE31 hF32 hF33 hF34 hF35 hF36 hC37 hzs37 hE37 hF38 hF39 hF40 hF41 hF42
      rintro ⟨o, m1⟩ ρ43 w43 ⟨hE43, hL43_0, hL43_1, hL43_2, hL43_3, hL43_4, ho3, hm1, huw, hgb, huf, hkB44⟩
      have hzs43 : w.heap.size ≤ w43.heap.size := hE43.size
      have hq52 := hL43_2.lt
      have hq53 := hL43_3.lt
      have hq54 := hL43_4.lt
      refine wp_seq (wp_seq (wp_plain _ [0] rfl (lw_tvn 1 rfl (wp_block ?_))))
      refine c_loop (S := Nat × Value × List Ex × Nat) (fun (⟨i, vo, xs, m2⟩ : Nat × Value × List Ex × Nat) => ([(13, (.int .i64 ((i : Nat) : Int))), (0, (.pointer (some ⟨g, 0, none⟩))), (1, (.int .i64 funcs)), (2, (.int .i64 nodes)), (3, (.bool plain)), (8, (.pointer (some ⟨w.heap.size, 0, none⟩))), (9, (.pointer (some ⟨w1.heap.size, 0, none⟩))), (10, (.int .i64 ((k : Nat) : Int))), (11, (.pointer (some ⟨w22.heap.size, 0, none⟩))), (12, (.int .i64 o))] : List (Nat × Value))) (fun (⟨i, vo, xs, m2⟩ : Nat × Value × List Ex × Nat) (W : World) => Chg [g] w W ∧ Fr (owS 5 (oEx 174 6) 174) w43.heap.size W.heap.size W.heap vo xs ∧ Fr (owS 3 (oFn 174 6) 55) w5.heap.size w10.heap.size W.heap vp ps ∧ Src W.heap g sv cs m2 ∧ BX W.heap w.heap.size [(.slice none 0 0)] ∧ BX W.heap w1.heap.size [vp] ∧ BX W.heap w22.heap.size [(.string (x16_0 ++ dig k)), (.int .i64 (((1 : Nat) : Int) + x22_0)), vo] ∧ ((i : Nat) : Int) ≤ o ∧ FOk ps (((1 : Nat) : Int) + x22_0) plain xs i ∧ (n0 ≤ m2 ∧ m2 ≤ n0 + 150000 * k + 8 + 47770 * i) ∧ w10.heap.size ≤ w43.heap.size ∧ (g < w5.heap.size ∧ w.heap.size ≤ w5.heap.size) ∧ w10.heap.size ≤ w22.heap.size ∧ w.heap.size < w43.heap.size ∧ w1.heap.size < w43.heap.size ∧ w22.heap.size < w43.heap.size ∧ w43.heap.size ≤ W.heap.size ∧ w5.heap.size ≤ W.heap.size) (fun (⟨i, vo, xs, m2⟩ : Nat × Value × List Ex × Nat) => o.toNat - i) (0, (.slice none 0 0), ([] : List Ex), m1) ⟨rfl, rfl, rfl, rfl, rfl, rfl, rfl, rfl, rfl, rfl, trivial⟩ ⟨hE43, (frNilS _ 0 _).up (good_owS (good_oEx 174 6)), hL43_0, hL43_1, hL43_2, hL43_3, hL43_4, oM, (by exact FOk.nil _ _ _), oM, oM, oM, oM, oM, oM, oM, oM, oM⟩ ?_
      clear hL43_4 hL43_3 hL43_2 hL43_1 hL43_0
      rintro ⟨i, vo, xs, m2⟩ ρ58 w58 ⟨hE58, hL58_0, hL58_1, hL58_2, hL58_3, hL58_4, hL58_5, hio, hff, hm2, huw, hgb, huf, hkg55, hkg56, hkg57, hkB59, hkB60⟩
      have hzs58 : w.heap.size ≤ w58.heap.size := hE58.size
      have hq61 := hL58_3.lt
      have hq62 := hL58_4.lt
      have hq63 := hL58_5.lt
      refine wp_seq (wp_seq (wp_plain _ [0, 0, 0] rfl (lw_tv 2 rfl ?_)))
      by_cases hc64 : ((i : Nat) : Int) < o
      ·
        refine q_lss true rfl rfl (decide_eq_true hc64) zN (lw_nil (c_cond_t rfl (wp_skip (wp_seq (wp_block (wp_seq (wp_plain _ [0, 0, 0, 0, 3, 0] rfl (lw_tv 3 rfl ?_))))))))
        have hbd65 : ∀ (wq : World), (Instr.build 172 #[(0, (.pointer (some ⟨g, 0, none⟩))), (1, (.pointer (some ⟨w1.heap.size, 0, none⟩))), (2, (.int .i64 nodes)), (3, (.bool plain))]).run Tryz.prog wq = .ok (.agg #[(.pointer (some ⟨g, 0, none⟩)), (.pointer (some ⟨w1.heap.size, 0, none⟩)), (.int .i64 nodes), (.bool plain)]) wq := by intro wq; kernel_rfl
        refine q_build (ps := #[(0, (.pointer (some ⟨g, 0, none⟩))), (1, (.pointer (some ⟨w1.heap.size, 0, none⟩))), (2, (.int .i64 nodes)), (3, (.bool plain))]) (.agg #[(.pointer (some ⟨g, 0, none⟩)), (.pointer (some ⟨w1.heap.size, 0, none⟩)), (.int .i64 nodes), (.bool plain)]) (by simp only [List.map_toArray, List.map_cons, List.map_nil]; rfl) (fun wq => hbd65  wq) zN ?_
        have hq67 := hL58_3.lt
        have hq68 := hL58_4.lt
        have hq69 := hL58_5.lt
        refine r_boxA (cs := #[(.pointer (some ⟨g, 0, none⟩)), (.pointer (some ⟨w1.heap.size, 0, none⟩)), (.int .i64 nodes), (.bool plain)]) rfl zN fun w66 hX66 hz66 hB66 => ?_
        have hzs66 : w58.heap.size ≤ w66.heap.size := hX66.size
        have hE66 : Chg [g] w w66 := hE58.ext hX66
        have hL58_0x66 := hL58_0.ext ((good_owS (good_oEx 174 6))) hX66
        have hL58_1x66 := hL58_1.ext ((good_owS (good_oFn 174 6))) hX66
        have hL58_2x66 := hL58_2.ext hX66
        have hL58_3x66 := hL58_3.ext hX66
        have hL58_4x66 := hL58_4.ext hX66
        have hL58_5x66 := hL58_5.ext hX66
        replace hB66 : BX w66.heap w58.heap.size [(.pointer (some ⟨g, 0, none⟩)), (.pointer (some ⟨w1.heap.size, 0, none⟩)), (.int .i64 nodes), (.bool plain)] := hB66
        refine lw_tvn 1 rfl ?_
        letI : JR := jrC [g, w58.heap.size]
        refine Jx.wp_draw _ [0, 1, 0, 0, 1, 0, 3, 3, 4, 0, 4] mixed (by kernel_rfl) (Jx.q_fldP (p := (.pointer (some ⟨w22.heap.size, 0, none⟩))) (b := w22.heap.size) (o := 0) 2 fd55_2 rfl rfl zN (Jx.q_loadJ (p := (padd (.pointer (some ⟨w22.heap.size, 0, none⟩)) 2)) vo one53 rfl (fun wj hj => (BX.chg (w := w66.drew) (F := [g, w58.heap.size]) hL58_5x66 hj (fun hm => by have := mem2 hm; omega)).ldp (i := 2) sM) zN (Jx.q_move (.pointer (some ⟨w58.heap.size, 0, none⟩)) rfl zN (Jx.q_fldP (p := (.pointer (some ⟨w22.heap.size, 0, none⟩))) (b := w22.heap.size) (o := 0) 1 fd55_1 rfl rfl zN ?_))))
        refine Jx.q_loadJ (p := (padd (.pointer (some ⟨w22.heap.size, 0, none⟩)) 1)) (.int .i64 (((1 : Nat) : Int) + x22_0)) one2 rfl (fun wj hj => (BX.chg (w := w66.drew) (F := [g, w58.heap.size]) hL58_5x66 hj (fun hm => by have := mem2 hm; omega)).ldp (i := 1) sM) zN (Jx.q_move (.int .i64 ((k : Nat) : Int)) rfl zN ?_)
        refine Jx.lw_call 156 [] [] [(.pointer (some ⟨w58.heap.size, 0, none⟩)), (.int .i64 (((1 : Nat) : Int) + x22_0)), (.int .i64 ((k : Nat) : Int)), (.int .i64 ((5 : Nat) : Int))] rfl rfl cf156 zN (GX_any 5 _ w58.heap.size g sv cs m2 (.pointer (some ⟨w1.heap.size, 0, none⟩)) 6 nodes plain ps (((1 : Nat) : Int) + x22_0) (((k : Nat) : Int)) oM hL58_2x66 hB66 (RN.box hL58_4x66 (RP.mk' (RN.of_frF2 hL58_1x66 (fun b hb => by have := mem2 hb; omega))) (fun hb => by have := mem2 hb; omega)) oM oM oM oM (by exact hdp.gpr) oM oM oM) ?_
        rintro e70 w70 ⟨v70, x70, n70, l70, rfl, hC70, hs70, hb70, hB70, hO70, hr70, hG70⟩
        refine ⟨_, rfl, hC70, ?_⟩
        replace hO70 := hO70.low (B' := w66.heap.size) (Nat.le_refl _)
        replace hC70 := hC70.of_drew
        have hzs70 : w66.heap.size ≤ w70.heap.size := hC70.size
        have hE70 : Chg [g] w w70 := hE66.new2 hC70 (List.mem_singleton.2 rfl) oM
        have hF71 := hL58_0x66.chg ((good_owS (good_oEx 174 6))) hC70 (fun c hc => by have := mem2 hc; omega)
        have hF72 := hL58_1x66.chg ((good_owS (good_oFn 174 6))) hC70 (fun c hc => by have := mem2 hc; omega)
        have hF73 := hL58_3x66.chg hC70 (fun hm => by have := mem2 hm; omega)
        have hF74 := hL58_4x66.chg hC70 (fun hm => by have := mem2 hm; omega)
        have hF75 := hL58_5x66.chg hC70 (fun hm => by have := mem2 hm; omega)
        refine Jx.tail rfl (r_oneS (cs := [(.int .i64 x70.kind), (.int .i64 x70.num), (.int .i64 x70.pick), (.int .i64 x70.count), v70]) (y := x70) (B := w66.heap.size) (good_oEx 174 6) u53 tiS174 rfl (by decide) rfl (FrN.mk1 (d := 6) oM hr70 hO70) oM zN fun v76 w76 hX76 hz76 hO76 => ?_)
        have hzs76 : w70.heap.size ≤ w76.heap.size := hX76.size
        have hE76 : Chg [g] w w76 := hE70.ext hX76
        have hF71x76 := hF71.ext ((good_owS (good_oEx 174 6))) hX76
        have hF72x76 := hF72.ext ((good_owS (good_oFn 174 6))) hX76
        have hs70x76 := hs70.ext hX76
        have hF73x76 := hF73.ext hX76
        have hF74x76 := hF74.ext hX76
        have hF75x76 := hF75.ext hX76
        have hB70x76 := hB70.ext hX76
        refine e_appS (v := vo) (a := v76) (good_oEx 174 6) u53 tiS174 rfl (by decide) rfl rfl hF71x76 oM hO76 oM oM (by have := hff.len; omega) (by have := hff.len; unfold maxLen; omega) zN fun v77 w77 F77 hC77 hF77 hO77 => ?_
        have hzs77 : w76.heap.size ≤ w77.heap.size := hC77.size
        have hE77 : Chg [g] w w77 := hE76.fresh hC77 (fun c hc => by have := hF77 _ hc; omega)
        have hF78 := hF72x76.chg ((good_owS (good_oFn 174 6))) hC77 (fun c hc => by have := hF77 _ hc; omega)
        have hF79 := hs70x76.chg hC77 (fun c hc => by have := hF77 _ hc; omega)
        have hF80 := hF73x76.chg hC77 (fun hm => by have := hF77 _ hm; omega)
        have hF81 := hF74x76.chg hC77 (fun hm => by have := hF77 _ hm; omega)
        have hF82 := hF75x76.chg hC77 (fun hm => by have := hF77 _ hm; omega)
        have hF83 := hB70x76.chg hC77 (fun hm => by have := hF77 _ hm; omega)
        refine q_fldP (p := (.pointer (some ⟨w22.heap.size, 0, none⟩))) (b := w22.heap.size) (o := 0) 2 fd55_2 rfl rfl zN (e_setB (k := 2) (w := w77) sz53 rfl rfl (isSl_one hO77.isSlS) hF82 sM zN fun w84 hC84 hz84 hB84 => ?_)
        replace hB84 : BX w84.heap w22.heap.size [(.string (x16_0 ++ dig k)), (.int .i64 (((1 : Nat) : Int) + x22_0)), v77] := hB84
        have hzs84 : w77.heap.size ≤ w84.heap.size := hC84.size
        have hE84 : Chg [g] w w84 := hE77.fresh hC84 (fun c hc => by have := List.mem_singleton.1 hc; omega)
        have hF85 := hF78.chg ((good_owS (good_oFn 174 6))) hC84 (fun c hc => by have := List.mem_singleton.1 hc; omega)
        have hF86 := hF79.chg hC84 (fun c hc => by have := List.mem_singleton.1 hc; omega)
        have hF87 := hF80.chg hC84 (fun hm => by have := List.mem_singleton.1 hm; omega)
        have hF88 := hF81.chg hC84 (fun hm => by have := List.mem_singleton.1 hm; omega)
        have hF89 := hF83.chg hC84 (fun hm => by have := List.mem_singleton.1 hm; omega)
        have hF90 := hO77.chg ((good_owS (good_oEx 174 6))) hC84 (fun c hc => by have := List.mem_singleton.1 hc; omega)
        exact lw_nil (wp_plain _ [0, 0, 0] rfl (lw_tv 1 rfl (q_add ((i + 1 : Nat) : Int) rfl rfl (w64n oM oM) zN (lw_tvn 1 rfl ⟨((i + 1), v77, (xs ++ [x70]), n70), _, rfl, ⟨rfl, rfl, rfl, rfl, rfl, rfl, rfl, rfl, rfl, rfl, trivial⟩, ⟨hE84, hF90.up (good_owS (good_oEx 174 6)), hF85, hF86, hF87, hF88, hB84, oM, (by exact hff.snoc (funcs := ((k : Nat) : Int)) (d := 5) (l0 := nodes) oM oM oM (by assumption)), oM, oM, oM, oM, oM, oM, oM, oM, oM⟩, by first | omega | (dsimp only; omega)⟩))))
      ·
        refine q_lss false rfl rfl (decide_eq_false hc64) zN (lw_nil (c_cond_f rfl (wp_exit (t_exit (t_exit (c_exit_here (wp_plain _ [0, 2, 2, 3, 4, 0, 4] rfl (q_fldP (p := (.pointer (some ⟨w1.heap.size, 0, none⟩))) (b := w1.heap.size) (o := 0) 0 fd26_0 rfl rfl zN (q_load (p := (padd (.pointer (some ⟨w1.heap.size, 0, none⟩)) 0)) (.inr rfl) vp one24 rfl (hL58_4.ldp (i := 0) sM) zN (q_loadA (p := (.pointer (some ⟨w22.heap.size, 0, none⟩))) (.inr rfl) [(.string (x16_0 ++ dig k)), (.int .i64 (((1 : Nat) : Int) + x22_0)), vo] agg55 rfl (fun wq9 hw9 => LD.of_box (BX.ext (w := w58) hL58_5 hw9)) rfl zN ?_))))))))))
        refine r_oneS (cs := [(.string (x16_0 ++ dig k)), (.int .i64 (((1 : Nat) : Int) + x22_0)), vo]) (y := (Fn.mk (x16_0 ++ dig k) (((1 : Nat) : Int) + x22_0) xs)) (B := w43.heap.size) (good_oFn 174 6) u24 tiS55 rfl (by decide) rfl (FrN.mkF (x := ⟨(x16_0 ++ dig k), (((1 : Nat) : Int) + x22_0), xs⟩) (i64_mk (a := (((1 : Nat) : Int) + x22_0)) oM) hL58_0) oM zN fun v91 w91 hX91 hz91 hO91 => ?_
        have hzs91 : w58.heap.size ≤ w91.heap.size := hX91.size
        have hE91 : Chg [g] w w91 := hE58.ext hX91
        have hL58_1x91 := hL58_1.ext ((good_owS (good_oFn 174 6))) hX91
        have hL58_2x91 := hL58_2.ext hX91
        have hL58_3x91 := hL58_3.ext hX91
        have hL58_4x91 := hL58_4.ext hX91
        have hL58_5x91 := hL58_5.ext hX91
        refine e_appS (v := vp) (a := v91) (good_oFn 174 6) u24 tiS55 rfl (by decide) rfl rfl hL58_1x91 oM hO91 oM oM oM (by unfold maxLen; omega) zN fun v92 w92 F92 hC92 hF92 hO92 => ?_
        have hzs92 : w91.heap.size ≤ w92.heap.size := hC92.size
        have hE92 : Chg [g] w w92 := hE91.fresh hC92 (fun c hc => by have := hF92 _ hc; omega)
        have hF93 := hL58_2x91.chg hC92 (fun c hc => by have := hF92 _ hc; omega)
        have hF94 := hL58_3x91.chg hC92 (fun hm => by have := hF92 _ hm; omega)
        have hF95 := hL58_4x91.chg hC92 (fun hm => by have := hF92 _ hm; omega)
        have hF96 := hL58_5x91.chg hC92 (fun hm => by have := hF92 _ hm; omega)
        refine q_fldP (p := (.pointer (some ⟨w1.heap.size, 0, none⟩))) (b := w1.heap.size) (o := 0) 0 fd26_0 rfl rfl zN (e_setB (k := 0) (w := w92) sz24 rfl rfl (isSl_one hO92.isSlS) hF95 sM zN fun w97 hC97 hz97 hB97 => ?_)
        replace hB97 : BX w97.heap w1.heap.size [v92] := hB97
        have hzs97 : w92.heap.size ≤ w97.heap.size := hC97.size
        have hE97 : Chg [g] w w97 := hE92.fresh hC97 (fun c hc => by have := List.mem_singleton.1 hc; omega)
        have hF98 := hF93.chg hC97 (fun c hc => by have := List.mem_singleton.1 hc; omega)
        have hF99 := hF94.chg hC97 (fun hm => by have := List.mem_singleton.1 hm; omega)
        have hF100 := hF96.chg hC97 (fun hm => by have := List.mem_singleton.1 hm; omega)
        have hF101 := hO92.chg ((good_owS (good_oFn 174 6))) hC97 (fun c hc => by have := List.mem_singleton.1 hc; omega)
        refine lw_nil (wp_plain _ [0, 0, 0] rfl (lw_tv 1 rfl (q_add ((k + 1 : Nat) : Int) rfl rfl (w64n oM oM) zN (lw_tvn 1 rfl ?_))))
        exact ⟨((k + 1), v92, (ps ++ [(Fn.mk (x16_0 ++ dig k) (((1 : Nat) : Int) + x22_0) xs)]), m2), _, rfl, ⟨rfl, rfl, rfl, rfl, rfl, rfl, rfl, trivial⟩, ⟨hE97, hF101.up (good_owS (good_oFn 174 6)), hF98, hF99, hB97, oM, (by exact (FOk.fn (i := i) (f := ⟨(x16_0 ++ dig k), (((1 : Nat) : Int) + x22_0), xs⟩) hdp hdn oM ⟨by show 1 ≤ (((1 : Nat) : Int) + x22_0); omega, by show (((1 : Nat) : Int) + x22_0) ≤ 3; omega⟩ ⟨by omega, by omega⟩ hff hfo (by show _ = _ ++ dig ps.length; rw [hpk])).1), (by exact (FOk.fn (i := i) (f := ⟨(x16_0 ++ dig k), (((1 : Nat) : Int) + x22_0), xs⟩) hdp hdn oM ⟨by show 1 ≤ (((1 : Nat) : Int) + x22_0); omega, by show (((1 : Nat) : Int) + x22_0) ≤ 3; omega⟩ ⟨by omega, by omega⟩ hff hfo (by show _ = _ ++ dig ps.length; rw [hpk])).2), (by rw [List.length_append, hpk]; rfl), oM, oM, oM, oM, oM⟩, by first | omega | (dsimp only; omega)⟩
  ·
    refine q_lss false rfl rfl (decide_eq_false hc14) zN (lw_nil (c_cond_f rfl (wp_exit (t_exit (t_exit (c_exit_here (wp_seq (wp_plain _ [2, 4] rfl (q_loadA (p := (.pointer (some ⟨w1.heap.size, 0, none⟩))) (.inr rfl) [vp] agg26 rfl (fun wq9 hw9 => LD.of_box (BX.ext (w := w10) hL10_3 hw9)) rfl zN (e_setA (vs := [vp]) agg26 rfl rfl (by intro u hu; simp only [List.mem_cons, List.not_mem_nil, or_false] at hu; rcases hu with rfl <;> first | exact ⟨rfl, rfl⟩ | exact isSl_one hL10_0.isSlS) hL10_2 rfl rfl zN fun w102 hC102 hz102 hB102 => ?_))))))))))
    replace hB102 : BX w102.heap w.heap.size [vp] := hB102
    have hzs102 : w10.heap.size ≤ w102.heap.size := hC102.size
    have hE102 : Chg [g] w w102 := hE10.fresh hC102 (fun c hc => by have := List.mem_singleton.1 hc; omega)
    have hF103 := hL10_0.chg ((good_owS (good_oFn 174 6))) hC102 (fun c hc => by have := List.mem_singleton.1 hc; omega)
    have hF104 := hL10_1.chg hC102 (fun c hc => by have := List.mem_singleton.1 hc; omega)
    have hF105 := hL10_3.chg hC102 (fun hm => by have := List.mem_singleton.1 hm; omega)
    exact lw_nil (wp_ret (post_retA (cs := [vp]) rfl agg26 rfl hB102 rfl ⟨vp, ps, m, rfl, hE102, hF104, ⟨by omega, by omega⟩, ((hF103.up (good_owS (good_oFn 174 6))).low (B' := w.heap.size) oM), (by exact ⟨hdp, hdn, by omega⟩)⟩))
theorem c_spec_l02Some (w : World) (g : Nat) (sv : Value) (cs : List UInt8) (n0 : Nat) (hs : Src w.heap g sv cs n0) (hn0 : n0 + 500000 ≤ 1000000000000)  :
    Calls Tryz.prog 65 #[.pointer (some ⟨g, 0, none⟩)] w (fun e w' => ∃ (v : Value) (p : List Fn) (n1 : Nat), e = .returned (.agg #[v]) ∧ Chg [g] w w' ∧ Src w'.heap g sv cs n1 ∧ (n0 ≤ n1 ∧ n1 ≤ n0 + 500000) ∧ Fr (owS 3 (oFn 174 6) 55) w.heap.size w'.heap.size w'.heap v p ∧ (∃ pl, DPr p pl) ∧ Dn p ∧ 1 ≤ p.length ∧ p.length ≤ 3) := by
  refine calls_mk [.pointer (some ⟨g, 0, none⟩)] 10 Tryz.func65 rfl rfl sM ?_
  have hE0 : Chg [g] w w := Chg.refl [g] w
  have hgl := hs.lt
  refine wp_seq (wp_plain _ [3] rfl (r_allocA (z := .agg #[.slice none 0 0]) zr26 zN fun w1 hX1 hz1 hB1 => ?_))
  have hzs1 : w.heap.size ≤ w1.heap.size := hX1.size
  have hE1 : Chg [g] w w1 := hE0.ext hX1
  have hsx1 := hs.ext hX1
  replace hB1 : BX w1.heap w.heap.size [(.slice none 0 0)] := hB1
  refine lw_nil (wp_seq (wp_plain _ [0, 0, 4, 0, 0, 4, 4, 4] rfl (lw_tv 2 rfl (lw_callE 80 [] [] [(.pointer (some ⟨g, 0, none⟩)), (.int .i64 ((3 : Nat) : Int))] rfl rfl cf80 zN (c_spec_l00Src_pick _ g _ _ _ (((3 : Nat) : Int)) hsx1 oM oM sD) ?_))))
  rintro e2 w2 ⟨x2_0, n2, rfl, hC2, hs2, hb2, hp2_0⟩
  refine ⟨_, rfl, ?_⟩
  have hzs2 : w1.heap.size ≤ w2.heap.size := hC2.size
  have hE2 : Chg [g] w w2 := hE1.trans hC2
  have hF3 := hB1.chg hC2 (fun hm => by have := List.mem_singleton.1 hm; omega)
  refine q_add (((1 : Nat) : Int) + x2_0) rfl rfl (w64 sD sD) zN (lw_tv 1 rfl ?_)
  refine lw_callE 143 [] [] [(.pointer (some ⟨g, 0, none⟩)), (.int .i64 ((4 : Nat) : Int))] rfl rfl cf143 zN (c_spec_l00Src_one _ g _ _ _ (((4 : Nat) : Int)) hs2 oM oM sD) ?_
  rintro e4 w4 ⟨x4_0, n4, rfl, hC4, hs4, hb4, hp4_0⟩
  refine ⟨_, rfl, ?_⟩
  have hzs4 : w2.heap.size ≤ w4.heap.size := hC4.size
  have hE4 : Chg [g] w w4 := hE2.trans hC4
  have hF5 := hF3.chg hC4 (fun hm => by have := List.mem_singleton.1 hm; omega)
  refine lw_callE 90 [] [] [(.pointer (some ⟨g, 0, none⟩)), (.int .i64 (((1 : Nat) : Int) + x2_0)), (.int .i64 ((14 : Nat) : Int)), (.bool x4_0)] rfl rfl cf90 zN (c_spec_l02Draw _ g sv cs n4 (((1 : Nat) : Int) + x2_0) (((14 : Nat) : Int)) x4_0 hs4 oM oM oM oM oM) ?_
  rintro e6 w6 ⟨v6, p6, n6, rfl, hC6, hs6, hb6, hO6, hG6⟩
  refine ⟨_, rfl, ?_⟩
  have hzs6 : w4.heap.size ≤ w6.heap.size := hC6.size
  have hE6 : Chg [g] w w6 := hE4.trans hC6
  have hF7 := hF5.chg hC6 (fun hm => by have := List.mem_singleton.1 hm; omega)
  refine e_setA (vs := [v6]) agg26 rfl rfl (by intro u hu; simp only [List.mem_cons, List.not_mem_nil, or_false] at hu; rcases hu with rfl <;> first | exact ⟨rfl, rfl⟩ | exact isSl_one hO6.isSlS) hF7 rfl rfl zN fun w8 hC8 hz8 hB8 => ?_
  replace hB8 : BX w8.heap w.heap.size [v6] := hB8
  have hzs8 : w6.heap.size ≤ w8.heap.size := hC8.size
  have hE8 : Chg [g] w w8 := hE6.fresh hC8 (fun c hc => by have := List.mem_singleton.1 hc; omega)
  have hF9 := hs6.chg hC8 (fun c hc => by have := List.mem_singleton.1 hc; omega)
  have hF10 := hO6.chg ((good_owS (good_oFn 174 6))) hC8 (fun c hc => by have := List.mem_singleton.1 hc; omega)
  exact lw_nil (wp_ret (post_retA (cs := [v6]) rfl agg26 rfl hB8 rfl ⟨v6, p6, n6, rfl, hE8, hF9, ⟨by omega, by omega⟩, ((hF10.up (good_owS (good_oFn 174 6))).low (B' := w.heap.size) oM), (by refine ⟨⟨_, hG6.1⟩, hG6.2.1, ?_⟩; omega)⟩))
end Go.Proofs.YtnokbaiemimhjaaGreat
namespace Go.Proofs.YtnokbaiemimhjaaGreat
open Go Go.RowKit
set_option linter.unusedVariables false
set_option linter.unusedSimpArgs false
set_option maxHeartbeats 4000000
set_option maxRecDepth 100000
attribute [local irreducible] LW
theorem z66_0 {p : Prop} (h : p := by first | omega | exact ⟨by omega, ha1.2⟩ | exact ⟨by omega, ha2.2⟩) : p := h
theorem z66_1 {p : Prop} (h : p := by simp [exC, fnC]) : p := h
theorem c_spec_a2Called (w : World) (g : Nat) (sv : Value) (cs : List UInt8) (n0 : Nat) (dp : Nat) (vp : Value) (p : List Fn) (hs : Src w.heap g sv cs n0) (hn0 : n0 + 60 ≤ 1000000000000) (hp : RN [g] (rP (rPr dp)) w.heap vp p) (hdr : DPr p false) (hlen : 1 ≤ p.length ∧ p.length ≤ 3) :
    Calls Tryz.prog 66 #[.pointer (some ⟨g, 0, none⟩), vp] w (fun e w' => ∃ (x0 : Int) (x1 : Int) (v2 : Value) (x2 : List Int) (v3 : Value) (x3 : List Int) (n1 : Nat), e = .returned (.tuple #[.int .i64 x0, .int .i64 x1, v2, v3]) ∧ Chg [g] w w' ∧ Src w'.heap g sv cs n1 ∧ (n0 ≤ n1 ∧ n1 ≤ n0 + 60) ∧ (x0 = ((p.length : Nat) : Int) - 1) ∧ (0 ≤ x1 ∧ x1 < (((p.getD (p.length - 1) Fn.zero).outs.length : Nat) : Int)) ∧ Fr (owL rI 2) w.heap.size w'.heap.size w'.heap v2 x2 ∧ (((x2.length : Nat) : Int) = (p.getD (p.length - 1) Fn.zero).params ∧ allN x2 = true) ∧ Fr (owL rI 2) w.heap.size w'.heap.size w'.heap v3 x3 ∧ (((x3.length : Nat) : Int) = (p.getD (p.length - 1) Fn.zero).params ∧ allN x3 = true)) := by
  refine calls_mk [.pointer (some ⟨g, 0, none⟩), vp] 53 Tryz.func66 rfl rfl sM ?_
  have hE0 : Chg [g] w w := Chg.refl [g] w
  have hgl := hs.lt
  have hpa := hdr.par (p.length - 1) oM
  have hou := hdr.outs (p.length - 1) oM
  refine wp_seq (wp_plain _ [0, 0, 0, 0] rfl (lw_tvn 4 rfl (wp_seq (wp_plain _ [0, 0, 0, 2, 0, 0, 0] rfl (lw_tv 1 rfl (q_nilP (hp.isPtr) rfl zN ?_))))))
  obtain ⟨cs1, hr1, hl1⟩ := RN.at (good_rPr _) hp
  obtain ⟨ve1, rfl, hx1⟩ := RPr.of hr1
  have hln1 := hx1.lenle
  unfold maxLen at hln1
  refine q_fldL (p := vp) 0 fd26_0 rfl (hl1 _ hE0) zN (q_load (p := (padd vp 0)) (.inr rfl) ve1 one24 rfl ((hl1 _ hE0).ld (i := 0) z66_1) zN (q_len (v := ve1) u24 rfl hx1.isSl zN (q_sub ((p.length - 1 : Nat) : Int) rfl rfl (by rw [w64 oM oM]; omega) zN (lw_tvn 1 rfl (wp_seq (wp_plain _ [0, 0, 0, 0, 2, 0, 0, 0, 2, 0, 4, 0] rfl (lw_tv 2 rfl (q_nilP (hp.isPtr) rfl zN (q_fldL (p := vp) 0 fd26_0 rfl (hl1 _ hE0) zN (q_load (p := (padd vp 0)) (.inr rfl) ve1 one24 rfl ((hl1 _ hE0).ld (i := 0) z66_1) zN (lw_tv 1 rfl ?_)))))))))))
  refine q_idx (v := ve1) (p.length - 1) u24 tiS55 rfl rfl hx1.isSl rfl sD zN ?_
  obtain ⟨cs2, hr2, hl2⟩ := hx1.get (good_rFn dp) Fn.zero (k := (p.length - 1)) sD
  obtain ⟨ve2, rfl, hx2⟩ := RF.of hr2
  have hln2 := hx2.rn.lenle
  unfold maxLen at hln2
  refine q_fldL (p := eptr ve1 (p.length - 1) 3) 2 fd55_2 rfl (hl2 _ hE0) zN (q_load (p := (padd (eptr ve1 (p.length - 1) 3) 2)) (.inr rfl) ve2 one53 rfl ((hl2 _ hE0).ld (i := 2) z66_1) zN (q_len (v := ve2) u53 rfl hx2.rn.isSl zN (lw_callE 80 [] [] [(.pointer (some ⟨g, 0, none⟩)), (.int .i64 ((((p.getD (p.length - 1) Fn.zero).outs).length : Nat) : Int))] rfl rfl cf80 zN (c_spec_l00Src_pick _ g _ _ _ (((((p.getD (p.length - 1) Fn.zero).outs).length : Nat) : Int)) hs oM oM oM) ?_)))
  rintro e3 w3 ⟨x3_0, n3, rfl, hC3, hs3, hb3, hp3_0⟩
  refine ⟨_, rfl, ?_⟩
  have hzs3 : w.heap.size ≤ w3.heap.size := hC3.size
  have hE3 : Chg [g] w w3 := hE0.trans hC3
  refine lw_tvn 1 rfl (wp_seq (wp_plain _ [0, 0, 0, 0, 2, 0, 0, 0, 2, 4, 0] rfl (lw_tv 2 rfl (q_nilP (hp.isPtr) rfl zN (q_fldL (p := vp) 0 fd26_0 rfl (hl1 _ hE3) zN (q_load (p := (padd vp 0)) (.inr rfl) ve1 one24 rfl ((hl1 _ hE3).ld (i := 0) z66_1) zN (lw_tv 1 rfl (q_idx (v := ve1) (p.length - 1) u24 tiS55 rfl rfl hx1.isSl rfl sD zN (q_fldL (p := eptr ve1 (p.length - 1) 3) 1 fd55_1 rfl (hl2 _ hE3) zN ?_)))))))))
  refine q_load (p := (padd (eptr ve1 (p.length - 1) 3) 1)) (.inr rfl) (.int .i64 ((p.getD (p.length - 1) Fn.zero).params)) one2 rfl ((hl2 _ hE3).ld (i := 1) z66_1) zN (lw_callE 81 [] [] [(.pointer (some ⟨g, 0, none⟩)), (.int .i64 ((p.getD (p.length - 1) Fn.zero).params))] rfl rfl cf81 zN (c_spec_l01Draw _ g _ _ _ ((p.getD (p.length - 1) Fn.zero).params) hs3 oM hx2.rng oM) ?_)
  rintro e4 w4 ⟨v4_0, x4_0, n4, rfl, hC4, hs4, hb4, hO4_0, hp4_0⟩
  refine ⟨_, rfl, ?_⟩
  have hzs4 : w3.heap.size ≤ w4.heap.size := hC4.size
  have hE4 : Chg [g] w w4 := hE3.trans hC4
  have ha1 := hp4_0
  refine lw_tvn 1 rfl (wp_seq (wp_plain _ [0, 0, 0, 0, 2, 0, 0, 0, 2, 4, 0] rfl (lw_tv 2 rfl (q_nilP (hp.isPtr) rfl zN (q_fldL (p := vp) 0 fd26_0 rfl (hl1 _ hE4) zN (q_load (p := (padd vp 0)) (.inr rfl) ve1 one24 rfl ((hl1 _ hE4).ld (i := 0) z66_1) zN (lw_tv 1 rfl (q_idx (v := ve1) (p.length - 1) u24 tiS55 rfl rfl hx1.isSl rfl sD zN (q_fldL (p := eptr ve1 (p.length - 1) 3) 1 fd55_1 rfl (hl2 _ hE4) zN ?_)))))))))
  refine q_load (p := (padd (eptr ve1 (p.length - 1) 3) 1)) (.inr rfl) (.int .i64 ((p.getD (p.length - 1) Fn.zero).params)) one2 rfl ((hl2 _ hE4).ld (i := 1) z66_1) zN (lw_callE 81 [] [] [(.pointer (some ⟨g, 0, none⟩)), (.int .i64 ((p.getD (p.length - 1) Fn.zero).params))] rfl rfl cf81 zN (c_spec_l01Draw _ g _ _ _ ((p.getD (p.length - 1) Fn.zero).params) hs4 oM hx2.rng oM) ?_)
  rintro e5 w5 ⟨v5_0, x5_0, n5, rfl, hC5, hs5, hb5, hO5_0, hp5_0⟩
  refine ⟨_, rfl, ?_⟩
  have hzs5 : w4.heap.size ≤ w5.heap.size := hC5.size
  have hE5 : Chg [g] w w5 := hE4.trans hC5
  have hF6 := hO4_0.chg (o1) hC5 (fun c hc => by have := List.mem_singleton.1 hc; omega)
  have ha2 := hp5_0
  exact lw_tvn 1 rfl (wp_seq (wp_plain _ [0, 0, 0, 0, 0, 0, 0, 0] rfl (lw_tvn 8 rfl (wp_ret (post_ret [4, 5, 6, 7] rfl (.tuple #[(.int .i64 ((p.length - 1 : Nat) : Int)), (.int .i64 x3_0), v4_0, v5_0]) rfl ⟨((p.length - 1 : Nat) : Int), x3_0, v4_0, x4_0, v5_0, x5_0, n5, rfl, hE5, hs5, ⟨by omega, by omega⟩, z66_0, z66_0, ((hF6.up o1).low (B' := w.heap.size) oM), z66_0, ((hO5_0.up o1).low (B' := w.heap.size) oM), z66_0⟩)))))
theorem c_spec_A2Call (w : World) (vc : Value) (cs : List UInt8) (hcs : Rd (rdL rU) w.heap vc cs)  :
    Calls Tryz.prog 12 #[vc] w (fun e w' => ∃ (v va vb : Value) (p : List Fn) (f pk : Int) (a b : List Int), e = .returned (.tuple #[.agg #[v], .int .i64 f, .int .i64 pk, va, vb]) ∧ Ext w w' ∧ Fr (owS 3 (oFn 174 6) 55) w.heap.size w'.heap.size w'.heap v p ∧ Fr (owL rI 2) w.heap.size w'.heap.size w'.heap va a ∧ Fr (owL rI 2) w.heap.size w'.heap.size w'.heap vb b ∧ CallD p f pk a b) := by
  refine calls_mk [vc] 29 Tryz.func12 rfl rfl sM ?_
  have hE0 : Ext w w := Ext.refl w
  have hl_vc := hcs.lenle
  refine wp_seq (wp_plain _ [3, 0, 0, 0, 0] rfl (r_allocA (z := .agg #[.slice none 0 0]) zr26 zN fun w1 hX1 hz1 hB1 => ?_))
  have hzs1 : w.heap.size ≤ w1.heap.size := hX1.size
  have hE1 : Ext w w1 := hE0.trans hX1
  replace hB1 : BX w1.heap w.heap.size [(.slice none 0 0)] := hB1
  refine lw_tvn 4 rfl (wp_seq (wp_plain _ [0, 3, 0] rfl (lw_tv 1 rfl (lw_call 64 [] [] [vc] rfl rfl cf64 zN (c_spec_l00From _ _ _ (hcs.ext good_u hE1)) ?_))))
  rintro e2 w2 ⟨gB2, rfl, hX2, hs2, hg2⟩
  refine ⟨_, rfl, hX2, ?_⟩
  have hzs2 : w1.heap.size ≤ w2.heap.size := hX2.size
  have hE2 : Ext w w2 := hE1.trans hX2
  have hB1x2 := hB1.ext hX2
  refine lw_tvn 1 rfl (wp_seq (wp_plain _ [0, 4, 3, 4] rfl ?_))
  have hgl := hs2.lt
  refine lw_tv 1 rfl (lw_callE 65 [] [] [(.pointer (some ⟨gB2, 0, none⟩))] rfl rfl cf65 zN (c_spec_l02Some _ gB2 vc cs 0 hs2 oM) ?_)
  rintro e3 w3 ⟨v3, p3, n3, rfl, hC3, hs3, hb3, hO3, hG3⟩
  refine ⟨_, rfl, ?_⟩
  have hzs3 : w2.heap.size ≤ w3.heap.size := hC3.size
  have hE3 : Ext w w3 := hC3.below hE2 (fun c hc => by have := List.mem_singleton.1 hc; omega) hE2.size
  have hF4 := hB1x2.chg hC3 (fun hm => by have := List.mem_singleton.1 hm; omega)
  obtain ⟨⟨pl0, hdp0⟩, hdn, hpl⟩ := hG3
  have hdp := hdp0.npl
  have hq6 := hF4.lt
  refine r_allocA (z := .agg #[.slice none 0 0]) zr26 zN fun w5 hX5 hz5 hB5 => ?_
  have hzs5 : w3.heap.size ≤ w5.heap.size := hX5.size
  have hE5 : Ext w w5 := hE3.trans hX5
  have hF4x5 := hF4.ext hX5
  have hs3x5 := hs3.ext hX5
  have hO3x5 := hO3.ext ((good_owS (good_oFn 174 6))) hX5
  replace hB5 : BX w5.heap w3.heap.size [(.slice none 0 0)] := hB5
  refine e_setA (vs := [v3]) agg26 rfl rfl (by intro u hu; simp only [List.mem_cons, List.not_mem_nil, or_false] at hu; rcases hu with rfl <;> first | exact ⟨rfl, rfl⟩ | exact isSl_one hO3x5.isSlS) hB5 rfl rfl zN fun w7 hC7 hz7 hB7 => ?_
  replace hB7 : BX w7.heap w3.heap.size [v3] := hB7
  have hzs7 : w5.heap.size ≤ w7.heap.size := hC7.size
  have hE7 : Ext w w7 := hC7.below hE5 (fun c hc => by have := List.mem_singleton.1 hc; omega) hE5.size
  have hF8 := hF4x5.chg hC7 (fun hm => by have := List.mem_singleton.1 hm; omega)
  have hF9 := hs3x5.chg hC7 (fun c hc => by have := List.mem_singleton.1 hc; omega)
  have hF10 := hO3x5.chg ((good_owS (good_oFn 174 6))) hC7 (fun c hc => by have := List.mem_singleton.1 hc; omega)
  refine lw_nil (wp_seq (wp_plain _ [0, 4, 0, 0, 0, 0, 0, 0, 0, 0, 0] rfl (lw_tv 1 rfl (lw_callE 66 [] [] [(.pointer (some ⟨gB2, 0, none⟩)), (.pointer (some ⟨w3.heap.size, 0, none⟩))] rfl rfl cf66 zN (c_spec_a2Called _ gB2 _ _ _ 6 (.pointer (some ⟨w3.heap.size, 0, none⟩)) p3 hF9 oM (RN.box hB7 (RP.mk' (RN.of_frF2 hF10 (fun b hb => by have := List.mem_singleton.1 hb; omega))) (fun hb => by have := List.mem_singleton.1 hb; omega)) (by exact hdp) oM) ?_))))
  rintro e11 w11 ⟨x11_0, x11_1, v11_2, x11_2, v11_3, x11_3, n11, rfl, hC11, hs11, hb11, hp11_0, hp11_1, hO11_2, hp11_2, hO11_3, hp11_3⟩
  refine ⟨_, rfl, ?_⟩
  have hzs11 : w7.heap.size ≤ w11.heap.size := hC11.size
  have hE11 : Ext w w11 := hC11.below hE7 (fun c hc => by have := List.mem_singleton.1 hc; omega) hE7.size
  have hF12 := hF8.chg hC11 (fun hm => by have := List.mem_singleton.1 hm; omega)
  have hF13 := hF10.chg ((good_owS (good_oFn 174 6))) hC11 (fun c hc => by have := List.mem_singleton.1 hc; omega)
  have hF14 := hB7.chg hC11 (fun hm => by have := List.mem_singleton.1 hm; omega)
  have h0 := hp11_0
  have h1 := hp11_1
  have h2 := hp11_2
  have h3 := hp11_3
  have hft : x11_0.toNat = p3.length - 1 := by omega
  refine lw_tv 1 rfl (q_extract (vs := [(.int .i64 x11_0), (.int .i64 x11_1), v11_2, v11_3]) (.int .i64 x11_0) rfl rfl zN (q_extract (vs := [(.int .i64 x11_0), (.int .i64 x11_1), v11_2, v11_3]) (.int .i64 x11_1) rfl rfl zN (q_extract (vs := [(.int .i64 x11_0), (.int .i64 x11_1), v11_2, v11_3]) v11_2 rfl rfl zN (q_extract (vs := [(.int .i64 x11_0), (.int .i64 x11_1), v11_2, v11_3]) v11_3 rfl rfl zN (lw_tvn 4 rfl (wp_seq (wp_plain _ [2, 0, 0, 0, 0, 4, 0, 0, 0, 0] rfl (q_loadA (p := (.pointer (some ⟨w3.heap.size, 0, none⟩))) (.inr rfl) [v3] agg26 rfl (fun wq9 hw9 => LD.of_box (BX.ext (w := w11) hF14 hw9)) rfl zN (lw_tv 4 rfl ?_)))))))))
  refine e_setA (vs := [v3]) agg26 rfl rfl (by intro u hu; simp only [List.mem_cons, List.not_mem_nil, or_false] at hu; rcases hu with rfl <;> first | exact ⟨rfl, rfl⟩ | exact isSl_one hF13.isSlS) hF12 rfl rfl zN fun w15 hC15 hz15 hB15 => ?_
  replace hB15 : BX w15.heap w.heap.size [v3] := hB15
  have hzs15 : w11.heap.size ≤ w15.heap.size := hC15.size
  have hE15 : Ext w w15 := hC15.below hE11 (fun c hc => by have := List.mem_singleton.1 hc; omega) hE11.size
  have hF16 := hF13.chg ((good_owS (good_oFn 174 6))) hC15 (fun c hc => by have := List.mem_singleton.1 hc; omega)
  have hF17 := hF14.chg hC15 (fun hm => by have := List.mem_singleton.1 hm; omega)
  have hF18 := hO11_2.chg (o1) hC15 (fun c hc => by have := List.mem_singleton.1 hc; omega)
  have hF19 := hO11_3.chg (o1) hC15 (fun c hc => by have := List.mem_singleton.1 hc; omega)
  exact lw_tvn 4 rfl (wp_ret (post_retC (t0 := 3) (ts := [4, 5, 6]) (cs := [v3]) [(.int .i64 x11_0), (.int .i64 x11_1), v11_2, v11_3] rfl agg26 rfl hB15 rfl rfl ⟨v3, v11_2, v11_3, p3, x11_0, x11_1, x11_2, x11_3, rfl, hE15, ((hF16.up (good_owS (good_oFn 174 6))).low (B' := w.heap.size) oM), ((hF18.up o1).low (B' := w.heap.size) oM), ((hF19.up o1).low (B' := w.heap.size) oM), (by exact ⟨hdp, hdn, by omega, h0, by rw [hft]; exact h1, by rw [hft]; exact h2, by rw [hft]; exact h3⟩)⟩))
end Go.Proofs.YtnokbaiemimhjaaGreat
