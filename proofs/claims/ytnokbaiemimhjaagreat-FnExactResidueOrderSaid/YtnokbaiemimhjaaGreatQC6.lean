/- Vl, Vn, Vo, Yj, Yk, FwZ: texts of this claim, joined; what the claim does not come to is left out. -/
import Derived.Test.YtnokbaiemimhjaaGreatQC5
import Derived.Test.YtnokbaiemimhjaaGreatProg
import Derived.Deep.Strs
set_option linter.unusedVariables false
set_option linter.unusedSimpArgs false
namespace Go.Proofs.YtnokbaiemimhjaaGreat
open Go Go.RowKit
set_option linter.unusedVariables false
set_option linter.unusedSimpArgs false
set_option maxHeartbeats 4000000
set_option maxRecDepth 100000
attribute [local irreducible] LW
def SV (F d:Nat):Prop:=∀ (w:World) (S:List Nat) (g:Nat) (pp:Value) (dp n s0:Nat) (c0:Int) (p:List Fn) (ve:Value) (ex:Ex) (vv:Value) (env:List (List Int)) (hS:∀ b∈S,b < w.heap.size) (hgS:g∈S) (hB0:BX w.heap g [pp,.int .i64 ((n:Nat):Int),.int .i64 ((s0:Nat):Int),.int .i64 c0]) (hp:RN S (rP (rPr dp)) w.heap pp p) (hn:1≤n∧n≤13) (hs0:s0≤3000) (hc0:0≤c0∧c0≤9) (hex:RN S (rP (rEx d)) w.heap ve ex) (henv:RN S (rdL (rdL rI)) w.heap vv env) (hqenv:CapS vv)
  (hvp:VPr p) (hF:F≤p.length) (hwf:wf p ((F:Nat):Int) ex ((env.length:Nat):Int) = true) (hse:SrE n env) (hdp:env.length + ex.deep≤1000000),
  Calls Tryz.prog 193 #[.pointer (some ⟨g,0,none⟩),ve,vv] w (fun e w'=>∃ (v:Value) (x:List Int) (s1:Nat) (c1:Int),e = .returned v∧Chg [g] w w'∧BX w'.heap g [pp,.int .i64 ((n:Nat):Int),.int .i64 ((s1:Nat):Int),.int .i64 c1]∧RN S (rdL rI) w'.heap v x∧Ser1 n x∧s1≤3000∧(0≤c1∧c1≤9)∧RelV (go c0 (evE n (evC p n F) ex env s0)) x s1 c1)
def SC (F d:Nat):Prop:=∀ (w:World) (S:List Nat) (g:Nat) (pp:Value) (dp n s0:Nat) (c0:Int) (p:List Fn) (ve:Value) (ex:Ex) (vv:Value) (env:List (List Int)) (hS:∀ b∈S,b < w.heap.size) (hgS:g∈S) (hB0:BX w.heap g [pp,.int .i64 ((n:Nat):Int),.int .i64 ((s0:Nat):Int),.int .i64 c0]) (hp:RN S (rP (rPr dp)) w.heap pp p) (hn:1≤n∧n≤13) (hs0:s0≤3000) (hc0:0≤c0∧c0≤9) (hex:RN S (rP (rEx d)) w.heap ve ex) (henv:RN S (rdL (rdL rI)) w.heap vv env) (hqenv:CapS vv)
  (hvp:VPr p) (hF:F≤p.length) (hwf:wf p ((F:Nat):Int) ex ((env.length:Nat):Int) = true) (hse:SrE n env) (hdp:env.length + ex.deep≤1000000) (hk:ex.kind = 10∨ex.kind = 11),
  Calls Tryz.prog 223 #[.pointer (some ⟨g,0,none⟩),ve,vv] w (fun e w'=>∃ (v:Value) (x:List Int) (s1:Nat) (c1:Int),e = .returned v∧Chg [g] w w'∧BX w'.heap g [pp,.int .i64 ((n:Nat):Int),.int .i64 ((s1:Nat):Int),.int .i64 c1]∧RN S (rdL rI) w'.heap v x∧Ser1 n x∧s1≤3000∧(0≤c1∧c1≤9)∧RelV (go c0 (callV n (evC p n F) ex env s0)) x s1 c1)
def SO (F:Nat):Prop:=∀ (w:World) (S:List Nat) (g:Nat) (pp:Value) (dp n s0:Nat) (c0:Int) (p:List Fn) (dfx:Nat) (vf:Value) (fx:Fn) (va:Value) (env:List (List Int)) (hS:∀ b∈S,b < w.heap.size) (hgS:g∈S) (hB0:BX w.heap g [pp,.int .i64 ((n:Nat):Int),.int .i64 ((s0:Nat):Int),.int .i64 c0]) (hp:RN S (rP (rPr dp)) w.heap pp p) (hn:1≤n∧n≤13) (hs0:s0≤3000) (hc0:0≤c0∧c0≤9) (hfx:RN S (rP (rFn dfx)) w.heap vf fx) (henv:RN S (rdL (rdL rI)) w.heap va env) (hqenv:CapS va)
  (hvp:VPr p) (hF:F≤p.length) (hwf:∀ k,k < fx.outs.length→wf p ((F:Nat):Int) (fx.outs.getD k Ex.zero) ((env.length:Nat):Int) = true) (hse:SrE n env) (hdp:∀ k,k < fx.outs.length→env.length + (fx.outs.getD k Ex.zero).deep≤1000000) (hll:fx.outs.length≤1000000),
  Calls Tryz.prog 145 #[.pointer (some ⟨g,0,none⟩),vf,va] w (fun e w'=>∃ (v:Value) (x:List (List Int)) (s1:Nat) (c1:Int),e = .returned v∧Chg [g] w w'∧BX w'.heap g [pp,.int .i64 ((n:Nat):Int),.int .i64 ((s1:Nat):Int),.int .i64 c1]∧RN S (rdL (rdL rI)) w'.heap v x∧(CapS v∧x.length = fx.outs.length∧SrE n x)∧s1≤3000∧(0≤c1∧c1≤9)∧RelV (go c0 (evs n (evC p n F) fx.outs env s0)) x s1 c1)
theorem c_spec_l02Run_fail (w:World) (S:List Nat) (g:Nat) (pp:Value) (dp n s0:Nat) (c0:Int) (p:List Fn) (code:Int) (hS:∀ b∈S,b < w.heap.size) (hgS:g∈S) (hB0:BX w.heap g [pp,.int .i64 ((n :Nat):Int),.int .i64 ((s0 :Nat):Int),.int .i64 c0]) (hp:RN S (rP (rPr dp)) w.heap pp p) (hn:1≤n∧n≤13) (hs0:s0≤3000) (hc0:0≤c0∧c0≤9) (_hcode:-9223372036854775808≤code∧code≤9223372036854775807) (hcd:1≤code∧code≤9) :
  Calls Tryz.prog 221 #[.pointer (some ⟨g,0,none⟩),.int .i64 code] w (fun e w'=>∃ (v:Value) (x:List Int) (s1:Nat) (c1:Int),e = .returned v∧Chg [g] w w'∧BX w'.heap g [pp,.int .i64 ((n :Nat):Int),.int .i64 ((s1 :Nat):Int),.int .i64 c1]∧RN S (rdL rI) w'.heap v x∧Ser1 n x∧s1≤3000∧(0≤c1∧c1≤9)∧(s1 = s0∧c1 = if c0 = 0 then code else c0)):=by
 refine calls_mk [.pointer (some ⟨g,0,none⟩),.int .i64 code] 19 Tryz.func221 rfl rfl sM ?_
 have hE0:Chg [g] w w:=Chg.refl [g] w
 have hgl:=hB0.lt
 refine wp_seq (wp_plain _ [0] rfl (lw_tvn 1 rfl (wp_seq (wp_seq (wp_plain _ [0,0,0,2,0] rfl (lw_tv 1 rfl (q_nil rfl zN (q_fldP (p:=(.pointer (some ⟨g,0,none⟩))) (b:=g) (o:=0) 3 fd157_3 rfl rfl zN (q_load (p:=(padd (.pointer (some ⟨g,0,none⟩)) 3)) (.inr rfl) (.int .i64 c0) one2 rfl (hB0.ldp (i:=3) sM) zN ?_)))))))))
 by_cases hc1:c0 = ((0 :Nat):Int)
 ·
  refine q_eql true rfl rfl (decide_eq_true hc1) zN (lw_nil (c_cond_t rfl (wp_plain _ [0,0,0,0,4] rfl (lw_tv 2 rfl (q_nil rfl zN (q_fldP (p:=(.pointer (some ⟨g,0,none⟩))) (b:=g) (o:=0) 3 fd157_3 rfl rfl zN (e_setB (k:=3) (w:=w) sz2 rfl rfl ⟨rfl,rfl⟩ hB0 sM zN fun w2 hC2 hz2 hB2=>?_)))))))
  replace hB2:BX w2.heap g [pp,(.int .i64 ((n :Nat):Int)),(.int .i64 ((s0 :Nat):Int)),(.int .i64 code)]:=hB2
  have hE2:Chg [g] w w2:=hE0.trans hC2
  have hzs2:=hC2.size
  refine lw_nil (wp_seq (wp_plain _ [0,0,0,2,3,0] rfl (lw_tv 1 rfl (q_nil rfl zN (q_fldP (p:=(.pointer (some ⟨g,0,none⟩))) (b:=g) (o:=0) 1 fd157_1 rfl rfl zN (q_load (p:=(padd (.pointer (some ⟨g,0,none⟩)) 1)) (.inr rfl) (.int .i64 ((n :Nat):Int)) one3 rfl (hB2.ldp (i:=1) sM) zN ?_))))))
  refine lw_call 122 [] [] [(.int .i64 ((0 :Nat):Int)),(.int .i64 ((n :Nat):Int))] rfl rfl cf122 zN (c_spec_l01Const _ _ (n) oM sD oM) ?_
  rintro e3 w3 ⟨v3_0,rfl,hX3,hO3_0⟩
  refine ⟨_,rfl,hX3,?_⟩
  have hzs3:=hX3.size
  have hE3:Chg [g] w w3:=hE2.ext hX3
  have hB2x3:=hB2.ext hX3
  exact lw_tvn 1 rfl (wp_ret (post_ret [4] rfl v3_0 rfl ⟨v3_0,cst n ((0 :Nat):Int),s0,code,rfl,hE3,hB2x3,(RN.of_fr1 hO3_0 (fun b hb=>by have:=hS b hb; omega)),(by exact cst_ser (by decide)),oM,oM,(by exact ⟨rfl,by first | (rw [if_pos oM]) | (rw [if_neg oM])⟩)⟩))
 ·
  refine q_eql false rfl rfl (decide_eq_false hc1) zN (lw_nil (c_cond_f rfl (wp_skip (wp_seq (wp_plain _ [0,0,0,2,3,0] rfl (lw_tv 1 rfl (q_nil rfl zN (q_fldP (p:=(.pointer (some ⟨g,0,none⟩))) (b:=g) (o:=0) 1 fd157_1 rfl rfl zN (q_load (p:=(padd (.pointer (some ⟨g,0,none⟩)) 1)) (.inr rfl) (.int .i64 ((n :Nat):Int)) one3 rfl (hB0.ldp (i:=1) sM) zN ?_)))))))))
  refine lw_call 122 [] [] [(.int .i64 ((0 :Nat):Int)),(.int .i64 ((n :Nat):Int))] rfl rfl cf122 zN (c_spec_l01Const _ _ (n) oM sD oM) ?_
  rintro e4 w4 ⟨v4_0,rfl,hX4,hO4_0⟩
  refine ⟨_,rfl,hX4,?_⟩
  have hzs4:=hX4.size
  have hE4:Chg [g] w w4:=hE0.ext hX4
  have hB0x4:=hB0.ext hX4
  exact lw_tvn 1 rfl (wp_ret (post_ret [4] rfl v4_0 rfl ⟨v4_0,cst n ((0 :Nat):Int),s0,c0,rfl,hE4,hB0x4,(RN.of_fr1 hO4_0 (fun b hb=>by have:=hS b hb; omega)),(by exact cst_ser (by decide)),oM,oM,(by exact ⟨rfl,by first | (rw [if_pos oM]) | (rw [if_neg oM])⟩)⟩))
theorem z222_0 {p:Prop} (h:p:=by unfold maxLen; first | omega | assumption | (simp only [List.length_nil,List.length_cons,List.length_append,List.length_set,List.length_replicate]; omega) | (simp [List.length_nil,List.length_cons,List.length_append,List.length_set,List.length_replicate]; done) | (simp [List.length_nil,List.length_cons,List.length_append,List.length_set,List.length_replicate]; omega)):p:=h
theorem c_spec_l02Env (w:World) (S:List Nat) (vv:Value) (env:List (List Int)) (vx:Value) (x:List Int) (hS:∀ b∈S,b < w.heap.size) (henv:RN S (rdL (rdL rI)) w.heap vv env) (hqenv:CapS vv) (hx:RN S (rdL rI) w.heap vx x) (hel:env.length≤1000000) :
  Calls Tryz.prog 222 #[vv,vx] w (fun e w'=>∃ v,e = .returned v∧Ext w w'∧RN S (rdL (rdL rI)) w'.heap v (env++[x])∧CapS v):=by
 refine calls_mk [vv,vx] 25 Tryz.func222 rfl rfl sM ?_
 have hE0:Ext w w:=Ext.refl w
 have hl_vv:=henv.lenL
 unfold maxLen at hl_vv
 have hl_vx:=hx.lenL
 unfold maxLen at hl_vx
 refine wp_seq (wp_plain _ [0] rfl (lw_tvn 1 rfl (wp_seq (wp_plain _ [3,0] rfl (r_nil rV good_rV u32 ti27 zN fun v1 w1 hX1 hz1 hO1=>?_)))))
 have hzs1:=hX1.size
 have hE1:=hE0.trans hX1
 obtain ⟨us1,F1,hb1⟩:=Bld.nil (S:=S) (hO1.low (B':=w.heap.size) (Nat.le_refl _))
 refine lw_tvn 1 rfl (wp_seq (wp_seq (wp_plain _ [0] rfl (lw_tvn 1 rfl (wp_block (c_loop (S:=Nat × Value) (fun (⟨k,vo⟩:Nat × Value)=>([(5,vo),(6,(.int .i64 ((k :Nat):Int))),(0,vv),(1,vx)]:List (Nat × Value))) (fun (⟨k,vo⟩:Nat × Value) (W:World)=>Ext w W∧k≤env.length∧BldE 27 S w.heap.size W.heap vo (env.take k)) (fun (⟨k,vo⟩:Nat × Value)=>env.length - k) (0,v1) ⟨rfl,rfl,rfl,rfl,trivial⟩ ⟨hE1,sD,(by exact ⟨_,_,by assumption⟩)⟩ ?_))))))
 clear hE0 hO1 hz1 hX1 hzs1 hE1
 rintro ⟨k,vo⟩ ρ2 w2 ⟨hE2,hp2_0,hbld⟩
 have hzs2:w.heap.size≤w2.heap.size:=hE2.size
 obtain ⟨us4,F4,hbl3⟩:=hbld
 refine wp_seq (wp_seq (wp_plain _ [0,0,0,0] rfl (lw_tv 2 rfl (q_len (v:=vv) u32 rfl henv.slL zN ?_))))
 by_cases hc5:((k :Nat):Int) < ((env.length :Nat):Int)
 ·
  refine q_lss true rfl rfl (decide_eq_true hc5) zN (lw_nil (c_cond_t rfl (wp_skip (wp_seq (wp_block (wp_plain _ [0,0,0,0,2,3,4,0] rfl (lw_tv 3 rfl (q_idx (v:=vv) k u32 ti27 rfl rfl henv.slL rfl sD zN ?_))))))))
  obtain ⟨ue6,hl6,hr6⟩:=RN.getL (w:=w) g1 [] (k:=k) henv sD
  have hln6:=hr6.lenL
  unfold maxLen at hln6
  refine q_load (p:=eptr vv k 1) (.inr rfl) ue6 one27 rfl (hl6 _ (Chg.of_ext S hE2)) zN (r_one (u:=ue6) (B:=w2.heap.size) good_rV u32 ti27 rfl rfl (frV w2.heap.size w2.heap.size _ (hr6.one1 g1)) (Nat.le_refl _) zN fun v7 w7 hX7 hz7 hO7=>?_)
  have hzs7:=hX7.size
  have hE7:=hE2.trans hX7
  have hN8:=hbl3.ext hX7
  refine e_appB (v:=vo) (a:=v7) (u:=ue6) u32 ti27 rfl rfl rfl hN8 oM hO7 ((hr6.add (F:=F4) g1 hN8.low).ext g1 hE7) sD z222_0 zN ?_
  rintro v9 w9 G9 hC9 hF9 ⟨us9,F9,hb9⟩
  have hzs9:=hC9.size
  have hE9:Ext w w9:=hC9.below hE7 (fun c hc=>hN8.low c (hF9 c hc)) hE7.size
  refine lw_tvn 1 rfl (wp_plain _ [0,0,0] rfl (lw_tv 1 rfl (q_add ((k + 1 :Nat):Int) rfl rfl (w64n oM sD) zN (lw_tvn 1 rfl ?_))))
  exact ⟨((k + 1),v9),_,rfl,⟨rfl,rfl,rfl,rfl,trivial⟩,⟨hE9,sD,(by rw [take_snoc [] oM]; exact ⟨_,_,by assumption⟩)⟩,by first | omega | (dsimp only; omega)⟩
 ·
  refine q_lss false rfl rfl (decide_eq_false hc5) zN (lw_nil (c_cond_f rfl (wp_exit (t_exit (t_exit (c_exit_here (wp_seq (wp_plain _ [0,0,3,4,0] rfl (lw_tv 2 rfl (r_one (u:=vx) (B:=w2.heap.size) good_rV u32 ti27 rfl rfl (frV w2.heap.size w2.heap.size _ (hx.one1 g1)) (Nat.le_refl _) zN fun v10 w10 hX10 hz10 hO10=>?_))))))))))
  have hzs10:=hX10.size
  have hE10:=hE2.trans hX10
  have hN11:=hbl3.ext hX10
  refine e_appB (v:=vo) (a:=v10) (u:=vx) u32 ti27 rfl rfl rfl hN11 oM hO10 ((hx.add (F:=F4) g1 hN11.low).ext g1 hE10) sD z222_0 zN ?_
  rintro v12 w12 G12 hC12 hF12 ⟨us12,F12,hb12⟩
  have hzs12:=hC12.size
  have hE12:Ext w w12:=hC12.below hE10 (fun c hc=>hN11.low c (hF12 c hc)) hE10.size
  exact lw_tvn 1 rfl (wp_ret (post_ret [4] rfl v12 rfl ⟨v12,rfl,hE12,(by have h9:=(hb12.done hS); rw [List.take_of_length_le oM] at h9; exact h9),hb12.cap⟩))
theorem c_spec_l02Run_outs (w:World) (S:List Nat) (F:Nat) (g:Nat) (pp:Value) (dp n s0:Nat) (c0:Int) (p:List Fn) (dfx:Nat) (vf:Value) (fx:Fn) (va:Value) (env:List (List Int)) (hS:∀ b∈S,b < w.heap.size) (hgS:g∈S) (hB0:BX w.heap g [pp,.int .i64 ((n :Nat):Int),.int .i64 ((s0 :Nat):Int),.int .i64 c0]) (hp:RN S (rP (rPr dp)) w.heap pp p) (hn:1≤n∧n≤13) (hs0:s0≤3000) (hc0:0≤c0∧c0≤9) (hfx:RN S (rP (rFn dfx)) w.heap vf fx) (henv:RN S (rdL (rdL rI)) w.heap va env) (hqenv:CapS va) (hvp:VPr p) (hF:F≤p.length) (hwf:∀ k,k < fx.outs.length→wf p ((F :Nat):Int) (fx.outs.getD k Ex.zero) ((env.length :Nat):Int) = true) (hse:SrE n env) (hdp:∀ k,k < fx.outs.length→env.length + (fx.outs.getD k Ex.zero).deep≤1000000) (hll:fx.outs.length≤1000000) (IHv:∀ d,SV F d) :
  Calls Tryz.prog 145 #[.pointer (some ⟨g,0,none⟩),vf,va] w (fun e w'=>∃ (v:Value) (x:List (List Int)) (s1:Nat) (c1:Int),e = .returned v∧Chg [g] w w'∧BX w'.heap g [pp,.int .i64 ((n :Nat):Int),.int .i64 ((s1 :Nat):Int),.int .i64 c1]∧RN S (rdL (rdL rI)) w'.heap v x∧(CapS v∧x.length = fx.outs.length∧SrE n x)∧s1≤3000∧(0≤c1∧c1≤9)∧RelV (go c0 (evs n (evC p n F) fx.outs env s0)) x s1 c1):=by
 refine calls_mk [.pointer (some ⟨g,0,none⟩),vf,va] 32 Tryz.func145 rfl rfl sM ?_
 have hE0:Chg [g] w w:=Chg.refl [g] w
 have hl_va:=henv.lenL
 unfold maxLen at hl_va
 have hgl:=hB0.lt
 refine wp_seq (wp_plain _ [0] rfl (lw_tvn 1 rfl (wp_seq (wp_plain _ [3,0] rfl (r_nil rV good_rV u32 ti27 zN fun v1 w1 hX1 hz1 hO1=>?_)))))
 have hzs1:=hX1.size
 have hE1:Chg [g] w w1:=hE0.ext hX1
 have hB0x1:=hB0.ext hX1
 obtain ⟨us1,F1,hb1⟩:=Bld.nil (S:=S) (hO1.low (B':=w.heap.size) (Nat.le_refl _))
 refine lw_tvn 1 rfl (wp_seq (wp_seq (wp_plain _ [0] rfl (lw_tvn 1 rfl (wp_block ?_)))))
 refine c_loop (S:=Nat × Value × List (List Int) × Nat × Int) (fun (⟨k,vo,xs,s9,c9⟩:Nat × Value × List (List Int) × Nat × Int)=>([(7,vo),(8,(.int .i64 ((k :Nat):Int))),(0,(.pointer (some ⟨g,0,none⟩))),(1,vf),(2,va)]:List (Nat × Value))) (fun (⟨k,vo,xs,s9,c9⟩:Nat × Value × List (List Int) × Nat × Int) (W:World)=>Chg [g] w W∧BX W.heap g [pp,.int .i64 ((n :Nat):Int),.int .i64 ((s9 :Nat):Int),.int .i64 c9]∧k≤fx.outs.length∧BldE 27 S w.heap.size W.heap vo xs∧xs.length = k∧SrE n xs∧s9≤3000∧(0≤c9∧c9≤9)∧RelV (go c0 (evs n (evC p n F) (fx.outs.take k) env s0)) xs s9 c9) (fun (⟨k,vo,xs,s9,c9⟩:Nat × Value × List (List Int) × Nat × Int)=>fx.outs.length - k) (0,v1,([]:List (List Int)),s0,c0) ⟨rfl,rfl,rfl,rfl,rfl,trivial⟩ ⟨hE1,hB0x1,sD,(by exact ⟨_,_,by assumption⟩),(by rfl),(by intro j hj; simp at hj),oM,oM,(by exact all_start _ _ _ _ _ _)⟩ ?_
 clear hE0 hO1 hz1 hX1 hzs1 hE1
 rintro ⟨k,vo,xs,s9,c9⟩ ρ2 w2 ⟨hE2,hL2_0,hp2_0,hbld,hxl,hxs,hp2_4,hp2_5,hrl⟩
 have hzs2:w.heap.size≤w2.heap.size:=hE2.size
 have hq3:=hL2_0.lt
 obtain ⟨us5,F5,hbl4⟩:=hbld
 refine wp_seq (wp_seq (wp_plain _ [0,0,0,0,2,0,0] rfl (lw_tv 2 rfl (q_nilP (hfx.isPtr) rfl zN ?_))))
 obtain ⟨cs6,hr6,hl6⟩:=RN.at (good_rFn _) hfx
 obtain ⟨ve6,rfl,hx6⟩:=RF.of hr6
 have hln6:=hx6.rn.lenle
 unfold maxLen at hln6
 refine q_fldL (p:=vf) 2 fd55_2 rfl (hl6 _ (hE2.sub (subS hgS))) zN (q_load (p:=(padd vf 2)) (.inr rfl) ve6 one53 rfl ((hl6 _ (hE2.sub (subS hgS))).ld (i:=2) (by simp [exC,fnC])) zN (q_len (v:=ve6) u53 rfl hx6.rn.isSl zN ?_))
 by_cases hc7:((k :Nat):Int) < ((fx.outs.length :Nat):Int)
 ·
  refine q_lss true rfl rfl (decide_eq_true hc7) zN (lw_nil (c_cond_t rfl (wp_skip (wp_seq (wp_block (wp_plain _ [0,0,0,0,0,2,0,0,0,4,3,4,0] rfl (lw_tv 3 rfl (q_nilP (hfx.isPtr) rfl zN (q_fldL (p:=vf) 2 fd55_2 rfl (hl6 _ (hE2.sub (subS hgS))) zN (q_load (p:=(padd vf 2)) (.inr rfl) ve6 one53 rfl ((hl6 _ (hE2.sub (subS hgS))).ld (i:=2) (by simp [exC,fnC])) zN (lw_tv 1 rfl ?_)))))))))))
  refine q_idx (v:=ve6) k u53 tiS174 rfl rfl hx6.rn.isSl rfl sD zN (lw_tv 1 rfl ?_)
  refine lw_callE 193 [] [] [(.pointer (some ⟨g,0,none⟩)),(eptr ve6 k 5),va] rfl rfl cf193 zN (IHv dfx _ (S++F5) g pp dp (n) (s9) (c9) (p) (eptr ve6 k 5) (fx.outs.getD k Ex.zero) va (env) (fun b hb=>(by rcases List.mem_append.1 hb with hb | hb; (have:=hS b hb; omega); exact hbl4.lt b hb:b < w2.heap.size)) (List.mem_append_left _ hgS) hL2_0 ((hp.add (F:=F5) (good_rP (good_rPr dp)) hbl4.low).chg (good_rP (good_rPr dp)) (hE2.sub (subA hgS))) oM oM oM (RN.ptr (good_rEx dfx) (by decide) Ex.zero ((hx6.rn.add (F:=F5) (good_rdS (good_rEx dfx)) hbl4.low).chg (good_rdS (good_rEx dfx)) (hE2.sub (subA hgS))) sD) ((henv.add (F:=F5) g2 hbl4.low).chg g2 (hE2.sub (subA hgS))) hqenv (by exact hvp) oM (by exact hwf k oM) (by exact hse) (by exact hdp k oM)) ?_
  rintro e8 w8 ⟨v8,x8,s8,c8,rfl,hC8,hB8,hr8,hse8,hsb8,hcb8,hrl8⟩
  refine ⟨_,rfl,?_⟩
  have hzs8:=hC8.size
  have hE8:Chg [g] w w8:=hE2.trans hC8
  have hF12:=hbl4.run hgS oM hC8
  have hsn8:=hse8.1
  replace hr8:RN (S++F5) (rdL rI) w8.heap v8 x8:=hr8
  refine r_one (u:=v8) (B:=w8.heap.size) good_rV u32 ti27 rfl rfl (frV w8.heap.size w8.heap.size _ (hr8.one1 g1)) (Nat.le_refl _) zN fun v14 w14 hX14 hz14 hO14=>?_
  have hzs14:=hX14.size
  have hE14:Chg [g] w w14:=hE8.ext hX14
  have hB8x14:=hB8.ext hX14
  have hN15:=hF12.ext hX14
  have hN16:=hr8.ext g1 hX14
  refine e_appB (v:=vo) (a:=v14) (u:=v8) u32 ti27 rfl rfl rfl hN15 oM hO14 hN16 sD (by unfold maxLen; first | omega | assumption | (simp; done) | (simp; omega)) zN ?_
  rintro v17 w17 G17 hC17 hF17 ⟨us17,F17,hb17⟩
  have hzs17:=hC17.size
  have hE17:Chg [g] w w17:=hE14.fresh hC17 (fun c hc=>hN15.low c (hF17 c hc))
  have hF18:=hB8x14.chg hC17 (fun hm=>by have:=hN15.low _ (hF17 _ hm); have:=hN15.lt _ (hF17 _ hm); omega)
  refine lw_tvn 1 rfl (wp_plain _ [0,0,0] rfl (lw_tv 1 rfl (q_add ((k + 1 :Nat):Int) rfl rfl (w64n oM sD) zN (lw_tvn 1 rfl ?_))))
  exact ⟨((k + 1),v17,(xs++[x8]),s8,c8),_,rfl,⟨rfl,rfl,rfl,rfl,rfl,trivial⟩,⟨hE17,hF18,sD,(by exact ⟨_,_,by assumption⟩),(by rw [List.length_append,List.length_singleton,hxl]),(by exact SrE.snoc hxs (by assumption)),oM,oM,(by exact rel_snoc oM hrl (by assumption))⟩,by first | omega | (dsimp only; omega)⟩
 ·
  exact q_lss false rfl rfl (decide_eq_false hc7) zN (lw_nil (c_cond_f rfl (wp_exit (t_exit (t_exit (c_exit_here (wp_seq (wp_plain _ [0,0] rfl (lw_tvn 2 rfl (wp_ret (post_ret [6] rfl vo rfl ⟨vo,xs,s9,c9,rfl,hE2,hL2_0,(hbl4.done hS),(by exact ⟨hbl4.cap,by omega,hxs⟩),oM,oM,(by rw [List.take_of_length_le oM] at hrl; exact hrl)⟩)))))))))))
theorem c_outs (F:Nat) (IH:∀ d,SV F d):SO F:=by
 intro w S g pp dp n s0 c0 p dfx vf fx va env hS hgS hB0 hp hn hs0 hc0 hfx henv hqenv hvp hF hwf hse hdp hll
 exact c_spec_l02Run_outs w S F g pp dp n s0 c0 p dfx vf fx va env hS hgS hB0 hp hn hs0 hc0 hfx henv hqenv hvp hF hwf hse hdp hll IH
theorem z223_0 {p:Prop} (h:p:=by first | exact rel_cone oM oM hKr (by assumption) | exact rel_clop oM oM hKr (by rw [show (ex.count).toNat = i from by omega]; exact hrl9)):p:=h
theorem z223_1 {p:Prop} (h:p:=by simp [exC,fnC]):p:=h
theorem c_spec_l02Run_call (w:World) (S:List Nat) (F:Nat) (g:Nat) (pp:Value) (dp n s0:Nat) (c0:Int) (p:List Fn) (dex:Nat) (ve:Value) (ex:Ex) (vv:Value) (env:List (List Int)) (hS:∀ b∈S,b < w.heap.size) (hgS:g∈S) (hB0:BX w.heap g [pp,.int .i64 ((n :Nat):Int),.int .i64 ((s0 :Nat):Int),.int .i64 c0]) (hp:RN S (rP (rPr dp)) w.heap pp p) (hn:1≤n∧n≤13) (hs0:s0≤3000) (hc0:0≤c0∧c0≤9) (hex:RN S (rP (rEx dex)) w.heap ve ex) (henv:RN S (rdL (rdL rI)) w.heap vv env) (hqenv:CapS vv) (hvp:VPr p) (hF:F≤p.length) (hwf:wf p ((F :Nat):Int) ex ((env.length :Nat):Int) = true) (hse:SrE n env) (hdp:env.length + ex.deep≤1000000) (hk:ex.kind = 10∨ex.kind = 11) (IH1:∀ F',F' < F→∀ d,SV F' d) (IH2:∀ d',d' < dex→SV F d') :
  Calls Tryz.prog 223 #[.pointer (some ⟨g,0,none⟩),ve,vv] w (fun e w'=>∃ (v:Value) (x:List Int) (s1:Nat) (c1:Int),e = .returned v∧Chg [g] w w'∧BX w'.heap g [pp,.int .i64 ((n :Nat):Int),.int .i64 ((s1 :Nat):Int),.int .i64 c1]∧RN S (rdL rI) w'.heap v x∧Ser1 n x∧s1≤3000∧(0≤c1∧c1≤9)∧RelV (go c0 (callV n (evC p n F) ex env s0)) x s1 c1):=by
 refine calls_mk [.pointer (some ⟨g,0,none⟩),ve,vv] 81 Tryz.func223 rfl rfl sM ?_
 have hE0:Chg [g] w w:=Chg.refl [g] w
 have hl_vv:=henv.lenL
 unfold maxLen at hl_vv
 have hgl:=hB0.lt
 have hwk:=wk_call hwf hk
 have hk9:ex.kind≠9:=by omega
 have hkH:=hidI hk
 clear hk
 have hdk:=deep_kids ex
 refine wp_seq (wp_plain _ [0] rfl (lw_tvn 1 rfl (wp_seq (wp_plain _ [3,0] rfl (r_nil rV good_rV u32 ti27 zN fun v1 w1 hX1 hz1 hO1=>?_)))))
 have hzs1:=hX1.size
 have hE1:Chg [g] w w1:=hE0.ext hX1
 have hB0x1:=hB0.ext hX1
 obtain ⟨us1,F1,hb1⟩:=Bld.nil (S:=S) (hO1.low (B':=w.heap.size) (Nat.le_refl _))
 refine lw_tvn 1 rfl (wp_seq (wp_seq (wp_plain _ [0] rfl (lw_tvn 1 rfl (wp_block ?_)))))
 refine c_loop (S:=Nat × Value × List (List Int) × Nat × Int) (fun (⟨k,vo,xs,s9,c9⟩:Nat × Value × List (List Int) × Nat × Int)=>([(7,vo),(8,(.int .i64 ((k :Nat):Int))),(0,(.pointer (some ⟨g,0,none⟩))),(1,ve),(2,vv)]:List (Nat × Value))) (fun (⟨k,vo,xs,s9,c9⟩:Nat × Value × List (List Int) × Nat × Int) (W:World)=>Chg [g] w W∧BX W.heap g [pp,.int .i64 ((n :Nat):Int),.int .i64 ((s9 :Nat):Int),.int .i64 c9]∧k≤ex.kids.length∧BldE 27 S w.heap.size W.heap vo xs∧xs.length = k∧SrE n xs∧s9≤3000∧(0≤c9∧c9≤9)∧RelV (go c0 (evs n (evC p n F) (ex.kids.take k) env s0)) xs s9 c9) (fun (⟨k,vo,xs,s9,c9⟩:Nat × Value × List (List Int) × Nat × Int)=>ex.kids.length - k) (0,v1,([]:List (List Int)),s0,c0) ⟨rfl,rfl,rfl,rfl,rfl,trivial⟩ ⟨hE1,hB0x1,sD,(by exact ⟨_,_,by assumption⟩),(by rfl),(by intro j hj; simp at hj),oM,oM,(by exact all_start _ _ _ _ _ _)⟩ ?_
 clear hE0 hO1 hz1 hX1 hzs1 hE1
 rintro ⟨k,vo,xs,s9,c9⟩ ρ2 w2 ⟨hE2,hL2_0,hp2_0,hbld,hxl,hxs,hp2_4,hp2_5,hrl⟩
 have hzs2:w.heap.size≤w2.heap.size:=hE2.size
 have hq3:=hL2_0.lt
 obtain ⟨us5,F5,hbl4⟩:=hbld
 refine wp_seq (wp_seq (wp_plain _ [0,0,0,0,2,0,0] rfl (lw_tv 2 rfl (q_nilP (hex.isPtr) rfl zN ?_))))
 obtain ⟨cs6,hr6,hl6⟩:=RN.at (good_rEx _) hex
 obtain ⟨dd6,ve6,hd6,rfl,hx6⟩:=RX.of hr6
 have hln6:=hx6.rn.lenle
 unfold maxLen at hln6
 refine q_fldL (p:=ve) 4 fd174_4 rfl (hl6 _ (hE2.sub (subS hgS))) zN (q_load (p:=(padd ve 4)) (.inr rfl) ve6 one53 rfl ((hl6 _ (hE2.sub (subS hgS))).ld (i:=4) z223_1) zN (q_len (v:=ve6) u53 rfl hx6.rn.isSl zN ?_))
 by_cases hc7:((k :Nat):Int) < ((ex.kids.length :Nat):Int)
 ·
  refine q_lss true rfl rfl (decide_eq_true hc7) zN (lw_nil (c_cond_t rfl (wp_skip (wp_seq (wp_block (wp_plain _ [0,0,0,0,0,2,0,0,0,4,3,4,0] rfl ?_))))))
  have hvo:=hvp.outs (ex.num).toNat oM
  have hvr:=hvp.par (ex.num).toNat oM
  have hkd:=kd_at (l:=ex.kids) (k:=k) oM
  have hkb:ex.kids.length≤412:=by omega
  refine lw_tv 3 rfl (q_nilP (hex.isPtr) rfl zN (q_fldL (p:=ve) 4 fd174_4 rfl (hl6 _ (hE2.sub (subS hgS))) zN (q_load (p:=(padd ve 4)) (.inr rfl) ve6 one53 rfl ((hl6 _ (hE2.sub (subS hgS))).ld (i:=4) z223_1) zN (lw_tv 1 rfl (q_idx (v:=ve6) k u53 tiS174 rfl rfl hx6.rn.isSl rfl sD zN (lw_tv 1 rfl ?_))))))
  refine lw_callE 193 [] [] [(.pointer (some ⟨g,0,none⟩)),(eptr ve6 k 5),vv] rfl rfl cf193 zN (IH2 dd6 oM _ (S++F5) g pp dp (n) (s9) (c9) (p) (eptr ve6 k 5) (ex.kids.getD k Ex.zero) vv (env) (fun b hb=>(by rcases List.mem_append.1 hb with hb | hb; (have:=hS b hb; omega); exact hbl4.lt b hb:b < w2.heap.size)) (List.mem_append_left _ hgS) hL2_0 ((hp.add (F:=F5) (good_rP (good_rPr dp)) hbl4.low).chg (good_rP (good_rPr dp)) (hE2.sub (subA hgS))) oM oM oM (RN.ptr (good_rEx dd6) (by decide) Ex.zero ((hx6.rn.add (F:=F5) (good_rdS (good_rEx dd6)) hbl4.low).chg (good_rdS (good_rEx dd6)) (hE2.sub (subA hgS))) sD) ((henv.add (F:=F5) g2 hbl4.low).chg g2 (hE2.sub (subA hgS))) hqenv (by exact hvp) oM (by exact wf_at0 hwf oM oM) (by exact hse) oM) ?_
  rintro e8 w8 ⟨v8,x8,s8,c8,rfl,hC8,hB8,hr8,hse8,hsb8,hcb8,hrl8⟩
  refine ⟨_,rfl,?_⟩
  have hzs8:=hC8.size
  have hE8:Chg [g] w w8:=hE2.trans hC8
  have hF12:=hbl4.run hgS oM hC8
  have hsn8:=hse8.1
  replace hr8:RN (S++F5) (rdL rI) w8.heap v8 x8:=hr8
  refine r_one (u:=v8) (B:=w8.heap.size) good_rV u32 ti27 rfl rfl (frV w8.heap.size w8.heap.size _ (hr8.one1 g1)) (Nat.le_refl _) zN fun v14 w14 hX14 hz14 hO14=>?_
  have hzs14:=hX14.size
  have hE14:Chg [g] w w14:=hE8.ext hX14
  have hB8x14:=hB8.ext hX14
  have hN15:=hF12.ext hX14
  have hN16:=hr8.ext g1 hX14
  refine e_appB (v:=vo) (a:=v14) (u:=v8) u32 ti27 rfl rfl rfl hN15 oM hO14 hN16 sD (by unfold maxLen; first | omega | assumption | (simp; done) | (simp; omega)) zN ?_
  rintro v17 w17 G17 hC17 hF17 ⟨us17,F17,hb17⟩
  have hzs17:=hC17.size
  have hE17:Chg [g] w w17:=hE14.fresh hC17 (fun c hc=>hN15.low c (hF17 c hc))
  have hF18:=hB8x14.chg hC17 (fun hm=>by have:=hN15.low _ (hF17 _ hm); have:=hN15.lt _ (hF17 _ hm); omega)
  refine lw_tvn 1 rfl (wp_plain _ [0,0,0] rfl (lw_tv 1 rfl (q_add ((k + 1 :Nat):Int) rfl rfl (w64n oM sD) zN (lw_tvn 1 rfl ?_))))
  exact ⟨((k + 1),v17,(xs++[x8]),s8,c8),_,rfl,⟨rfl,rfl,rfl,rfl,rfl,trivial⟩,⟨hE17,hF18,sD,(by exact ⟨_,_,by assumption⟩),(by rw [List.length_append,List.length_singleton,hxl]),(by exact SrE.snoc hxs (by assumption)),oM,oM,(by exact rel_snoc oM hrl (by assumption))⟩,by first | omega | (dsimp only; omega)⟩
 ·
  refine q_lss false rfl rfl (decide_eq_false hc7) zN (lw_nil (c_cond_f rfl (wp_exit (t_exit (t_exit (c_exit_here (wp_seq (wp_draw _ [0,0,0,1,0,0,1,0,0,0,1,0,0] mixed (by kernel_rfl) ?_))))))))
  have hfn19:=hbl4.done hS
  have hfn19c:=hbl4.cap
  have hvo:=hvp.outs (ex.num).toNat oM
  have hvr:=hvp.par (ex.num).toNat oM
  have hxk:xs.length = ex.kids.length:=by omega
  have hKr:RelV (go c0 (evs n (evC p n F) ex.kids env s0)) xs s9 c9:=by rw [List.take_of_length_le oM] at hrl; exact hrl
  refine lw_tv 1 rfl (q_nil rfl zN (q_fldP (p:=(.pointer (some ⟨g,0,none⟩))) (b:=g) (o:=0) 0 fd157_0 rfl rfl zN (q_load (p:=(padd (.pointer (some ⟨g,0,none⟩)) 0)) (.inl rfl) pp one93 rfl (hL2_0.ldp (i:=0) sM) zN (q_nilP (hp.isPtr) rfl zN ?_))))
  obtain ⟨cs20,hr20,hl20⟩:=RN.at (good_rPr _) hp
  obtain ⟨ve20,rfl,hx20⟩:=RPr.of hr20
  have hln20:=hx20.lenle
  unfold maxLen at hln20
  refine q_fldL (p:=pp) 0 fd26_0 rfl (hl20 _ (hE2.drew.sub (subS hgS))) zN (q_load (p:=(padd pp 0)) (.inl rfl) ve20 one24 rfl ((hl20 _ (hE2.drew.sub (subS hgS))).ld (i:=0) z223_1) zN (lw_tv 1 rfl (q_nilP (hex.isPtr) rfl zN (q_fldL (p:=ve) 1 fd174_1 rfl (hl6 _ (hE2.drew.sub (subS hgS))) zN (q_load (p:=(padd ve 1)) (.inl rfl) (.int .i64 ex.num) one2 rfl ((hl6 _ (hE2.drew.sub (subS hgS))).ld (i:=1) z223_1) zN ?_)))))
  refine q_idx (v:=ve20) ((ex.num).toNat) u24 tiS55 rfl rfl hx20.isSl oM sD zN (lw_tvn 1 rfl (wp_seq (wp_seq (wp_plain _ [0,0,0,2,0] rfl (lw_tv 1 rfl (q_nilP (hex.isPtr) rfl zN (q_fldL (p:=ve) 0 fd174_0 rfl (hl6 _ (hE2.drew.sub (subS hgS))) zN (q_load (p:=(padd ve 0)) (.inr rfl) (.int .i64 ex.kind) one2 rfl ((hl6 _ (hE2.drew.sub (subS hgS))).ld (i:=0) z223_1) zN ?_))))))))
  by_cases hc21:ex.kind = ((10 :Nat):Int)
  ·
   refine q_eql true rfl rfl (decide_eq_true hc21) zN (lw_nil (c_cond_t rfl (wp_seq (wp_draw _ [0,0,0,0,1,0,0,0,1,0,0,4,0] mixed (by kernel_rfl) (lw_tv 2 rfl ?_)))))
   have hvd:=hvp.deep (ex.num).toNat oM (ex.pick).toNat oM
   refine q_nilP (RN.isPtr (RN.ptr (good_rFn dp) (by decide) Fn.zero hx20 sD)) rfl zN ?_
   obtain ⟨cs22,hr22,hl22⟩:=hx20.get (good_rFn dp) Fn.zero (k:=((ex.num).toNat)) sD
   obtain ⟨ve22,rfl,hx22⟩:=RF.of hr22
   have hln22:=hx22.rn.lenle
   unfold maxLen at hln22
   refine q_fldL (p:=eptr ve20 ((ex.num).toNat) 3) 2 fd55_2 rfl (hl22 _ (hE2.drew.drew.sub (subS hgS))) zN (q_load (p:=(padd (eptr ve20 ((ex.num).toNat) 3) 2)) (.inl rfl) ve22 one53 rfl ((hl22 _ (hE2.drew.drew.sub (subS hgS))).ld (i:=2) z223_1) zN (lw_tv 1 rfl (q_nilP (hex.isPtr) rfl zN (q_fldL (p:=ve) 2 fd174_2 rfl (hl6 _ (hE2.drew.drew.sub (subS hgS))) zN (q_load (p:=(padd ve 2)) (.inl rfl) (.int .i64 ex.pick) one2 rfl ((hl6 _ (hE2.drew.drew.sub (subS hgS))).ld (i:=2) z223_1) zN ?_)))))
   refine q_idx (v:=ve22) ((ex.pick).toNat) u53 tiS174 rfl rfl hx22.rn.isSl oM sD zN (lw_tv 1 rfl ?_)
   refine lw_callE 193 [] [] [(.pointer (some ⟨g,0,none⟩)),(eptr ve22 ((ex.pick).toNat) 5),vo] rfl rfl cf193 zN (IH1 (ex.num).toNat oM dp _ S g pp dp (n) (s9) (c9) (p) (eptr ve22 ((ex.pick).toNat) 5) (((p.getD ((ex.num).toNat) Fn.zero).outs).getD ((ex.pick).toNat) Ex.zero) vo (xs) (fun b hb=>(by have:=hS b hb; omega:b < w2.heap.size)) hgS hL2_0 (hp.chg (good_rP (good_rPr dp)) (hE2.drew.drew.sub (subS hgS))) oM oM oM (RN.ptr (good_rEx dp) (by decide) Ex.zero (hx22.rn.chg (good_rdS (good_rEx dp)) (hE2.drew.drew.sub (subS hgS))) sD) hfn19 hfn19c (by exact hvp) oM (by have h9:=hvp.wf (ex.num).toNat oM (ex.pick).toNat oM; rw [show ((xs.length :Nat):Int) = (p.getD (ex.num).toNat Fn.zero).params from by omega]; exact h9) (by exact hxs) oM) ?_
   rintro e23 w23 ⟨v23,x23,s23,c23,rfl,hC23,hB23,hr23,hse23,hsb23,hcb23,hrl23⟩
   refine ⟨_,rfl,?_⟩
   replace hC23:=hC23.of_drew
   replace hC23:=hC23.of_drew
   have hzs23:=hC23.size
   have hE23:Chg [g] w w23:=hE2.trans hC23
   have hF27:=hfn19.run g2 hgS hC23
   have hsn23:=hse23.1
   exact lw_tvn 1 rfl (wp_ret (t_ret (post_ret [6] rfl v23 rfl ⟨v23,x23,s23,c23,rfl,hE23,hB23,hr23,(by first | assumption | exact hks _ oM),oM,oM,z223_0⟩)))
  ·
   refine q_eql false rfl rfl (decide_eq_false hc21) zN (lw_nil (c_cond_f rfl (wp_skip (wp_seq (wp_seq (wp_plain _ [0] rfl ?_))))))
   have hk11:ex.kind = 11:=by have h9:ex.kind = 10∨ex.kind = 11:=hkH; omega
   have hwl:=wk_loop hwf hk11
   refine lw_tvn 1 rfl (wp_block ?_)
   refine c_loop (S:=Nat × Value × List (List Int) × Nat × Int) (fun (⟨i,vk,ks,s8,c8⟩:Nat × Value × List (List Int) × Nat × Int)=>([(7,vk),(10,(.int .i64 ((i :Nat):Int))),(0,(.pointer (some ⟨g,0,none⟩))),(1,ve),(9,(eptr ve20 ((ex.num).toNat) 3))]:List (Nat × Value))) (fun (⟨i,vk,ks,s8,c8⟩:Nat × Value × List (List Int) × Nat × Int) (W:World)=>Chg [g] w W∧BX W.heap g [pp,.int .i64 ((n :Nat):Int),.int .i64 ((s8 :Nat):Int),.int .i64 c8]∧i≤(ex.count).toNat∧RN S (rdL (rdL rI)) W.heap vk ks∧CapS vk∧ks.length = (p.getD (ex.num).toNat Fn.zero).outs.length∧SrE n ks∧s8≤3000∧(0≤c8∧c8≤9)∧RelV (go c9 (lop (fun a t=>evs n (evC p n (ex.num).toNat) (p.getD (ex.num).toNat Fn.zero).outs a t) i xs s9)) ks s8 c8) (fun (⟨i,vk,ks,s8,c8⟩:Nat × Value × List (List Int) × Nat × Int)=>(ex.count).toNat - i) (0,vo,xs,s9,c9) ⟨rfl,rfl,rfl,rfl,rfl,trivial⟩ ⟨hE2.drew,hL2_0,oM,(by assumption),(by assumption),oM,(by assumption),oM,oM,(by exact rel_lop0 rfl)⟩ ?_
   clear hL2_0 hE2 hzs2 hln6 hln20
   rintro ⟨i,vk,ks,s8,c8⟩ ρ31 w31 ⟨hE31,hL31_0,hp31_0,hrk,hck,hkl,hks,hp31_5,hp31_6,hrl9⟩
   have hzs31:w.heap.size≤w31.heap.size:=hE31.size
   have hq32:=hL31_0.lt
   refine wp_seq (wp_seq (wp_plain _ [0,0,0,0,2,0] rfl (lw_tv 2 rfl (q_nilP (hex.isPtr) rfl zN (q_fldL (p:=ve) 3 fd174_3 rfl (hl6 _ (hE31.sub (subS hgS))) zN (q_load (p:=(padd ve 3)) (.inr rfl) (.int .i64 ex.count) one2 rfl ((hl6 _ (hE31.sub (subS hgS))).ld (i:=3) z223_1) zN ?_))))))
   by_cases hc33:((i :Nat):Int) < ex.count
   ·
    refine q_lss true rfl rfl (decide_eq_true hc33) zN (lw_nil (c_cond_t rfl (wp_skip (wp_seq (wp_block (wp_plain _ [0,0,0,4,0] rfl (lw_tv 3 rfl ?_)))))))
    refine lw_callE 145 [] [] [(.pointer (some ⟨g,0,none⟩)),(eptr ve20 ((ex.num).toNat) 3),vk] rfl rfl cf145 zN (c_outs (ex.num).toNat (fun d9=>IH1 (ex.num).toNat oM d9) _ S g pp dp (n) (s8) (c8) (p) dp (eptr ve20 ((ex.num).toNat) 3) (p.getD ((ex.num).toNat) Fn.zero) vk (ks) (fun b hb=>(by have:=hS b hb; omega:b < w31.heap.size)) hgS hL31_0 (hp.chg (good_rP (good_rPr dp)) (hE31.sub (subS hgS))) oM oM oM (RN.ptr (good_rFn dp) (by decide) Fn.zero (hx20.chg (good_rdS (good_rFn dp)) (hE31.sub (subS hgS))) sD) hrk hck (by exact hvp) oM (by intro k9 hk9; have h9:=hvp.wf (ex.num).toNat oM k9 hk9; rw [show ((ks.length :Nat):Int) = (p.getD (ex.num).toNat Fn.zero).params from by omega]; exact h9) (by exact hks) (by intro k9 hk9; have:=hvp.deep (ex.num).toNat oM k9 hk9; omega) oM) ?_
    rintro e34 w34 ⟨v34,x34,s34,c34,rfl,hC34,hB34,hr34,hse34,hsb34,hcb34,hrl34⟩
    refine ⟨_,rfl,?_⟩
    have hzs34:=hC34.size
    have hE34:Chg [g] w w34:=hE31.trans hC34
    have hF40:=hrk.run g2 hgS hC34
    have hsn34:=hse34.2.1
    have hsr34:=hse34.2.2
    have hcp34:=hse34.1
    exact lw_tvn 1 rfl (wp_plain _ [0,0,0] rfl (lw_tv 1 rfl (q_add ((i + 1 :Nat):Int) rfl rfl (w64n oM oM) zN (lw_tvn 1 rfl ⟨((i + 1),v34,x34,s34,c34),_,rfl,⟨rfl,rfl,rfl,rfl,rfl,trivial⟩,⟨hE34,hB34,oM,(by assumption),(by assumption),oM,(by assumption),oM,oM,(by exact rel_lop' hrl9 (by assumption))⟩,by first | omega | (dsimp only; omega)⟩))))
   ·
    refine q_lss false rfl rfl (decide_eq_false hc33) zN (lw_nil (c_cond_f rfl (wp_exit (t_exit (t_exit (c_exit_here (wp_seq (wp_plain _ [0,0,0,0,2,0,2,0] rfl (lw_tv 2 rfl (q_nilP (hex.isPtr) rfl zN (q_fldL (p:=ve) 2 fd174_2 rfl (hl6 _ (hE31.sub (subS hgS))) zN (q_load (p:=(padd ve 2)) (.inr rfl) (.int .i64 ex.pick) one2 rfl ((hl6 _ (hE31.sub (subS hgS))).ld (i:=2) z223_1) zN ?_))))))))))))
    refine q_idx (v:=vk) ((ex.pick).toNat) u32 ti27 rfl rfl hrk.slL oM sD zN ?_
    obtain ⟨ue41,hl41,hr41⟩:=RN.getL (w:=w31) g1 [] (k:=(ex.pick).toNat) hrk sD
    have hln41:=hr41.lenL
    unfold maxLen at hln41
    exact q_load (p:=eptr vk ((ex.pick).toNat) 1) (.inr rfl) ue41 one27 rfl (hl41 _ (Chg.refl _ _)) zN (lw_tvn 1 rfl (wp_ret (post_ret [6] rfl ue41 rfl ⟨ue41,ks.getD ((ex.pick).toNat) [],s8,c8,rfl,hE31,hL31_0,hr41,(by first | assumption | exact hks _ oM),oM,oM,z223_0⟩)))
end Go.Proofs.YtnokbaiemimhjaaGreat
namespace Go.Proofs.YtnokbaiemimhjaaGreat
open Go Go.RowKit
set_option linter.unusedVariables false
set_option linter.unusedSimpArgs false
set_option maxHeartbeats 4000000
set_option maxRecDepth 100000
attribute [local irreducible] LW
theorem c_call (F d:Nat) (IH1:∀ F',F' < F→∀ d,SV F' d) (IH2:∀ d',d' < d→SV F d'):SC F d:=by
 intro w S g pp dp n s0 c0 p ve ex vv env hS hgS hB0 hp hn hs0 hc0 hex henv hqenv hvp hF hwf hse hdp hk
 exact c_spec_l02Run_call w S F g pp dp n s0 c0 p d ve ex vv env hS hgS hB0 hp hn hs0 hc0 hex henv hqenv hvp hF hwf hse hdp hk IH1 IH2
theorem z193_0 {p:Prop} (h:p:=by first | exact rel_if0 hc00 hs1 oM oM ‹RelV (go c0 (evE _ _ (ex.kids.getD 0 _) _ _)) _ _ _› oM (by assumption) | exact rel_if1 hc00 hs1 oM oM ‹RelV (go c0 (evE _ _ (ex.kids.getD 0 _) _ _)) _ _ _› oM (by assumption)):p:=h
theorem z193_1 {p:Prop} (h:p:=by have:=kd_at (l:=ex.kids) (k:=0) oM; omega):p:=h
theorem z193_2 {p:Prop} (h:p:=by exact wf_at0 hwf oM oM):p:=h
theorem z193_3 {p:Prop} (h:p:=by simp [exC,fnC]):p:=h
theorem c_spec_l02Run_expr (w:World) (S:List Nat) (F:Nat) (g:Nat) (pp:Value) (dp n s0:Nat) (c0:Int) (p:List Fn) (dex:Nat) (ve:Value) (ex:Ex) (vv:Value) (env:List (List Int)) (hS:∀ b∈S,b < w.heap.size) (hgS:g∈S) (hB0:BX w.heap g [pp,.int .i64 ((n :Nat):Int),.int .i64 ((s0 :Nat):Int),.int .i64 c0]) (hp:RN S (rP (rPr dp)) w.heap pp p) (hn:1≤n∧n≤13) (hs0:s0≤3000) (hc0:0≤c0∧c0≤9) (hex:RN S (rP (rEx dex)) w.heap ve ex) (henv:RN S (rdL (rdL rI)) w.heap vv env) (hqenv:CapS vv) (hvp:VPr p) (hF:F≤p.length) (hwf:wf p ((F :Nat):Int) ex ((env.length :Nat):Int) = true) (hse:SrE n env) (hdp:env.length + ex.deep≤1000000) (IH1:∀ F',F' < F→∀ d,SV F' d) (IH2:∀ d',d' < dex→SV F d') :
  Calls Tryz.prog 193 #[.pointer (some ⟨g,0,none⟩),ve,vv] w (fun e w'=>∃ (v:Value) (x:List Int) (s1:Nat) (c1:Int),e = .returned v∧Chg [g] w w'∧BX w'.heap g [pp,.int .i64 ((n :Nat):Int),.int .i64 ((s1 :Nat):Int),.int .i64 c1]∧RN S (rdL rI) w'.heap v x∧Ser1 n x∧s1≤3000∧(0≤c1∧c1≤9)∧RelV (go c0 (evE n (evC p n F) ex env s0)) x s1 c1):=by
 refine calls_mk [.pointer (some ⟨g,0,none⟩),ve,vv] 186 Tryz.func193 rfl rfl sM ?_
 have hE0:Chg [g] w w:=Chg.refl [g] w
 have hl_vv:=henv.lenL
 unfold maxLen at hl_vv
 have hgl:=hB0.lt
 have hdk:=deep_kids ex
 refine wp_seq (wp_plain _ [0] rfl (lw_tvn 1 rfl (wp_seq (wp_seq (wp_plain _ [0,0,0,2,0] rfl (lw_tv 1 rfl (q_nil rfl zN (q_fldP (p:=(.pointer (some ⟨g,0,none⟩))) (b:=g) (o:=0) 3 fd157_3 rfl rfl zN (q_load (p:=(padd (.pointer (some ⟨g,0,none⟩)) 3)) (.inr rfl) (.int .i64 c0) one2 rfl (hB0.ldp (i:=3) sM) zN ?_)))))))))
 by_cases hc1:c0≠((0 :Nat):Int)
 ·
  refine q_neq true rfl rfl (decide_eq_true hc1) zN (lw_nil (c_cond_t rfl (wp_seq (wp_plain _ [0,0,0,0,2,4,0] rfl (lw_tv 2 rfl (q_nil rfl zN (q_fldP (p:=(.pointer (some ⟨g,0,none⟩))) (b:=g) (o:=0) 3 fd157_3 rfl rfl zN (q_load (p:=(padd (.pointer (some ⟨g,0,none⟩)) 3)) (.inr rfl) (.int .i64 c0) one2 rfl (hB0.ldp (i:=3) sM) zN (lw_callE 221 [] [] [(.pointer (some ⟨g,0,none⟩)),(.int .i64 c0)] rfl rfl cf221 zN (c_spec_l02Run_fail _ S g pp dp (n) (s0) (c0) (p) (c0) (fun b hb=>(by have:=hS b hb; omega:b < w.heap.size)) hgS hB0 (hp.chg (good_rP (good_rPr dp)) (hE0.sub (subS hgS))) oM oM oM oM oM) ?_)))))))))
  rintro e2 w2 ⟨v2,x2,s2,c2,rfl,hC2,hB2,hr2,hse2,hsb2,hcb2,hrl2⟩
  refine ⟨_,rfl,?_⟩
  have hzs2:=hC2.size
  have hE2:Chg [g] w w2:=hE0.trans hC2
  have hsn2:=hse2.1
  have hfs:=hrl2.1
  have hff:=hrl2.2
  exact lw_tvn 1 rfl (wp_ret (t_ret (post_ret [6] rfl v2 rfl ⟨v2,x2,s2,c2,rfl,hE2,hB2,hr2,(by assumption),oM,oM,(by rw [hff,if_neg oM]; exact rel_code oM)⟩)))
 ·
  refine q_neq false rfl rfl (decide_eq_false hc1) zN (lw_nil (c_cond_f rfl (wp_skip (wp_seq (wp_seq (wp_plain _ [0,0,0,2,0] rfl (lw_tv 1 rfl (q_nil rfl zN (q_fldP (p:=(.pointer (some ⟨g,0,none⟩))) (b:=g) (o:=0) 2 fd157_2 rfl rfl zN (q_load (p:=(padd (.pointer (some ⟨g,0,none⟩)) 2)) (.inr rfl) (.int .i64 ((s0 :Nat):Int)) one2 rfl (hB0.ldp (i:=2) sM) zN ?_))))))))))
  by_cases hc6:((s0 :Nat):Int) = ((3000 :Nat):Int)
  ·
   refine q_eql true rfl rfl (decide_eq_true hc6) zN (lw_nil (c_cond_t rfl (wp_seq (wp_plain _ [0,4,0] rfl (lw_tv 1 rfl (lw_callE 221 [] [] [(.pointer (some ⟨g,0,none⟩)),(.int .i64 ((7 :Nat):Int))] rfl rfl cf221 zN (c_spec_l02Run_fail _ S g pp dp (n) (s0) (c0) (p) (((7 :Nat):Int)) (fun b hb=>(by have:=hS b hb; omega:b < w.heap.size)) hgS hB0 (hp.chg (good_rP (good_rPr dp)) (hE0.sub (subS hgS))) oM oM oM oM oM) ?_))))))
   rintro e7 w7 ⟨v7,x7,s7,c7,rfl,hC7,hB7,hr7,hse7,hsb7,hcb7,hrl7⟩
   refine ⟨_,rfl,?_⟩
   have hzs7:=hC7.size
   have hE7:Chg [g] w w7:=hE0.trans hC7
   have hsn7:=hse7.1
   have hfs:=hrl7.1
   have hff:=hrl7.2
   exact lw_tvn 1 rfl (wp_ret (t_ret (post_ret [6] rfl v7 rfl ⟨v7,x7,s7,c7,rfl,hE7,hB7,hr7,(by assumption),oM,oM,(by rw [hff,if_pos oM]; exact rel_budget oM oM)⟩)))
  ·
   refine q_eql false rfl rfl (decide_eq_false hc6) zN (lw_nil (c_cond_f rfl (wp_skip (wp_seq (wp_plain _ [0,0,0,2,0,0,0,4] rfl (lw_tv 1 rfl (q_nil rfl zN (q_fldP (p:=(.pointer (some ⟨g,0,none⟩))) (b:=g) (o:=0) 2 fd157_2 rfl rfl zN (q_load (p:=(padd (.pointer (some ⟨g,0,none⟩)) 2)) (.inr rfl) (.int .i64 ((s0 :Nat):Int)) one2 rfl (hB0.ldp (i:=2) sM) zN (q_add ((s0 + 1 :Nat):Int) rfl rfl (w64n oM oM) zN (q_nil rfl zN (q_fldP (p:=(.pointer (some ⟨g,0,none⟩))) (b:=g) (o:=0) 2 fd157_2 rfl rfl zN (e_setB (k:=2) (w:=w) sz2 rfl rfl ⟨rfl,rfl⟩ hB0 sM zN fun w11 hC11 hz11 hB11=>?_)))))))))))))
   replace hB11:BX w11.heap g [pp,(.int .i64 ((n :Nat):Int)),(.int .i64 ((s0 + 1 :Nat):Int)),(.int .i64 c0)]:=hB11
   have hE11:Chg [g] w w11:=hE0.trans hC11
   have hzs11:=hC11.size
   refine lw_nil (wp_seq (wp_seq (wp_plain _ [0,0,0,2] rfl ?_)))
   have hc00:c0 = 0:=by omega
   have hs1:s0 + 1≤3000:=by omega
   refine lw_tv 1 rfl (q_nilP (hex.isPtr) rfl zN ?_)
   obtain ⟨cs12,hr12,hl12⟩:=RN.at (good_rEx _) hex
   obtain ⟨dd12,ve12,hd12,rfl,hx12⟩:=RX.of hr12
   have hln12:=hx12.rn.lenle
   unfold maxLen at hln12
   refine q_fldL (p:=ve) 0 fd174_0 rfl (hl12 _ (hE11.sub (subS hgS))) zN (q_load (p:=(padd ve 0)) (.inr rfl) (.int .i64 ex.kind) one2 rfl ((hl12 _ (hE11.sub (subS hgS))).ld (i:=0) z193_3) zN (lw_nil (wp_block (wp_seq (wp_plain _ [0,0] rfl ?_)))))
   by_cases hc13:ex.kind = ((1 :Nat):Int)
   ·
    refine q_eql true rfl rfl (decide_eq_true hc13) zN (lw_tvn 1 rfl (c_cond_t rfl (wp_seq (wp_draw _ [0,0,0,1,0,0,0,1,3,0] mixed (by kernel_rfl) ?_))))
    have hwk:=wk_num hwf oM
    refine lw_tv 1 rfl (q_nilP (hex.isPtr) rfl zN (q_fldL (p:=ve) 1 fd174_1 rfl (hl12 _ (hE11.drew.sub (subS hgS))) zN (q_load (p:=(padd ve 1)) (.inl rfl) (.int .i64 ex.num) one2 rfl ((hl12 _ (hE11.drew.sub (subS hgS))).ld (i:=1) z193_3) zN (lw_tv 1 rfl (q_nil rfl zN (q_fldP (p:=(.pointer (some ⟨g,0,none⟩))) (b:=g) (o:=0) 1 fd157_1 rfl rfl zN (q_load (p:=(padd (.pointer (some ⟨g,0,none⟩)) 1)) (.inl rfl) (.int .i64 ((n :Nat):Int)) one3 rfl (hB11.ldp (i:=1) sM) zN ?_)))))))
    refine lw_call 122 [] [] [(.int .i64 ex.num),(.int .i64 ((n :Nat):Int))] rfl rfl cf122 zN (c_spec_l01Const _ _ (n) hx12.rng.num sD oM) ?_
    rintro e14 w14 ⟨v14_0,rfl,hX14,hO14_0⟩
    refine ⟨_,rfl,hX14,?_⟩
    replace hX14:=hX14.of_drew
    have hzs14:=hX14.size
    have hE14:Chg [g] w w14:=hE11.ext hX14
    have hB11x14:=hB11.ext hX14
    replace hO14_0:=hO14_0.low (B':=w11.heap.size) (Nat.le_refl _)
    exact lw_tvn 1 rfl (wp_ret (b_ret (t_ret (post_ret [6] rfl v14_0 rfl ⟨v14_0,cst n ex.num,s0 + 1,c0,rfl,hE14,hB11x14,(RN.of_fr1 hO14_0 (fun b hb=>by have:=hS b hb; omega)),(by exact cst_ser (isN_iff.2 oM)),oM,oM,(by exact rel_num hc00 hs1 oM)⟩))))
   ·
    refine q_eql false rfl rfl (decide_eq_false hc13) zN (lw_tvn 1 rfl (c_cond_f rfl (wp_seq (wp_plain _ [0,0] rfl ?_))))
    by_cases hc15:ex.kind = ((2 :Nat):Int)
    ·
     refine q_eql true rfl rfl (decide_eq_true hc15) zN (lw_tvn 1 rfl (c_cond_t rfl (wp_seq (wp_plain _ [0,0,0,0,2,0,2,0] rfl ?_))))
     have hwk:=wk_var hwf oM
     refine lw_tv 2 rfl (q_nilP (hex.isPtr) rfl zN (q_fldL (p:=ve) 1 fd174_1 rfl (hl12 _ (hE11.sub (subS hgS))) zN (q_load (p:=(padd ve 1)) (.inr rfl) (.int .i64 ex.num) one2 rfl ((hl12 _ (hE11.sub (subS hgS))).ld (i:=1) z193_3) zN (q_idx (v:=vv) ((ex.num).toNat) u32 ti27 rfl rfl henv.slL oM sD zN ?_))))
     obtain ⟨ue16,hl16,hr16⟩:=RN.getL (w:=w) g1 [] (k:=(ex.num).toNat) henv sD
     have hln16:=hr16.lenL
     unfold maxLen at hln16
     exact q_load (p:=eptr vv ((ex.num).toNat) 1) (.inr rfl) ue16 one27 rfl (hl16 _ (hE11.sub (subS hgS))) zN (lw_tvn 1 rfl (wp_ret (b_ret (t_ret (post_ret [6] rfl ue16 rfl ⟨ue16,env.getD ((ex.num).toNat) [],s0 + 1,c0,rfl,hE11,hB11,(hr16.chg g1 (hE11.sub (subS hgS))),(by exact hse _ oM),oM,oM,(by exact rel_var hc00 hs1 oM)⟩)))))
    ·
     refine q_eql false rfl rfl (decide_eq_false hc15) zN (lw_tvn 1 rfl (c_cond_f rfl (wp_seq (wp_plain _ [0,0] rfl ?_))))
     by_cases hc17:ex.kind = ((7 :Nat):Int)
     ·
      refine q_eql true rfl rfl (decide_eq_true hc17) zN (lw_tvn 1 rfl (c_cond_t rfl (wp_seq (wp_plain _ [0,0,0,0,2,0,0,4,3,0] rfl ?_))))
      have hwk:=wk_neg hwf oM
      refine lw_tv 2 rfl (q_nilP (hex.isPtr) rfl zN (q_fldL (p:=ve) 4 fd174_4 rfl (hl12 _ (hE11.sub (subS hgS))) zN (q_load (p:=(padd ve 4)) (.inr rfl) ve12 one53 rfl ((hl12 _ (hE11.sub (subS hgS))).ld (i:=4) z193_3) zN (q_idx (v:=ve12) 0 u53 tiS174 rfl rfl hx12.rn.isSl rfl sD zN (lw_tv 1 rfl ?_)))))
      refine lw_callE 193 [] [] [(.pointer (some ⟨g,0,none⟩)),(eptr ve12 0 5),vv] rfl rfl cf193 zN (IH2 dd12 oM _ S g pp dp (n) (s0 + 1) (c0) (p) (eptr ve12 0 5) (ex.kids.getD 0 Ex.zero) vv (env) (fun b hb=>(by have:=hS b hb; omega:b < w11.heap.size)) hgS hB11 (hp.chg (good_rP (good_rPr dp)) (hE11.sub (subS hgS))) oM oM oM (RN.ptr (good_rEx dd12) (by decide) Ex.zero (hx12.rn.chg (good_rdS (good_rEx dd12)) (hE11.sub (subS hgS))) sD) (henv.chg g2 (hE11.sub (subS hgS))) hqenv (by exact hvp) oM z193_2 (by exact hse) z193_1) ?_
      rintro e18 w18 ⟨v18,x18,s18,c18,rfl,hC18,hB18,hr18,hse18,hsb18,hcb18,hrl18⟩
      refine ⟨_,rfl,?_⟩
      have hzs18:=hC18.size
      have hE18:Chg [g] w w18:=hE11.trans hC18
      have hsn18:=hse18.1
      refine lw_call 176 [] [] [v18,(.int .i64 ((1000002 :Nat):Int))] rfl rfl cf176 zN (c_spec_l01Scale _ _ _ _ (hr18).rd oM oM) ?_
      rintro e23 w23 ⟨v23_0,rfl,hX23,hO23_0⟩
      refine ⟨_,rfl,hX23,?_⟩
      have hzs23:=hX23.size
      have hE23:Chg [g] w w23:=hE18.ext hX23
      have hB18x23:=hB18.ext hX23
      have hN24:=hr18.ext g1 hX23
      exact lw_tvn 1 rfl (wp_ret (b_ret (t_ret (post_ret [6] rfl v23_0 rfl ⟨v23_0,scl x18 ((1000002 :Nat):Int),s18,c18,rfl,hE23,hB18x23,(RN.of_fr1 hO23_0 (fun b hb=>by have:=hS b hb; omega)),(by rw [scl_eq]; exact sclS_ser (by assumption)),oM,oM,(by exact rel_ops hc00 hs1 oM (rel_k1 oM ‹RelV (go c0 (evE _ _ (ex.kids.getD 0 _) _ _)) _ _ _›) (fun h0=>by rw [h0,scl_eq]; exact op_neg oM) (fun _=>rfl))⟩))))
     ·
      refine q_eql false rfl rfl (decide_eq_false hc17) zN (lw_tvn 1 rfl (c_cond_f rfl (wp_seq (wp_plain _ [0,0] rfl ?_))))
      by_cases hc25:ex.kind = ((8 :Nat):Int)
      ·
       refine q_eql true rfl rfl (decide_eq_true hc25) zN (lw_tvn 1 rfl (c_cond_t rfl (wp_seq (wp_seq (wp_plain _ [0,0,0,0,2,0,0,4,0,2,0] rfl ?_)))))
       have hwk:=wk_if hwf oM
       refine lw_tv 2 rfl (q_nilP (hex.isPtr) rfl zN (q_fldL (p:=ve) 4 fd174_4 rfl (hl12 _ (hE11.sub (subS hgS))) zN (q_load (p:=(padd ve 4)) (.inr rfl) ve12 one53 rfl ((hl12 _ (hE11.sub (subS hgS))).ld (i:=4) z193_3) zN (q_idx (v:=ve12) 0 u53 tiS174 rfl rfl hx12.rn.isSl rfl sD zN (lw_tv 1 rfl ?_)))))
       refine lw_callE 193 [] [] [(.pointer (some ⟨g,0,none⟩)),(eptr ve12 0 5),vv] rfl rfl cf193 zN (IH2 dd12 oM _ S g pp dp (n) (s0 + 1) (c0) (p) (eptr ve12 0 5) (ex.kids.getD 0 Ex.zero) vv (env) (fun b hb=>(by have:=hS b hb; omega:b < w11.heap.size)) hgS hB11 (hp.chg (good_rP (good_rPr dp)) (hE11.sub (subS hgS))) oM oM oM (RN.ptr (good_rEx dd12) (by decide) Ex.zero (hx12.rn.chg (good_rdS (good_rEx dd12)) (hE11.sub (subS hgS))) sD) (henv.chg g2 (hE11.sub (subS hgS))) hqenv (by exact hvp) oM z193_2 (by exact hse) z193_1) ?_
       rintro e26 w26 ⟨v26,x26,s26,c26,rfl,hC26,hB26,hr26,hse26,hsb26,hcb26,hrl26⟩
       refine ⟨_,rfl,?_⟩
       have hzs26:=hC26.size
       have hE26:Chg [g] w w26:=hE11.trans hC26
       have hsn26:=hse26.1
       refine q_idx (v:=v26) 0 u27 ti2 rfl rfl hr26.slL rfl sD zN ?_
       have hg31:=RN.getI (w:=w26) (k:=0) hr26 sD
       refine q_load (p:=eptr v26 0 1) (.inr rfl) (.int .i64 (x26.getD 0 0)) one2 rfl (hg31.1 _ (Chg.refl _ _)) zN ?_
       by_cases hc32:x26.getD 0 0 = ((0 :Nat):Int)
       ·
        refine q_eql true rfl rfl (decide_eq_true hc32) zN (lw_nil (c_cond_t rfl (wp_seq (wp_plain _ [0,0,0,0,2,0,0,4,0] rfl (lw_tv 2 rfl (q_nilP (hex.isPtr) rfl zN (q_fldL (p:=ve) 4 fd174_4 rfl (hl12 _ (hE26.sub (subS hgS))) zN (q_load (p:=(padd ve 4)) (.inr rfl) ve12 one53 rfl ((hl12 _ (hE26.sub (subS hgS))).ld (i:=4) z193_3) zN (q_idx (v:=ve12) 1 u53 tiS174 rfl rfl hx12.rn.isSl rfl sD zN ?_)))))))))
        refine lw_tv 1 rfl ?_
        refine lw_callE 193 [] [] [(.pointer (some ⟨g,0,none⟩)),(eptr ve12 1 5),vv] rfl rfl cf193 zN (IH2 dd12 oM _ S g pp dp (n) (s26) (c26) (p) (eptr ve12 1 5) (ex.kids.getD 1 Ex.zero) vv (env) (fun b hb=>(by have:=hS b hb; omega:b < w26.heap.size)) hgS hB26 (hp.chg (good_rP (good_rPr dp)) (hE26.sub (subS hgS))) oM oM oM (RN.ptr (good_rEx dd12) (by decide) Ex.zero (hx12.rn.chg (good_rdS (good_rEx dd12)) (hE26.sub (subS hgS))) sD) (henv.chg g2 (hE26.sub (subS hgS))) hqenv (by exact hvp) oM z193_2 (by exact hse) (by have:=kd_at (l:=ex.kids) (k:=1) oM; omega)) ?_
        rintro e33 w33 ⟨v33,x33,s33,c33,rfl,hC33,hB33,hr33,hse33,hsb33,hcb33,hrl33⟩
        refine ⟨_,rfl,?_⟩
        have hzs33:=hC33.size
        have hE33:Chg [g] w w33:=hE26.trans hC33
        have hF38:=hr26.run g1 hgS hC33
        have hsn33:=hse33.1
        exact lw_tvn 1 rfl (wp_ret (t_ret (b_ret (t_ret (post_ret [6] rfl v33 rfl ⟨v33,x33,s33,c33,rfl,hE33,hB33,hr33,(by assumption),oM,oM,z193_0⟩)))))
       ·
        refine q_eql false rfl rfl (decide_eq_false hc32) zN (lw_nil (c_cond_f rfl (wp_skip (wp_seq (wp_plain _ [0,0,0,0,2,0,0,4,0] rfl (lw_tv 2 rfl (q_nilP (hex.isPtr) rfl zN (q_fldL (p:=ve) 4 fd174_4 rfl (hl12 _ (hE26.sub (subS hgS))) zN (q_load (p:=(padd ve 4)) (.inr rfl) ve12 one53 rfl ((hl12 _ (hE26.sub (subS hgS))).ld (i:=4) z193_3) zN ?_)))))))))
        refine q_idx (v:=ve12) 2 u53 tiS174 rfl rfl hx12.rn.isSl rfl sD zN (lw_tv 1 rfl ?_)
        refine lw_callE 193 [] [] [(.pointer (some ⟨g,0,none⟩)),(eptr ve12 2 5),vv] rfl rfl cf193 zN (IH2 dd12 oM _ S g pp dp (n) (s26) (c26) (p) (eptr ve12 2 5) (ex.kids.getD 2 Ex.zero) vv (env) (fun b hb=>(by have:=hS b hb; omega:b < w26.heap.size)) hgS hB26 (hp.chg (good_rP (good_rPr dp)) (hE26.sub (subS hgS))) oM oM oM (RN.ptr (good_rEx dd12) (by decide) Ex.zero (hx12.rn.chg (good_rdS (good_rEx dd12)) (hE26.sub (subS hgS))) sD) (henv.chg g2 (hE26.sub (subS hgS))) hqenv (by exact hvp) oM z193_2 (by exact hse) (by have:=kd_at (l:=ex.kids) (k:=2) oM; omega)) ?_
        rintro e39 w39 ⟨v39,x39,s39,c39,rfl,hC39,hB39,hr39,hse39,hsb39,hcb39,hrl39⟩
        refine ⟨_,rfl,?_⟩
        have hzs39:=hC39.size
        have hE39:Chg [g] w w39:=hE26.trans hC39
        have hF44:=hr26.run g1 hgS hC39
        have hsn39:=hse39.1
        exact lw_tvn 1 rfl (wp_ret (b_ret (t_ret (post_ret [6] rfl v39 rfl ⟨v39,x39,s39,c39,rfl,hE39,hB39,hr39,(by assumption),oM,oM,z193_0⟩))))
      ·
       refine q_eql false rfl rfl (decide_eq_false hc25) zN (lw_tvn 1 rfl (c_cond_f rfl (wp_seq (wp_plain _ [0,0] rfl ?_))))
       by_cases hc45:ex.kind = ((9 :Nat):Int)
       ·
        refine q_eql true rfl rfl (decide_eq_true hc45) zN (lw_tvn 1 rfl (c_cond_t rfl (wp_seq (wp_plain _ [0,0,0,0,2,0,0,4,0] rfl ?_))))
        have hwk:=wk_let hwf oM
        refine lw_tv 2 rfl (q_nilP (hex.isPtr) rfl zN (q_fldL (p:=ve) 4 fd174_4 rfl (hl12 _ (hE11.sub (subS hgS))) zN (q_load (p:=(padd ve 4)) (.inr rfl) ve12 one53 rfl ((hl12 _ (hE11.sub (subS hgS))).ld (i:=4) z193_3) zN (q_idx (v:=ve12) 0 u53 tiS174 rfl rfl hx12.rn.isSl rfl sD zN (lw_tv 1 rfl ?_)))))
        refine lw_callE 193 [] [] [(.pointer (some ⟨g,0,none⟩)),(eptr ve12 0 5),vv] rfl rfl cf193 zN (IH2 dd12 oM _ S g pp dp (n) (s0 + 1) (c0) (p) (eptr ve12 0 5) (ex.kids.getD 0 Ex.zero) vv (env) (fun b hb=>(by have:=hS b hb; omega:b < w11.heap.size)) hgS hB11 (hp.chg (good_rP (good_rPr dp)) (hE11.sub (subS hgS))) oM oM oM (RN.ptr (good_rEx dd12) (by decide) Ex.zero (hx12.rn.chg (good_rdS (good_rEx dd12)) (hE11.sub (subS hgS))) sD) (henv.chg g2 (hE11.sub (subS hgS))) hqenv (by exact hvp) oM z193_2 (by exact hse) z193_1) ?_
        rintro e46 w46 ⟨v46,x46,s46,c46,rfl,hC46,hB46,hr46,hse46,hsb46,hcb46,hrl46⟩
        refine ⟨_,rfl,?_⟩
        have hzs46:=hC46.size
        have hE46:Chg [g] w w46:=hE11.trans hC46
        have hsn46:=hse46.1
        refine lw_tvn 1 rfl (wp_seq (wp_draw _ [0,0,0,0,1,0,0,0,3,4,0] mixed (by kernel_rfl) (lw_tv 2 rfl (q_nilP (hex.isPtr) rfl zN (q_fldL (p:=ve) 4 fd174_4 rfl (hl12 _ (hE46.drew.sub (subS hgS))) zN (q_load (p:=(padd ve 4)) (.inl rfl) ve12 one53 rfl ((hl12 _ (hE46.drew.sub (subS hgS))).ld (i:=4) z193_3) zN (q_idx (v:=ve12) 1 u53 tiS174 rfl rfl hx12.rn.isSl rfl sD zN (lw_tv 2 rfl ?_))))))))
        refine lw_call 222 [] [] [vv,v46] rfl rfl cf222 zN (c_spec_l02Env _ S vv (env) v46 (x46) (fun b hb=>(by have:=hS b hb; omega:b < w46.heap.size)) (henv.chg g2 (hE46.drew.sub (subS hgS))) hqenv hr46 oM) ?_
        rintro e51 w51 ⟨v51,rfl,hX51,hr51,hcp51⟩
        refine ⟨_,rfl,hX51,?_⟩
        replace hX51:=hX51.of_drew
        have hzs51:=hX51.size
        have hE51:Chg [g] w w51:=hE46.ext hX51
        have hB46x51:=hB46.ext hX51
        have hN52:=hr46.ext g1 hX51
        refine lw_callE 193 [] [] [(.pointer (some ⟨g,0,none⟩)),(eptr ve12 1 5),v51] rfl rfl cf193 zN (IH2 dd12 oM _ S g pp dp (n) (s46) (c46) (p) (eptr ve12 1 5) (ex.kids.getD 1 Ex.zero) v51 (env++[x46]) (fun b hb=>(by have:=hS b hb; omega:b < w51.heap.size)) hgS hB46x51 (hp.chg (good_rP (good_rPr dp)) (hE51.sub (subS hgS))) oM oM oM (RN.ptr (good_rEx dd12) (by decide) Ex.zero (hx12.rn.chg (good_rdS (good_rEx dd12)) (hE51.sub (subS hgS))) sD) hr51 hcp51 (by exact hvp) oM (by have h9:=wf_at1 hwf oM oM; rw [List.length_append,List.length_singleton]; exact h9) (by exact hse.snoc (by assumption)) (by have:=kd_at (l:=ex.kids) (k:=1) oM; rw [List.length_append,List.length_singleton]; omega)) ?_
        rintro e53 w53 ⟨v53,x53,s53,c53,rfl,hC53,hB53,hr53,hse53,hsb53,hcb53,hrl53⟩
        refine ⟨_,rfl,?_⟩
        have hzs53:=hC53.size
        have hE53:Chg [g] w w53:=hE51.trans hC53
        have hF58:=hN52.run g1 hgS hC53
        have hF59:=hr51.run g2 hgS hC53
        have hsn53:=hse53.1
        exact lw_tvn 1 rfl (wp_ret (b_ret (t_ret (post_ret [6] rfl v53 rfl ⟨v53,x53,s53,c53,rfl,hE53,hB53,hr53,(by assumption),oM,oM,(by exact rel_let hc00 hs1 oM oM ‹RelV (go c0 (evE _ _ (ex.kids.getD 0 _) _ _)) _ _ _› (by assumption))⟩))))
       ·
        refine q_eql false rfl rfl (decide_eq_false hc45) zN (lw_tvn 1 rfl (c_cond_f rfl (wp_seq (wp_seq (wp_plain _ [0,0] rfl ?_)))))
        by_cases hc60:ex.kind = ((10 :Nat):Int)
        ·
         refine q_eql true rfl rfl (decide_eq_true hc60) zN (lw_tvn 1 rfl (c_cond_t rfl (wp_skip (c_cond_t rfl (wp_seq (wp_plain _ [0,0,0,4,0] rfl (lw_tv 3 rfl (lw_callE 223 [] [] [(.pointer (some ⟨g,0,none⟩)),ve,vv] rfl rfl cf223 zN (c_call F dex IH1 IH2 _ S g pp dp (n) (s0 + 1) (c0) (p) ve (ex) vv (env) (fun b hb=>(by have:=hS b hb; omega:b < w11.heap.size)) hgS hB11 (hp.chg (good_rP (good_rPr dp)) (hE11.sub (subS hgS))) oM oM oM (hex.chg (good_rP (good_rEx dex)) (hE11.sub (subS hgS))) (henv.chg g2 (hE11.sub (subS hgS))) hqenv (by exact hvp) oM (by exact hwf) (by exact hse) oM oM) ?_))))))))
         rintro e61 w61 ⟨v61,x61,s61,c61,rfl,hC61,hB61,hr61,hse61,hsb61,hcb61,hrl61⟩
         refine ⟨_,rfl,?_⟩
         have hzs61:=hC61.size
         have hE61:Chg [g] w w61:=hE11.trans hC61
         have hsn61:=hse61.1
         exact lw_tvn 1 rfl (wp_ret (b_ret (t_ret (post_ret [6] rfl v61 rfl ⟨v61,x61,s61,c61,rfl,hE61,hB61,hr61,(by assumption),oM,oM,(by exact rel_callV hc00 hs1 oM (by assumption))⟩))))
        ·
         refine q_eql false rfl rfl (decide_eq_false hc60) zN (lw_tvn 1 rfl (c_cond_f rfl (wp_plain _ [0,0] rfl ?_)))
         by_cases hc66:ex.kind = ((11 :Nat):Int)
         ·
          refine q_eql true rfl rfl (decide_eq_true hc66) zN (lw_tvn 1 rfl (c_cond_t rfl (wp_seq (wp_plain _ [0,0,0,4,0] rfl (lw_tv 3 rfl (lw_callE 223 [] [] [(.pointer (some ⟨g,0,none⟩)),ve,vv] rfl rfl cf223 zN (c_call F dex IH1 IH2 _ S g pp dp (n) (s0 + 1) (c0) (p) ve (ex) vv (env) (fun b hb=>(by have:=hS b hb; omega:b < w11.heap.size)) hgS hB11 (hp.chg (good_rP (good_rPr dp)) (hE11.sub (subS hgS))) oM oM oM (hex.chg (good_rP (good_rEx dex)) (hE11.sub (subS hgS))) (henv.chg g2 (hE11.sub (subS hgS))) hqenv (by exact hvp) oM (by exact hwf) (by exact hse) oM oM) ?_))))))
          rintro e67 w67 ⟨v67,x67,s67,c67,rfl,hC67,hB67,hr67,hse67,hsb67,hcb67,hrl67⟩
          refine ⟨_,rfl,?_⟩
          have hzs67:=hC67.size
          have hE67:Chg [g] w w67:=hE11.trans hC67
          have hsn67:=hse67.1
          exact lw_tvn 1 rfl (wp_ret (b_ret (t_ret (post_ret [6] rfl v67 rfl ⟨v67,x67,s67,c67,rfl,hE67,hB67,hr67,(by assumption),oM,oM,(by exact rel_callV hc00 hs1 oM (by assumption))⟩))))
         ·
          refine q_eql false rfl rfl (decide_eq_false hc66) zN (lw_tvn 1 rfl (c_cond_f rfl (wp_skip (wp_seq (wp_plain _ [0,0,0,0,2,0,0,4,0] rfl ?_)))))
          have hkk:ex.kind = 3∨ex.kind = 4∨ex.kind = 5∨ex.kind = 6:=wk_bin hwf oM
          have hk2:ex.kids.length = 2:=wk_op2 hwf hkk
          have hd0:=kd_at (l:=ex.kids) (k:=0) oM
          have hd1:=kd_at (l:=ex.kids) (k:=1) oM
          refine lw_tv 2 rfl (q_nilP (hex.isPtr) rfl zN (q_fldL (p:=ve) 4 fd174_4 rfl (hl12 _ (hE11.sub (subS hgS))) zN (q_load (p:=(padd ve 4)) (.inr rfl) ve12 one53 rfl ((hl12 _ (hE11.sub (subS hgS))).ld (i:=4) z193_3) zN (q_idx (v:=ve12) 0 u53 tiS174 rfl rfl hx12.rn.isSl rfl sD zN (lw_tv 1 rfl ?_)))))
          refine lw_callE 193 [] [] [(.pointer (some ⟨g,0,none⟩)),(eptr ve12 0 5),vv] rfl rfl cf193 zN (IH2 dd12 oM _ S g pp dp (n) (s0 + 1) (c0) (p) (eptr ve12 0 5) (ex.kids.getD 0 Ex.zero) vv (env) (fun b hb=>(by have:=hS b hb; omega:b < w11.heap.size)) hgS hB11 (hp.chg (good_rP (good_rPr dp)) (hE11.sub (subS hgS))) oM oM oM (RN.ptr (good_rEx dd12) (by decide) Ex.zero (hx12.rn.chg (good_rdS (good_rEx dd12)) (hE11.sub (subS hgS))) sD) (henv.chg g2 (hE11.sub (subS hgS))) hqenv (by exact hvp) oM z193_2 (by exact hse) z193_1) ?_
          rintro e72 w72 ⟨v72,x72,s72,c72,rfl,hC72,hB72,hr72,hse72,hsb72,hcb72,hrl72⟩
          refine ⟨_,rfl,?_⟩
          have hzs72:=hC72.size
          have hE72:Chg [g] w w72:=hE11.trans hC72
          have hsn72:=hse72.1
          have hra:=hrl72
          have ha1:=hse72
          refine lw_tvn 1 rfl (wp_seq (wp_plain _ [0,0,0,0,2,0,0,4,0] rfl (lw_tv 2 rfl (q_nilP (hex.isPtr) rfl zN (q_fldL (p:=ve) 4 fd174_4 rfl (hl12 _ (hE72.sub (subS hgS))) zN (q_load (p:=(padd ve 4)) (.inr rfl) ve12 one53 rfl ((hl12 _ (hE72.sub (subS hgS))).ld (i:=4) z193_3) zN (q_idx (v:=ve12) 1 u53 tiS174 rfl rfl hx12.rn.isSl rfl sD zN (lw_tv 1 rfl ?_))))))))
          refine lw_callE 193 [] [] [(.pointer (some ⟨g,0,none⟩)),(eptr ve12 1 5),vv] rfl rfl cf193 zN (IH2 dd12 oM _ S g pp dp (n) (s72) (c72) (p) (eptr ve12 1 5) (ex.kids.getD 1 Ex.zero) vv (env) (fun b hb=>(by have:=hS b hb; omega:b < w72.heap.size)) hgS hB72 (hp.chg (good_rP (good_rPr dp)) (hE72.sub (subS hgS))) oM oM oM (RN.ptr (good_rEx dd12) (by decide) Ex.zero (hx12.rn.chg (good_rdS (good_rEx dd12)) (hE72.sub (subS hgS))) sD) (henv.chg g2 (hE72.sub (subS hgS))) hqenv (by exact hvp) oM z193_2 (by exact hse) (by have:=kd_at (l:=ex.kids) (k:=1) oM; omega)) ?_
          rintro e77 w77 ⟨v77,x77,s77,c77,rfl,hC77,hB77,hr77,hse77,hsb77,hcb77,hrl77⟩
          refine ⟨_,rfl,?_⟩
          have hzs77:=hC77.size
          have hE77:Chg [g] w w77:=hE72.trans hC77
          have hF82:=hr72.run g1 hgS hC77
          have hsn77:=hse77.1
          have hrb:=hrl77
          have hb1:=hse77
          have hlb:=hsn77
          have hzz:x77.getD 0 0 = 0∨¬ x77.getD 0 0 = 0:=Decidable.em _
          refine lw_tvn 1 rfl (wp_seq (wp_block (wp_seq (wp_plain _ [0,0,0,2,0,0] rfl (lw_tv 1 rfl (q_nilP (hex.isPtr) rfl zN (q_fldL (p:=ve) 0 fd174_0 rfl (hl12 _ (hE77.sub (subS hgS))) zN (q_load (p:=(padd ve 0)) (.inr rfl) (.int .i64 ex.kind) one2 rfl ((hl12 _ (hE77.sub (subS hgS))).ld (i:=0) z193_3) zN ?_))))))))
          by_cases hc83:ex.kind = ((3 :Nat):Int)
          ·
           refine q_eql true rfl rfl (decide_eq_true hc83) zN (lw_tvn 1 rfl (c_cond_t rfl (wp_seq (wp_plain _ [0,0,3,0] rfl (lw_tv 2 rfl (lw_call 224 [] [] [v72,v77] rfl rfl cf224 zN (c_spec_l01Add _ _ _ _ _ (hF82).rd (hr77).rd oM oM) ?_))))))
           rintro e84 w84 ⟨v84_0,rfl,hX84,hO84_0⟩
           refine ⟨_,rfl,hX84,?_⟩
           have hzs84:=hX84.size
           have hE84:Chg [g] w w84:=hE77.ext hX84
           have hB77x84:=hB77.ext hX84
           have hN85:=hF82.ext g1 hX84
           have hN86:=hr77.ext g1 hX84
           exact lw_tvn 1 rfl (wp_ret (b_ret (t_ret (post_ret [6] rfl v84_0 rfl ⟨v84_0,addS x72 x77,s77,c77,rfl,hE84,hB77x84,(RN.of_fr1 hO84_0 (fun b hb=>by have:=hS b hb; omega)),(by exact addS_ser ha1),oM,oM,(by exact rel_ops hc00 hs1 oM (rel_k2 oM hra hrb) (fun h0=>by rw [h0]; exact op_add oM) (fun _=>rfl))⟩))))
          ·
           refine q_eql false rfl rfl (decide_eq_false hc83) zN (lw_tvn 1 rfl (c_cond_f rfl (wp_seq (wp_plain _ [0,0,0,2,0,0] rfl (lw_tv 1 rfl (q_nilP (hex.isPtr) rfl zN (q_fldL (p:=ve) 0 fd174_0 rfl (hl12 _ (hE77.sub (subS hgS))) zN (q_load (p:=(padd ve 0)) (.inr rfl) (.int .i64 ex.kind) one2 rfl ((hl12 _ (hE77.sub (subS hgS))).ld (i:=0) z193_3) zN ?_))))))))
           by_cases hc87:ex.kind = ((4 :Nat):Int)
           ·
            refine q_eql true rfl rfl (decide_eq_true hc87) zN (lw_tvn 1 rfl (c_cond_t rfl (wp_seq (wp_plain _ [0,0,3,0] rfl (lw_tv 2 rfl (lw_call 225 [] [] [v72,v77] rfl rfl cf225 zN (c_spec_l01Sub _ _ _ _ _ (hF82).rd (hr77).rd oM oM oM) ?_))))))
            rintro e88 w88 ⟨v88_0,rfl,hX88,hO88_0⟩
            refine ⟨_,rfl,hX88,?_⟩
            have hzs88:=hX88.size
            have hE88:Chg [g] w w88:=hE77.ext hX88
            have hB77x88:=hB77.ext hX88
            have hN89:=hF82.ext g1 hX88
            have hN90:=hr77.ext g1 hX88
            exact lw_tvn 1 rfl (wp_ret (b_ret (t_ret (post_ret [6] rfl v88_0 rfl ⟨v88_0,redS x72 x77,s77,c77,rfl,hE88,hB77x88,(RN.of_fr1 hO88_0 (fun b hb=>by have:=hS b hb; omega)),(by exact redS_ser ha1),oM,oM,(by exact rel_ops hc00 hs1 oM (rel_k2 oM hra hrb) (fun h0=>by rw [h0]; exact op_sub oM) (fun _=>rfl))⟩))))
           ·
            refine q_eql false rfl rfl (decide_eq_false hc87) zN (lw_tvn 1 rfl (c_cond_f rfl (wp_seq (wp_plain _ [0,0,0,2,0,0] rfl (lw_tv 1 rfl (q_nilP (hex.isPtr) rfl zN (q_fldL (p:=ve) 0 fd174_0 rfl (hl12 _ (hE77.sub (subS hgS))) zN (q_load (p:=(padd ve 0)) (.inr rfl) (.int .i64 ex.kind) one2 rfl ((hl12 _ (hE77.sub (subS hgS))).ld (i:=0) z193_3) zN ?_))))))))
            by_cases hc91:ex.kind = ((5 :Nat):Int)
            ·
             refine q_eql true rfl rfl (decide_eq_true hc91) zN (lw_tvn 1 rfl (c_cond_t rfl (wp_seq (wp_plain _ [0,0,3,0] rfl (lw_tv 2 rfl (lw_call 226 [] [] [v72,v77] rfl rfl cf226 zN (c_spec_l01Mul _ _ _ _ _ (hF82).rd (hr77).rd oM oM) ?_))))))
             rintro e92 w92 ⟨v92_0,rfl,hX92,hO92_0⟩
             refine ⟨_,rfl,hX92,?_⟩
             have hzs92:=hX92.size
             have hE92:Chg [g] w w92:=hE77.ext hX92
             have hB77x92:=hB77.ext hX92
             have hN93:=hF82.ext g1 hX92
             have hN94:=hr77.ext g1 hX92
             exact lw_tvn 1 rfl (wp_ret (b_ret (t_ret (post_ret [6] rfl v92_0 rfl ⟨v92_0,proS x72 x77,s77,c77,rfl,hE92,hB77x92,(RN.of_fr1 hO92_0 (fun b hb=>by have:=hS b hb; omega)),(by exact proS_ser ha1),oM,oM,(by exact rel_ops hc00 hs1 oM (rel_k2 oM hra hrb) (fun h0=>by rw [h0]; exact op_mul oM) (fun _=>rfl))⟩))))
            ·
             refine q_eql false rfl rfl (decide_eq_false hc91) zN (lw_tvn 1 rfl (c_cond_f rfl (wp_seq (wp_plain _ [0,0,0,2,0,0,0,0,2,0,0,0] rfl (lw_tv 1 rfl (q_nil rfl zN (q_fldP (p:=(.pointer (some ⟨g,0,none⟩))) (b:=g) (o:=0) 3 fd157_3 rfl rfl zN (q_load (p:=(padd (.pointer (some ⟨g,0,none⟩)) 3)) (.inr rfl) (.int .i64 c77) one2 rfl (hB77.ldp (i:=3) sM) zN ?_))))))))
             by_cases hc95:c77≠((0 :Nat):Int)
             ·
              refine q_neq true rfl rfl (decide_eq_true hc95) zN (lw_tvn 7 rfl (c_cond_t rfl (wp_seq (wp_plain _ [0,4,0] rfl (lw_tv 1 rfl (lw_callE 221 [] [] [(.pointer (some ⟨g,0,none⟩)),(.int .i64 ((6 :Nat):Int))] rfl rfl cf221 zN (c_spec_l02Run_fail _ S g pp dp (n) (s77) (c77) (p) (((6 :Nat):Int)) (fun b hb=>(by have:=hS b hb; omega:b < w77.heap.size)) hgS hB77 (hp.chg (good_rP (good_rPr dp)) (hE77.sub (subS hgS))) oM oM oM oM oM) ?_))))))
              rintro e96 w96 ⟨v96,x96,s96,c96,rfl,hC96,hB96,hr96,hse96,hsb96,hcb96,hrl96⟩
              refine ⟨_,rfl,?_⟩
              have hzs96:=hC96.size
              have hE96:Chg [g] w w96:=hE77.trans hC96
              have hF101:=hF82.run g1 hgS hC96
              have hF102:=hr77.run g1 hgS hC96
              have hsn96:=hse96.1
              have hfs:=hrl96.1
              have hff:=hrl96.2
              exact lw_tvn 1 rfl (wp_ret (b_ret (t_ret (post_ret [6] rfl v96 rfl ⟨v96,x96,s96,c96,rfl,hE96,hB96,hr96,(by assumption),oM,oM,(by rw [hfs]; exact rel_ops hc00 hs1 oM (rel_k2 oM hra hrb) (fun h0=>absurd h0 oM) (fun h0=>by rw [hff,if_neg h0]))⟩))))
             ·
              refine q_neq false rfl rfl (decide_eq_false hc95) zN (lw_tv 2 rfl (q_idx (v:=v77) 0 u27 ti2 rfl rfl hr77.slL rfl (by rw [hlb]; omega) (zS (e:=175) rfl rfl rfl) ?_))
              have hg103:=RN.getI (w:=w77) (k:=0) hr77 (by rw [hlb]; omega)
              refine q_load (p:=eptr v77 0 1) (.inr rfl) (.int .i64 (x77.getD 0 0)) one2 rfl (hg103.1 _ (Chg.refl _ _)) (zS (e:=175) rfl rfl rfl) ?_
              by_cases hc104:x77.getD 0 0 = ((0 :Nat):Int)
              ·
               refine q_eql true rfl rfl (decide_eq_true hc104) (zS (e:=175) rfl rfl rfl) (lw_tvn 2 rfl (c_cond_t rfl (wp_seq (wp_plain _ [0,4,0] rfl (lw_tv 1 rfl (lw_callE 221 [] [] [(.pointer (some ⟨g,0,none⟩)),(.int .i64 ((6 :Nat):Int))] rfl rfl cf221 zN (c_spec_l02Run_fail _ S g pp dp (n) (s77) (c77) (p) (((6 :Nat):Int)) (fun b hb=>(by have:=hS b hb; omega:b < w77.heap.size)) hgS hB77 (hp.chg (good_rP (good_rPr dp)) (hE77.sub (subS hgS))) oM oM oM oM oM) ?_))))))
               rintro e105 w105 ⟨v105,x105,s105,c105,rfl,hC105,hB105,hr105,hse105,hsb105,hcb105,hrl105⟩
               refine ⟨_,rfl,?_⟩
               have hzs105:=hC105.size
               have hE105:Chg [g] w w105:=hE77.trans hC105
               have hF110:=hF82.run g1 hgS hC105
               have hF111:=hr77.run g1 hgS hC105
               have hsn105:=hse105.1
               have hfs:=hrl105.1
               have hff:=hrl105.2
               exact lw_tvn 1 rfl (wp_ret (b_ret (t_ret (post_ret [6] rfl v105 rfl ⟨v105,x105,s105,c105,rfl,hE105,hB105,hr105,(by assumption),oM,oM,(by rw [hfs]; exact rel_ops hc00 hs1 oM (rel_k2 oM hra hrb) (fun h0=>by rw [hff,if_pos h0]; exact op_div0 (xs:=[_,_]) oM (hzz.resolve_right oM)) (fun h0=>by rw [hff,if_neg h0]))⟩))))
              ·
               refine q_eql false rfl rfl (decide_eq_false hc104) (zS (e:=175) rfl rfl rfl) (lw_tvn 2 rfl (c_cond_f rfl (wp_skip (wp_seq (wp_plain _ [0,0,3,0] rfl (lw_tv 2 rfl (lw_call 227 [] [] [v72,v77] rfl rfl cf227 zN (c_spec_l01Div _ _ _ _ _ (hF82).rd (hr77).rd oM oM oM (by exact ha1.2)) ?_)))))))
               rintro e112 w112 ⟨v112_0,rfl,hX112,hO112_0⟩
               refine ⟨_,rfl,hX112,?_⟩
               have hzs112:=hX112.size
               have hE112:Chg [g] w w112:=hE77.ext hX112
               have hB77x112:=hB77.ext hX112
               have hN113:=hF82.ext g1 hX112
               have hN114:=hr77.ext g1 hX112
               exact lw_tvn 1 rfl (wp_ret (post_ret [6] rfl v112_0 rfl ⟨v112_0,quoS x72 x77,s77,c77,rfl,hE112,hB77x112,(RN.of_fr1 hO112_0 (fun b hb=>by have:=hS b hb; omega)),(by exact quoS_ser ha1),oM,oM,(by exact rel_ops hc00 hs1 oM (rel_k2 oM hra hrb) (fun h0=>by rw [h0]; exact op_div (xs:=[_,_]) oM (hzz.resolve_left oM)) (fun _=>rfl))⟩))
end Go.Proofs.YtnokbaiemimhjaaGreat
namespace Go.Proofs.YtnokbaiemimhjaaGreat
open Go Go.RowKit
set_option linter.unusedVariables false
set_option linter.unusedSimpArgs false
set_option maxHeartbeats 4000000
set_option maxRecDepth 100000
attribute [local irreducible] LW
theorem s_value:∀ F d,SV F d:=by
  intro F
  induction F using Nat.strongRecOn with
  | _ F ihF =>
    intro d
    induction d using Nat.strongRecOn with
    | _ d ihd =>
      intro w S g pp dp n s0 c0 p ve ex vv env hS hgS hB0 hp hn hs0 hc0 hex henv hqenv hvp hF hwf hse hdp
      exact c_spec_l02Run_expr w S F g pp dp n s0 c0 p d ve ex vv env hS hgS hB0 hp hn hs0 hc0 hex henv hqenv hvp hF hwf hse hdp ihF ihd
theorem s_outs (F:Nat):SO F:=c_outs F fun d=>s_value F d
theorem c_spec_l03Eval (w:World) (dp:Nat) (vp:Value) (p:List Fn) (f:Int) (va:Value) (a:List (List Int)) (n:Nat) (hp:RN [] (rP (rPr dp)) w.heap vp p) (_hf:-9223372036854775808≤f∧f≤9223372036854775807) (ha:RN [] (rdL (rdL rI)) w.heap va a) (hqa:CapS va) (hvp:VPr p) (hf:0≤f∧f < ((p.length :Nat):Int)) (hl:((a.length :Nat):Int) = (p.getD f.toNat Fn.zero).params) (hse:SrE n a) (hn:1≤n∧n≤13) :
  Calls Tryz.prog 110 #[vp,.int .i64 f,va,.int .i64 ((n :Nat):Int)] w (fun e w'=>∃ v0:Value,e = .returned (.tuple #[v0,.int .i64 (evD p n f.toNat a)])∧Ext w w'∧Fr (owL (owL rI 2) 27) w.heap.size w'.heap.size w'.heap v0 (evR p n f.toNat a)∧EvP p n f.toNat a):=by
 refine calls_mk [vp,.int .i64 f,va,.int .i64 ((n :Nat):Int)] 53 Tryz.func110 rfl rfl sM ?_
 have hE0:Ext w w:=Ext.refl w
 have hl_va:=ha.lenL
 unfold maxLen at hl_va
 refine wp_seq (wp_plain _ [0,0] rfl (lw_tvn 2 rfl (wp_seq (wp_plain _ [0,0,0,3,0] rfl (lw_tv 2 rfl ?_)))))
 have hbd1:∀ (vp:Value) (hp1_0:∃ b o,vp = .pointer (some ⟨b,o,none⟩)) (wq:World),(Instr.build 157 #[(0,vp),(1,(.int .i64 ((n :Nat):Int)))]).run Tryz.prog wq = .ok (.agg #[vp,(.int .i64 ((n :Nat):Int)),(.int .i64 0),(.int .i64 0)]) wq:=by intro vp hp1_0 wq; obtain ⟨b0,o0,rfl⟩:=hp1_0;kernel_rfl
 refine q_build (ps:=#[(0,vp),(1,(.int .i64 ((n :Nat):Int)))]) (.agg #[vp,(.int .i64 ((n :Nat):Int)),(.int .i64 0),(.int .i64 0)]) (by simp only [List.map_toArray,List.map_cons,List.map_nil]; rfl) (fun wq=>hbd1 vp hp.isPtr wq) zN (r_boxA (cs:=#[vp,(.int .i64 ((n :Nat):Int)),(.int .i64 0),(.int .i64 0)]) rfl zN fun w2 hX2 hz2 hB2=>?_)
 have hzs2:=hX2.size
 have hE2:=hE0.trans hX2
 replace hB2:BX w2.heap w.heap.size [vp,(.int .i64 ((n :Nat):Int)),(.int .i64 0),(.int .i64 0)]:=hB2
 refine lw_tvn 1 rfl (wp_seq (wp_plain _ [0,0,0,0,2,0,0,0,4,0] rfl ?_))
 have hpr:=hvp.par f.toNat oM
 have hou:=hvp.outs f.toNat oM
 have hle:a.length = a.length:=rfl
 refine lw_tv 2 rfl (q_nilP (hp.isPtr) rfl zN ?_)
 obtain ⟨cs3,hr3,hl3⟩:=RN.at (good_rPr _) hp
 obtain ⟨ve3,rfl,hx3⟩:=RPr.of hr3
 have hln3:=hx3.lenle
 unfold maxLen at hln3
 refine q_fldL (p:=vp) 0 fd26_0 rfl (hl3 _ (Chg.of_ext [] hE2)) zN (q_load (p:=(padd vp 0)) (.inr rfl) ve3 one24 rfl ((hl3 _ (Chg.of_ext [] hE2)).ld (i:=0) (by simp [exC,fnC])) zN (lw_tv 1 rfl (q_idx (v:=ve3) ((f).toNat) u24 tiS55 rfl rfl hx3.isSl oM sD zN (lw_tv 1 rfl ?_))))
 refine lw_callE 145 [] [] [(.pointer (some ⟨w.heap.size,0,none⟩)),(eptr ve3 ((f).toNat) 3),va] rfl rfl cf145 zN (s_outs f.toNat _ [w.heap.size] w.heap.size vp dp (n) (0) (0) (p) dp (eptr ve3 ((f).toNat) 3) (p.getD ((f).toNat) Fn.zero) va (a) (fun b hb=>(by have:=List.mem_singleton.1 hb; omega:b < w2.heap.size)) (List.mem_singleton.2 rfl) hB2 ((hp.add (F:=[w.heap.size]) (good_rP (good_rPr dp)) (fun b hb=>by have:=List.mem_singleton.1 hb; omega)).ext (good_rP (good_rPr dp)) hE2) oM oM oM (RN.ptr (good_rFn dp) (by decide) Fn.zero ((hx3.add (F:=[w.heap.size]) (good_rdS (good_rFn dp)) (fun b hb=>by have:=List.mem_singleton.1 hb; omega)).ext (good_rdS (good_rFn dp)) hE2) sD) ((ha.add (F:=[w.heap.size]) g2 (fun b hb=>by have:=List.mem_singleton.1 hb; omega)).ext g2 hE2) hqa (by exact hvp) oM (by intro k9 hk9; have h9:=hvp.wf f.toNat oM k9 hk9; rw [hle]; rw [hl]; exact h9) (by exact hse) (by intro k9 hk9; have:=hvp.deep f.toNat oM k9 hk9; omega) oM) ?_
 rintro e4 w4 ⟨v4,x4,s4,c4,rfl,hC4,hB4,hr4,hse4,hsb4,hcb4,hrl4⟩
 refine ⟨_,rfl,?_⟩
 have hzs4:=hC4.size
 have hE4:Ext w w4:=hC4.below hE2 (fun b hb=>by have:b = w.heap.size:=(by simpa using hb); omega) hE2.size
 have hsn4:=hse4.2.1
 have hsr4:=hse4.2.2
 have hcp4:=hse4.1
 have hrt4:=hr4.rt g2
 have hRL:=hrl4
 have hCB:=hcb4
 have hEP:=EvP.mk' hRL hCB hsb4 hsn4 hsr4
 have hXS:=hsr4
 have hXL:=hsn4
 refine lw_tvn 1 rfl (wp_seq (wp_seq (wp_plain _ [0,0,0,2,0] rfl (lw_tv 1 rfl (q_nil rfl zN (q_fldP (p:=(.pointer (some ⟨w.heap.size,0,none⟩))) (b:=w.heap.size) (o:=0) 3 fd157_3 rfl rfl zN (q_load (p:=(padd (.pointer (some ⟨w.heap.size,0,none⟩)) 3)) (.inr rfl) (.int .i64 c4) one2 rfl (hB4.ldp (i:=3) sM) zN ?_)))))))
 by_cases hc8:c4≠((0 :Nat):Int)
 ·
  refine q_neq true rfl rfl (decide_eq_true hc8) zN (lw_nil (c_cond_t rfl (wp_seq (wp_draw _ [3,0,0,0,1,0,0] mixed (by kernel_rfl) (r_nil (owL rI 2) o1 u32 ti27 zN fun v9 w9 hX9 hz9 hO9=>?_)))))
  replace hX9:=hX9.of_drew
  have hzs9:=hX9.size
  have hE9:=hE4.trans hX9
  have hB4x9:=hB4.ext hX9
  have hN10:=hrt4.ext g2 hX9
  exact lw_tv 1 rfl (q_nil rfl zN (q_fldP (p:=(.pointer (some ⟨w.heap.size,0,none⟩))) (b:=w.heap.size) (o:=0) 3 fd157_3 rfl rfl zN (q_load (p:=(padd (.pointer (some ⟨w.heap.size,0,none⟩)) 3)) (.inl rfl) (.int .i64 c4) one2 rfl (hB4.ldp (i:=3) sM) zN (lw_tvn 2 rfl (wp_ret (t_ret (post_ret [8,9] rfl (.tuple #[v9,(.int .i64 c4)]) rfl ⟨v9,(by rw [evD_e (ev_err hRL oM)] <;> rfl),hE9,(by rw [evR_e (ev_err hRL oM)]; exact (hO9.up o2).low hE4.size),hEP⟩)))))))
 ·
  refine q_neq false rfl rfl (decide_eq_false hc8) zN (lw_nil (c_cond_f rfl (wp_skip (wp_seq (wp_plain _ [3,0] rfl (r_nil (owL rI 2) o1 u32 ti27 zN fun v11 w11 hX11 hz11 hO11=>?_))))))
  have hzs11:=hX11.size
  have hE11:=hE4.trans hX11
  have hB4x11:=hB4.ext hX11
  have hN12:=hrt4.ext g2 hX11
  refine lw_tvn 1 rfl (wp_seq (wp_seq (wp_plain _ [0] rfl (lw_tvn 1 rfl (wp_block ?_)))))
  refine c_loop (S:=Nat × Value) (fun (⟨k,vo⟩:Nat × Value)=>([(12,vo),(13,(.int .i64 ((k :Nat):Int))),(11,v4)]:List (Nat × Value))) (fun (⟨k,vo⟩:Nat × Value) (W:World)=>Ext w W∧Fr (owL (owL rI 2) 27) w4.heap.size W.heap.size W.heap vo ((x4).take k)∧k≤(x4).length∧RT w4.heap.size (rdL (rdL rI)) W.heap v4 x4∧w4.heap.size≤W.heap.size∧w4.heap.size≤w4.heap.size∧w4.heap.size≤W.heap.size) (fun (⟨k,vo⟩:Nat × Value)=>(x4).length - k) (0,v11) ⟨rfl,rfl,rfl,trivial⟩ ⟨hE11,hO11.up o2,sD,(by assumption),oM,oM,oM⟩ ?_
  clear hE0 hz2 hX2 hzs2 hE2 hln3 hC4 hO11 hz11 hX11 hzs11 hE11
  rintro ⟨k,vo⟩ ρ16 w16 ⟨hE16,hL16_0,hp16_0,hrk13,hkB14,hkt15,hkB17⟩
  have hzs16:w.heap.size≤w16.heap.size:=hE16.size
  refine wp_seq (wp_seq (wp_plain _ [0,0,0,0] rfl (lw_tv 2 rfl (q_len (v:=v4) u32 rfl hrk13.slL zN ?_))))
  by_cases hc18:((k :Nat):Int) < ((x4.length :Nat):Int)
  ·
   refine q_lss true rfl rfl (decide_eq_true hc18) zN (lw_nil (c_cond_t rfl (wp_skip (wp_seq (wp_block (wp_plain _ [0,0,0,0,2,3,3,4,0] rfl ?_))))))
   have hkx:=hXS k oM
   have hkl:=hkx.1
   refine lw_tv 3 rfl (q_idx (v:=v4) k u32 ti27 rfl rfl hrk13.slL rfl sD zN ?_)
   obtain ⟨ue19,hl19,hr19⟩:=RT.getL g1 [] (k:=k) hrk13 sD
   have hln19:=hr19.lenL
   unfold maxLen at hln19
   refine q_load (p:=eptr v4 k 1) (.inr rfl) ue19 one27 rfl hl19 zN (lw_call 165 [] [] [ue19] rfl rfl cf165 zN (c_spec_l00Own _ _ _ hr19.rd oM) ?_)
   rintro e20 w20 ⟨v20_0,rfl,hX20,hO20_0⟩
   refine ⟨_,rfl,hX20,?_⟩
   have hzs20:=hX20.size
   have hE20:=hE16.trans hX20
   have hL16_0x20:=hL16_0.ext (o2) hX20
   have hN21:=hrk13.ext g2 hX20
   have hN22:=hr19.ext g1 hX20
   refine r_one (u:=v20_0) (B:=w16.heap.size) o1 u32 ti27 rfl rfl hO20_0 (by first | exact Nat.le_refl _ | omega) zN fun v23 w23 hX23 hz23 hO23=>?_
   have hzs23:=hX23.size
   have hE23:=hE20.trans hX23
   have hL16_0x23:=hL16_0x20.ext (o2) hX23
   have hN24:=hN21.ext g2 hX23
   have hN25:=hN22.ext g1 hX23
   refine e_appF o1 (v:=vo) (a:=v23) u32 ti27 rfl rfl rfl hL16_0x23 oM hO23 oM oM sD (by unfold maxLen; first | omega | assumption | (simp; done) | (simp; omega)) zN fun v26 w26 F26 hC26 hF26 hO26=>?_
   have hE26:Ext w w26:=hC26.below hE23 (fun c hc=>Nat.le_trans hE4.size (hF26 c hc).1) hE23.size
   have hzs26:=hC26.size
   have hN27:=hN24.chg g2 hC26 (fun c hc=>by have:=hF26 c hc; omega)
   have hN28:=hN25.chg g1 hC26 (fun c hc=>by have:=hF26 c hc; omega)
   refine lw_tvn 1 rfl (wp_plain _ [0,0,0] rfl (lw_tv 1 rfl (q_add ((k + 1 :Nat):Int) rfl rfl (w64n oM sD) zN (lw_tvn 1 rfl ?_))))
   exact ⟨((k + 1),v26),_,rfl,⟨rfl,rfl,rfl,trivial⟩,⟨hE26,(by rw [take_snoc [] oM]; exact hO26.up o2),sD,(by assumption),oM,oM,oM⟩,by first | omega | (dsimp only; omega)⟩
  ·
   exact q_lss false rfl rfl (decide_eq_false hc18) zN (lw_nil (c_cond_f rfl (wp_exit (t_exit (t_exit (c_exit_here (wp_seq (wp_plain _ [0,0,0] rfl (lw_tvn 3 rfl (wp_ret (post_ret [8,9] rfl (.tuple #[vo,(.int .i64 ((0 :Nat):Int))]) rfl ⟨vo,(by rw [evD_o (ev_ok hRL oM)] <;> rfl),hE16,(by have h:=(hL16_0.up o2).low hE4.size; rw [evR_o (ev_ok hRL oM)]; rwa [List.take_of_length_le oM] at h),hEP⟩)))))))))))
theorem z212_0 {p:Prop} (h:p:=by unfold okS; first | (rw [‹(decide (((1:Nat):Int)≤((a.length:Nat):Int)) && decide (((a.length:Nat):Int)≤((13:Nat):Int))) = false›]; rfl) | (rw [‹(decide (((1:Nat):Int)≤((a.length:Nat):Int)) && decide (((a.length:Nat):Int)≤((13:Nat):Int))) = true›]; rfl)):p:=h
theorem c_spec_l01Ok (w:World) (va:Value) (a:List Int) (ha:Rd (rdL rI) w.heap va a)  :
  Calls Tryz.prog 212 #[va] w (fun e w'=>e = .returned (.bool (okS a))∧Ext w w'):=by
 refine calls_mk [va] 10 Tryz.func212 rfl rfl sM ?_
 have hE0:Ext w w:=Ext.refl w
 have hl_va:=ha.lenle
 refine wp_seq (wp_plain _ [0] rfl (lw_tvn 1 rfl (wp_seq (wp_plain _ [0,0,0,0,0,3,0,0] rfl (lw_tv 1 rfl (q_len (v:=va) u27 rfl ha.isSl zN (lw_callq 92 [] [] [(.int .i64 ((a.length :Nat):Int)),(.int .i64 ((1 :Nat):Int)),(.int .i64 ((13 :Nat):Int))] rfl rfl cf92 zN (.bool (decide (((1 :Nat):Int)≤((a.length :Nat):Int)) && decide (((a.length :Nat):Int)≤((13 :Nat):Int)))) (fun wq=>c_spec_l00In wq _ _ _ oM oM oM) (lw_tv 1 rfl ?_))))))))
 cases hb2:(decide (((1 :Nat):Int)≤((a.length :Nat):Int)) && decide (((a.length :Nat):Int)≤((13 :Nat):Int)))
 ·
  exact lw_tvn 4 rfl (wp_ret (post_ret [2] rfl (.bool false) rfl ⟨(ret_bool z212_0),hE0⟩))
 ·
  refine lw_tv 1 rfl (lw_call 144 [] [] [va] rfl rfl cf144 (zS (e:=6) rfl rfl rfl) (c_spec_l01Numbers _ _ _ (ha.ext g1 hE0)) ?_)
  rintro e3 w3 ⟨rfl,hX3⟩
  refine ⟨_,rfl,hX3,?_⟩
  have hzs3:=hX3.size
  have hE3:=hE0.trans hX3
  exact lw_tvn 2 rfl (wp_ret (post_ret [2] rfl (.bool (allN a)) rfl ⟨(ret_bool z212_0),hE3⟩))
theorem c_spec_l07Series (w:World) (va:Value) (a:List (List Int)) (K:Nat) (ha:Rd (rdL (rdL rI)) w.heap va a)  :
  Calls Tryz.prog 164 #[va,.int .i64 ((K :Nat):Int)] w (fun e w'=>e = .returned (.bool (a.all (serB K)))∧Ext w w'):=by
 refine calls_mk [va,.int .i64 ((K :Nat):Int)] 27 Tryz.func164 rfl rfl sM ?_
 have hE0:Ext w w:=Ext.refl w
 have hl_va:=ha.lenle
 refine wp_seq (wp_plain _ [0] rfl (lw_tvn 1 rfl (wp_seq (wp_seq (wp_plain _ [0] rfl (lw_tvn 1 rfl (wp_block (c_loop (S:=Nat) (fun (k:Nat)=>([(5,(.int .i64 ((k :Nat):Int))),(0,va),(1,(.int .i64 ((K :Nat):Int)))]:List (Nat × Value))) (fun (k:Nat) (W:World)=>Ext w W∧k≤a.length∧((a.take k).all (serB K) = true)) (fun (k:Nat)=>a.length - k) 0 ⟨rfl,rfl,rfl,trivial⟩ ⟨hE0,sD,(by exact rfl)⟩ ?_))))))))
 clear hE0
 rintro k ρ1 w1 ⟨hE1,hp1_0,hq⟩
 have hzs1:w.heap.size≤w1.heap.size:=hE1.size
 refine wp_seq (wp_seq (wp_plain _ [0,0,0,0] rfl (lw_tv 2 rfl (q_len (v:=va) u32 rfl ha.isSl zN ?_))))
 by_cases hc2:((k :Nat):Int) < ((a.length :Nat):Int)
 ·
  refine q_lss true rfl rfl (decide_eq_true hc2) zN (lw_nil (c_cond_t rfl (wp_skip (wp_seq (wp_block (wp_seq (wp_plain _ [0,0,0,2,3,0,0,0,0,0,2,0,0,0,0] rfl (lw_tv 2 rfl (q_idx (v:=va) k u32 ti27 rfl rfl ha.isSl rfl sD zN ?_)))))))))
  obtain ⟨ue3,hl3,hd3⟩:=ha.get (k:=k) [] sD
  have hln3:=hd3.lenle
  refine q_load (p:=eptr va k 1) (.inr rfl) ue3 one27 rfl (ldH_ext hE1 hl3) zN (lw_call 212 [] [] [ue3] rfl rfl cf212 zN (c_spec_l01Ok _ _ _ (hd3.ext g1 hE1)) ?_)
  rintro e4 w4 ⟨rfl,hX4⟩
  refine ⟨_,rfl,hX4,?_⟩
  have hzs4:=hX4.size
  have hE4:=hE1.trans hX4
  refine q_not (!(okS (a.getD k []))) rfl rfl zN (lw_tv 1 rfl ?_)
  cases hb5:(!(okS (a.getD k [])))
  ·
   refine lw_tv 2 rfl (q_idx (v:=va) k u32 ti27 rfl rfl ha.isSl rfl sD (zS (e:=18) rfl rfl rfl) ?_)
   obtain ⟨ue6,hl6,hd6⟩:=ha.get (k:=k) [] sD
   have hln6:=hd6.lenle
   refine q_load (p:=eptr va k 1) (.inr rfl) ue6 one27 rfl (ldH_ext hE4 hl6) (zS (e:=18) rfl rfl rfl) (q_len (v:=ue6) u27 rfl hd6.isSl (zS (e:=18) rfl rfl rfl) (lw_tv 1 rfl ?_))
   by_cases hc7:(((a.getD k []).length :Nat):Int)≠((K :Nat):Int)
   ·
    exact q_neq true rfl rfl (decide_eq_true hc7) (zS (e:=18) rfl rfl rfl) (lw_tvn 1 rfl (c_cond_t rfl (wp_seq (wp_plain _ [0] rfl (lw_tvn 1 rfl (wp_ret (b_ret (t_ret (t_ret (b_ret (t_ret (post_ret [4] rfl (.bool false) rfl ⟨(ret_bool (all_fail (f:=serB K) (k:=k) [] oM (by unfold serB; rw [Bool.and_eq_false_iff]; right; exact decide_eq_false oM)).symm),hE4⟩))))))))))))
   ·
    refine q_neq false rfl rfl (decide_eq_false hc7) (zS (e:=18) rfl rfl rfl) (lw_tvn 1 rfl (c_cond_f rfl (wp_skip (wp_plain _ [0,0,0] rfl (lw_tv 1 rfl (q_add ((k + 1 :Nat):Int) rfl rfl (w64n oM sD) zN (lw_tvn 1 rfl ?_)))))))
    exact ⟨(k + 1),_,rfl,⟨rfl,rfl,rfl,trivial⟩,⟨hE4,sD,(by exact all_succ (f:=serB K) [] hq oM (by unfold serB; simp only [Bool.and_eq_true,decide_eq_true_eq]; exact ⟨by simpa using ‹(!okS (a.getD k [])) = false›,by omega⟩))⟩,by first | omega | (dsimp only; omega)⟩
  ·
   exact lw_tvn 8 rfl (c_cond_t rfl (wp_seq (wp_plain _ [0] rfl (lw_tvn 1 rfl (wp_ret (b_ret (t_ret (t_ret (b_ret (t_ret (post_ret [4] rfl (.bool false) rfl ⟨(ret_bool (all_fail (f:=serB K) (k:=k) [] oM (by unfold serB; rw [Bool.and_eq_false_iff]; left; simpa using ‹(!okS (a.getD k [])) = true›)).symm),hE4⟩)))))))))))
 ·
  exact q_lss false rfl rfl (decide_eq_false hc2) zN (lw_nil (c_cond_f rfl (wp_exit (t_exit (t_exit (c_exit_here (wp_seq (wp_plain _ [0] rfl (lw_tvn 1 rfl (wp_ret (post_ret [4] rfl (.bool true) rfl ⟨(ret_bool (all_done hq oM).symm),hE1⟩)))))))))))
end Go.Proofs.YtnokbaiemimhjaaGreat
namespace Go.Proofs.YtnokbaiemimhjaaGreat
open Go Go.RowKit
set_option linter.unusedVariables false
set_option linter.unusedSimpArgs false
set_option maxHeartbeats 4000000
set_option maxRecDepth 100000
attribute [local irreducible] LW
theorem z136_0 {p:Prop} (h:p:=by first | exact ret_int (shF_n oM) | exact ret_int (mq_b oM (bn_t (by assumption))) | exact ret_int (mq_c oM oM) | exact ret_int (mq_d oM (bn_f (by assumption)) oM)):p:=h
theorem c_spec_l07Equation (w:World) (dp:Nat) (vp:Value) (p:List Fn) (f:Int) (hp:RN [] (rP (rPr dp)) w.heap vp p) (_hf:-9223372036854775808≤f∧f≤9223372036854775807) (hz:SzP p) :
  Calls Tryz.prog 136 #[vp,.int .i64 f] w (fun e w'=>e = .returned (.int .i64 (shF p f eqnB))∧Ext w w'):=by
 refine calls_mk [vp,.int .i64 f] 45 Tryz.func136 rfl rfl sM ?_
 have hE0:Ext w w:=Ext.refl w
 refine wp_seq (wp_plain _ [0] rfl (lw_tvn 1 rfl (wp_seq (wp_plain _ [0,0,3,0] rfl (lw_tv 2 rfl (lw_call 91 [] [] [vp,(.int .i64 f)] rfl rfl cf91 zN (c_spec_l02Asked _ dp vp (p) _ (hp.ext (good_rP (good_rPr dp)) hE0) _hf (by exact hz)) ?_))))))
 rintro e1 w1 ⟨rfl,hX1⟩
 refine ⟨_,rfl,hX1,?_⟩
 have hzs1:w.heap.size≤w1.heap.size:=hX1.size
 have hE1:Ext w w1:=hE0.trans hX1
 refine lw_tvn 1 rfl (wp_seq (wp_seq (wp_draw _ [0,0,0,0,0,0,1,0,0,0,1,0,0,0,0,0,0,1,0,0,0,1,0,0,0,0,1,0,0,0,1,0,0,0,0] mixed (by kernel_rfl) (lw_tv 1 rfl ?_))))
 by_cases hc2:isF p f = ((0 :Nat):Int)
 ·
  refine q_eql true rfl rfl (decide_eq_true hc2) zN (lw_tv 2 rfl ?_)
  have hi0:=isF_0 (p:=p) (f:=f) oM
  have hpq:=(okP_vpr hi0.1).par f.toNat oM
  refine q_nilP (hp.isPtr) rfl (zS (e:=11) rfl rfl rfl) ?_
  obtain ⟨cs3,hr3,hl3⟩:=RN.at (good_rPr _) hp
  obtain ⟨ve3,rfl,hx3⟩:=RPr.of hr3
  have hln3:=hx3.lenle
  unfold maxLen at hln3
  refine q_fldL (p:=vp) 0 fd26_0 rfl (hl3 _ (Chg.of_ext [] hE1.drew)) (zS (e:=11) rfl rfl rfl) (q_load (p:=(padd vp 0)) (.inl rfl) ve3 one24 rfl ((hl3 _ (Chg.of_ext [] hE1.drew)).ld (i:=0) (by simp [exC,fnC])) (zS (e:=11) rfl rfl rfl) (lw_tv 1 rfl (q_idx (v:=ve3) ((f).toNat) u24 tiS55 rfl rfl hx3.isSl oM sD (zS (e:=11) rfl rfl rfl) ?_)))
  obtain ⟨cs4,hr4,hl4⟩:=hx3.get (good_rFn dp) Fn.zero (k:=((f).toNat)) sD
  obtain ⟨ve4,rfl,hx4⟩:=RF.of hr4
  have hln4:=hx4.rn.lenle
  unfold maxLen at hln4
  refine q_fldL (p:=eptr ve3 ((f).toNat) 3) 1 fd55_1 rfl (hl4 _ (Chg.of_ext [] hE1.drew)) (zS (e:=11) rfl rfl rfl) (q_load (p:=(padd (eptr ve3 ((f).toNat) 3) 1)) (.inl rfl) (.int .i64 ((p.getD ((f).toNat) Fn.zero).params)) one2 rfl ((hl4 _ (Chg.of_ext [] hE1.drew)).ld (i:=1) (by simp [exC,fnC])) (zS (e:=11) rfl rfl rfl) (lw_callq 92 [] [] [(.int .i64 ((p.getD ((f).toNat) Fn.zero).params)),(.int .i64 ((2 :Nat):Int)),(.int .i64 ((7 :Nat):Int))] rfl rfl cf92 (zS (e:=11) rfl rfl rfl) (.bool (decide (((2 :Nat):Int)≤((p.getD ((f).toNat) Fn.zero).params)) && decide (((p.getD ((f).toNat) Fn.zero).params)≤((7 :Nat):Int)))) (fun wq=>c_spec_l00In wq _ _ _ hx4.rng oM oM) ?_))
  refine q_not (!(decide (((2 :Nat):Int)≤((p.getD ((f).toNat) Fn.zero).params)) && decide (((p.getD ((f).toNat) Fn.zero).params)≤((7 :Nat):Int)))) rfl rfl (zS (e:=11) rfl rfl rfl) (lw_tv 1 rfl ?_)
  cases hb6:(!(decide (((2 :Nat):Int)≤((p.getD ((f).toNat) Fn.zero).params)) && decide (((p.getD ((f).toNat) Fn.zero).params)≤((7 :Nat):Int))))
  ·
   refine lw_tv 1 rfl (q_nilP (hp.isPtr) rfl (zS (e:=22) rfl rfl rfl) (q_fldL (p:=vp) 0 fd26_0 rfl (hl3 _ (Chg.of_ext [] hE1.drew)) (zS (e:=22) rfl rfl rfl) (q_load (p:=(padd vp 0)) (.inl rfl) ve3 one24 rfl ((hl3 _ (Chg.of_ext [] hE1.drew)).ld (i:=0) (by simp [exC,fnC])) (zS (e:=22) rfl rfl rfl) (lw_tv 1 rfl (q_idx (v:=ve3) ((f).toNat) u24 tiS55 rfl rfl hx3.isSl oM sD (zS (e:=22) rfl rfl rfl) ?_)))))
   refine q_fldL (p:=eptr ve3 ((f).toNat) 3) 2 fd55_2 rfl (hl4 _ (Chg.of_ext [] hE1.drew)) (zS (e:=22) rfl rfl rfl) (q_load (p:=(padd (eptr ve3 ((f).toNat) 3) 2)) (.inl rfl) ve4 one53 rfl ((hl4 _ (Chg.of_ext [] hE1.drew)).ld (i:=2) (by simp [exC,fnC])) (zS (e:=22) rfl rfl rfl) (q_len (v:=ve4) u53 rfl hx4.rn.isSl (zS (e:=22) rfl rfl rfl) (lw_tv 1 rfl (q_nilP (hp.isPtr) rfl (zS (e:=22) rfl rfl rfl) (q_fldL (p:=vp) 0 fd26_0 rfl (hl3 _ (Chg.of_ext [] hE1.drew)) (zS (e:=22) rfl rfl rfl) (q_load (p:=(padd vp 0)) (.inl rfl) ve3 one24 rfl ((hl3 _ (Chg.of_ext [] hE1.drew)).ld (i:=0) (by simp [exC,fnC])) (zS (e:=22) rfl rfl rfl) (lw_tv 1 rfl ?_)))))))
   refine q_idx (v:=ve3) ((f).toNat) u24 tiS55 rfl rfl hx3.isSl oM sD (zS (e:=22) rfl rfl rfl) (q_fldL (p:=eptr ve3 ((f).toNat) 3) 1 fd55_1 rfl (hl4 _ (Chg.of_ext [] hE1.drew)) (zS (e:=22) rfl rfl rfl) (q_load (p:=(padd (eptr ve3 ((f).toNat) 3) 1)) (.inl rfl) (.int .i64 ((p.getD ((f).toNat) Fn.zero).params)) one2 rfl ((hl4 _ (Chg.of_ext [] hE1.drew)).ld (i:=1) (by simp [exC,fnC])) (zS (e:=22) rfl rfl rfl) ?_))
   refine q_sub ((p.getD f.toNat Fn.zero).params - 1) rfl rfl (w64 oM oM) (zS (e:=22) rfl rfl rfl) ?_
   by_cases hc7:((((p.getD ((f).toNat) Fn.zero).outs).length :Nat):Int)≠(p.getD f.toNat Fn.zero).params - 1
   ·
    exact q_neq true rfl rfl (decide_eq_true hc7) (zS (e:=22) rfl rfl rfl) (lw_tvn 2 rfl (c_cond_t rfl (wp_plain _ [0] rfl (lw_tvn 1 rfl (wp_seq (wp_plain _ [0,0] rfl (lw_tvn 2 rfl (wp_ret (post_ret [4] rfl (.int .i64 ((2 :Nat):Int)) rfl ⟨z136_0,hE1.drew⟩)))))))))
   ·
    exact q_neq false rfl rfl (decide_eq_false hc7) (zS (e:=22) rfl rfl rfl) (lw_tvn 2 rfl (c_cond_f rfl (wp_skip (wp_seq (wp_plain _ [0,0] rfl (lw_tvn 2 rfl (wp_ret (post_ret [4] rfl (.int .i64 (isF p f)) rfl ⟨z136_0,hE1.drew⟩))))))))
  ·
   exact lw_tvn 21 rfl (c_cond_t rfl (wp_plain _ [0] rfl (lw_tvn 1 rfl (wp_seq (wp_plain _ [0,0] rfl (lw_tvn 2 rfl (wp_ret (post_ret [4] rfl (.int .i64 ((2 :Nat):Int)) rfl ⟨z136_0,hE1.drew⟩))))))))
 ·
  exact q_eql false rfl rfl (decide_eq_false hc2) zN (lw_tvn 33 rfl (c_cond_f rfl (wp_skip (wp_seq (wp_plain _ [0,0] rfl (lw_tvn 2 rfl (wp_ret (post_ret [4] rfl (.int .i64 (isF p f)) rfl ⟨z136_0,hE1.drew⟩))))))))
theorem z109_0 {p:Prop} (h:p:=by first | exact ret_int (gq_n oM) | exact ret_int (gq_l oM oM) | exact ret_int (gq_s oM (bn_t (by assumption))) | exact ret_int (gq_0 oM oM (bn_f (by assumption)))):p:=h
theorem c_spec_l07Asked (w:World) (dp:Nat) (vp:Value) (p:List Fn) (f:Int) (vy:Value) (y:List (List Int)) (hp:RN [] (rP (rPr dp)) w.heap vp p) (_hf:-9223372036854775808≤f∧f≤9223372036854775807) (hy:RN [] (rdL (rdL rI)) w.heap vy y) (hqy:CapS vy) (hz:SzP p) :
  Calls Tryz.prog 109 #[vp,.int .i64 f,vy] w (fun e w'=>e = .returned (.int .i64 (gqC p f y))∧Ext w w'):=by
 refine calls_mk [vp,.int .i64 f,vy] 37 Tryz.func109 rfl rfl sM ?_
 have hE0:Ext w w:=Ext.refl w
 have hl_vy:=hy.lenL
 unfold maxLen at hl_vy
 refine wp_seq (wp_plain _ [0] rfl (lw_tvn 1 rfl (wp_seq (wp_plain _ [0,0,3,0] rfl (lw_tv 2 rfl (lw_call 136 [] [] [vp,(.int .i64 f)] rfl rfl cf136 zN (c_spec_l07Equation _ dp vp (p) _ (hp.ext (good_rP (good_rPr dp)) hE0) _hf (by exact hz)) ?_))))))
 rintro e1 w1 ⟨rfl,hX1⟩
 refine ⟨_,rfl,hX1,?_⟩
 have hzs1:w.heap.size≤w1.heap.size:=hX1.size
 have hE1:Ext w w1:=hE0.trans hX1
 refine lw_tvn 1 rfl (wp_seq (wp_seq (wp_plain _ [0,0,0,0,0,0,0,0,2,0,0,0,2,0,0,0,0,0,0,2,0,3,0,0,0] rfl (lw_tv 1 rfl ?_))))
 by_cases hc2:shF p f eqnB = ((0 :Nat):Int)
 ·
  refine q_eql true rfl rfl (decide_eq_true hc2) zN (lw_tv 2 rfl ?_)
  have hi0:=eqn_0 (p:=p) (f:=f) oM
  refine q_len (v:=vy) u32 rfl hy.slL (zS (e:=13) rfl rfl rfl) (lw_tv 1 rfl (q_nilP (hp.isPtr) rfl (zS (e:=13) rfl rfl rfl) ?_))
  obtain ⟨cs3,hr3,hl3⟩:=RN.at (good_rPr _) hp
  obtain ⟨ve3,rfl,hx3⟩:=RPr.of hr3
  have hln3:=hx3.lenle
  unfold maxLen at hln3
  refine q_fldL (p:=vp) 0 fd26_0 rfl (hl3 _ (Chg.of_ext [] hE1)) (zS (e:=13) rfl rfl rfl) (q_load (p:=(padd vp 0)) (.inr rfl) ve3 one24 rfl ((hl3 _ (Chg.of_ext [] hE1)).ld (i:=0) (by simp [exC,fnC])) (zS (e:=13) rfl rfl rfl) (lw_tv 1 rfl (q_idx (v:=ve3) ((f).toNat) u24 tiS55 rfl rfl hx3.isSl oM sD (zS (e:=13) rfl rfl rfl) ?_)))
  obtain ⟨cs4,hr4,hl4⟩:=hx3.get (good_rFn dp) Fn.zero (k:=((f).toNat)) sD
  obtain ⟨ve4,rfl,hx4⟩:=RF.of hr4
  have hln4:=hx4.rn.lenle
  unfold maxLen at hln4
  refine q_fldL (p:=eptr ve3 ((f).toNat) 3) 1 fd55_1 rfl (hl4 _ (Chg.of_ext [] hE1)) (zS (e:=13) rfl rfl rfl) (q_load (p:=(padd (eptr ve3 ((f).toNat) 3) 1)) (.inr rfl) (.int .i64 ((p.getD ((f).toNat) Fn.zero).params)) one2 rfl ((hl4 _ (Chg.of_ext [] hE1)).ld (i:=1) (by simp [exC,fnC])) (zS (e:=13) rfl rfl rfl) (q_sub ((p.getD f.toNat Fn.zero).params - 1) rfl rfl (w64 oM oM) (zS (e:=13) rfl rfl rfl) ?_))
  by_cases hc5:((y.length :Nat):Int)≠(p.getD f.toNat Fn.zero).params - 1
  ·
   exact q_neq true rfl rfl (decide_eq_true hc5) (zS (e:=13) rfl rfl rfl) (lw_tvn 10 rfl (c_cond_t rfl (wp_plain _ [0] rfl (lw_tvn 1 rfl (wp_seq (wp_plain _ [0,0] rfl (lw_tvn 2 rfl (wp_ret (post_ret [6] rfl (.int .i64 ((2 :Nat):Int)) rfl ⟨z109_0,hE1⟩)))))))))
  ·
   refine q_neq false rfl rfl (decide_eq_false hc5) (zS (e:=13) rfl rfl rfl) (lw_tv 3 rfl (q_idx (v:=vy) 0 u32 ti27 rfl rfl hy.slL rfl sD (zS (e:=26) rfl rfl rfl) ?_))
   obtain ⟨ue6,hl6,hr6⟩:=RN.getL (w:=w) g1 [] (k:=0) hy sD
   have hln6:=hr6.lenL
   unfold maxLen at hln6
   refine q_load (p:=eptr vy 0 1) (.inr rfl) ue6 one27 rfl (hl6 _ (Chg.of_ext [] hE1)) (zS (e:=26) rfl rfl rfl) (q_len (v:=ue6) u27 rfl hr6.slL (zS (e:=26) rfl rfl rfl) (lw_call 164 [] [] [vy,(.int .i64 (((y.getD 0 []).length :Nat):Int))] rfl rfl cf164 (zS (e:=26) rfl rfl rfl) (c_spec_l07Series _ _ _ ((y.getD 0 []).length) ((hy.ext g2 hE1)).rd) ?_))
   rintro e7 w7 ⟨rfl,hX7⟩
   refine ⟨_,rfl,hX7,?_⟩
   have hzs7:w1.heap.size≤w7.heap.size:=hX7.size
   have hE7:Ext w w7:=hE1.trans hX7
   refine q_not (!(y.all (serB ((y.getD 0 []).length)))) rfl rfl (zS (e:=26) rfl rfl rfl) (lw_tvn 2 rfl ?_)
   cases hb8:(!(y.all (serB ((y.getD 0 []).length))))
   ·
    exact c_cond_f (by first | rfl | (show Value.bool _ = _; rw [hb8])) (wp_skip (wp_seq (wp_plain _ [0,0] rfl (lw_tvn 2 rfl (wp_ret (post_ret [6] rfl (.int .i64 (shF p f eqnB)) rfl ⟨z109_0,hE7⟩))))))
   ·
    exact c_cond_t (by first | rfl | (show Value.bool _ = _; rw [hb8])) (wp_plain _ [0] rfl (lw_tvn 1 rfl (wp_seq (wp_plain _ [0,0] rfl (lw_tvn 2 rfl (wp_ret (post_ret [6] rfl (.int .i64 ((2 :Nat):Int)) rfl ⟨z109_0,hE7⟩)))))))
 ·
  exact q_eql false rfl rfl (decide_eq_false hc2) zN (lw_tvn 23 rfl (c_cond_f rfl (wp_skip (wp_seq (wp_plain _ [0,0] rfl (lw_tvn 2 rfl (wp_ret (post_ret [6] rfl (.int .i64 (shF p f eqnB)) rfl ⟨z109_0,hE1⟩))))))))
theorem c_spec_l07Time (w:World) (n:Nat) (_hn:n≤1000000000000) (hn:1≤n∧n≤13) :
  Calls Tryz.prog 166 #[.int .i64 ((n :Nat):Int)] w (fun e w'=>∃ v0:Value,e = .returned (v0)∧Ext w w'∧Fr (owL rI 2) w.heap.size w'.heap.size w'.heap v0 (tmS n)):=by
 refine calls_mk [.int .i64 ((n :Nat):Int)] 11 Tryz.func166 rfl rfl sM ?_
 have hE0:Ext w w:=Ext.refl w
 refine wp_seq (wp_plain _ [0] rfl (lw_tvn 1 rfl (wp_seq (wp_plain _ [0,3,0] rfl (lw_tv 1 rfl (lw_call 122 [] [] [(.int .i64 ((0 :Nat):Int)),(.int .i64 ((n :Nat):Int))] rfl rfl cf122 zN (c_spec_l01Const _ _ (n) oM sD oM) ?_))))))
 rintro e1 w1 ⟨v1_0,rfl,hX1,hO1_0⟩
 refine ⟨_,rfl,hX1,?_⟩
 have hzs1:w.heap.size≤w1.heap.size:=hX1.size
 have hE1:Ext w w1:=hE0.trans hX1
 refine lw_tvn 1 rfl (wp_seq (wp_seq (wp_plain _ [0,0] rfl (lw_tv 1 rfl ?_))))
 by_cases hc2:((1 :Nat):Int) < ((n :Nat):Int)
 ·
  refine q_gtr true rfl rfl (decide_eq_true hc2) zN (lw_nil (c_cond_t rfl (wp_plain _ [0,0,4] rfl (lw_tv 1 rfl (q_idx (v:=v1_0) 1 u27 ti2 rfl rfl hO1_0.isSl rfl (by first | omega | (rw [cst_len]; omega) | (simp; omega)) zN (e_setI (v:=v1_0) (w:=w1) sz2 rfl rfl oM hO1_0 (by first | omega | (rw [cst_len]; omega) | (simp; omega)) zN fun w3 F3 hC3 hz3 hF3 hO3=>?_))))))
  have hE3:Ext w w3:=hC3.below hE1 (fun c hc=>Nat.le_trans (Nat.le_refl _) (hF3 c hc).1) hE1.size
  have hzs3:w1.heap.size≤w3.heap.size:=hC3.size
  exact lw_nil (wp_seq (wp_plain _ [0,0] rfl (lw_tvn 2 rfl (wp_ret (post_ret [2] rfl v1_0 rfl ⟨v1_0,rfl,hE3,(by have h:=hO3.up o1; unfold tmS; first | (rw [show cst n ((0 :Nat):Int) = List.replicate n 0 from cst_zH n] at h; exact h) | (rw [show cst n ((0 :Nat):Int) = List.replicate n 0 from cst_zH n] at h; rw [show n = 1 from by omega] at h ⊢; exact h))⟩)))))
 ·
  exact q_gtr false rfl rfl (decide_eq_false hc2) zN (lw_nil (c_cond_f rfl (wp_skip (wp_seq (wp_plain _ [0,0] rfl (lw_tvn 2 rfl (wp_ret (post_ret [2] rfl v1_0 rfl ⟨v1_0,rfl,hE1,(by have h:=hO1_0.up o1; unfold tmS; first | (rw [show cst n ((0 :Nat):Int) = List.replicate n 0 from cst_zH n] at h; exact h) | (rw [show cst n ((0 :Nat):Int) = List.replicate n 0 from cst_zH n] at h; rw [show n = 1 from by omega] at h ⊢; exact h))⟩))))))))
theorem c_spec_l07With (w:World) (vy:Value) (y:List (List Int)) (hy:RN [] (rdL (rdL rI)) w.heap vy y) (hqy:CapS vy) (hyb:0 < y.length∧y.length≤1000) (hr:1≤(y.getD 0 []).length∧(y.getD 0 []).length≤13) :
  Calls Tryz.prog 111 #[vy] w (fun e w'=>∃ v0:Value,e = .returned v0∧Ext w w'∧RN [] (rdL (rdL rI)) w'.heap v0 (wiS y)∧CapS v0):=by
 refine calls_mk [vy] 25 Tryz.func111 rfl rfl sM ?_
 have hE0:Ext w w:=Ext.refl w
 have hl_vy:=hy.lenL
 unfold maxLen at hl_vy
 have hS:∀ b∈([]:List Nat),b < w.heap.size:=fun b hb=>by cases hb
 refine wp_seq (wp_plain _ [0] rfl (lw_tvn 1 rfl (wp_seq (wp_plain _ [0,0,2,0,3,3,0] rfl (lw_tv 1 rfl (q_idx (v:=vy) 0 u32 ti27 rfl rfl hy.slL rfl sD zN ?_))))))
 obtain ⟨ue1,hl1,hr1⟩:=RN.getL (w:=w) g1 [] (k:=0) hy sD
 have hln1:=hr1.lenL
 unfold maxLen at hln1
 refine q_load (p:=eptr vy 0 1) (.inr rfl) ue1 one27 rfl (hl1 _ (Chg.of_ext [] hE0)) zN (q_len (v:=ue1) u27 rfl hr1.slL zN (lw_call 166 [] [] [(.int .i64 (((y.getD 0 []).length :Nat):Int))] rfl rfl cf166 zN (c_spec_l07Time _ ((y.getD 0 []).length) sD oM) ?_))
 rintro e2 w2 ⟨v2_0,rfl,hX2,hO2_0⟩
 refine ⟨_,rfl,hX2,?_⟩
 have hzs2:w.heap.size≤w2.heap.size:=hX2.size
 have hE2:Ext w w2:=hE0.trans hX2
 refine r_one (u:=v2_0) (B:=w2.heap.size) good_rV u32 ti27 rfl rfl (frV w2.heap.size w2.heap.size _ (⟨(isSl_cells hO2_0.isSl).1,(isSl_cells hO2_0.isSl).2⟩)) (Nat.le_refl _) zN fun v3 w3 hX3 hz3 hO3=>?_
 have hzs3:w2.heap.size≤w3.heap.size:=hX3.size
 have hE3:Ext w w3:=hE2.trans hX3
 have hO2_0x3:=hO2_0.ext (o1) hX3
 obtain ⟨BO,hBO⟩:∃ b:Nat,b = w2.heap.size:=⟨_,rfl⟩
 have hwB:w.heap.size≤BO:=by omega
 obtain ⟨us4,F4,hb4⟩:=Bld.one hO3 hO2_0x3 oM
 rw [← hBO] at hb4
 refine lw_tvn 1 rfl (wp_seq (wp_seq (wp_plain _ [0] rfl (lw_tvn 1 rfl (wp_block (c_loop (S:=Nat × Value) (fun (⟨k,vo⟩:Nat × Value)=>([(3,vo),(4,(.int .i64 ((k :Nat):Int))),(0,vy)]:List (Nat × Value))) (fun (⟨k,vo⟩:Nat × Value) (W:World)=>Ext w W∧k≤y.length∧w.heap.size≤BO∧BO≤W.heap.size∧BldE 27 [] BO W.heap vo (tmS (y.getD 0 []).length :: y.take k)) (fun (⟨k,vo⟩:Nat × Value)=>y.length - k) (0,v3) ⟨rfl,rfl,rfl,trivial⟩ ⟨hE3,oM,oM,oM,(by exact ⟨_,_,by assumption⟩)⟩ ?_))))))
 clear hE0 hln1 hO2_0 hX2 hzs2 hE2 hO3 hz3 hX3 hzs3 hE3 hO2_0x3
 rintro ⟨k,vo⟩ ρ5 w5 ⟨hE5,hp5_0,hp5_1,hp5_2,hbld⟩
 have hzs5:w.heap.size≤w5.heap.size:=hE5.size
 have hpkl:(tmS (y.getD 0 []).length :: y.take k).length = k + 1:=by rw [List.length_cons,List.length_take]; omega
 obtain ⟨us6,F6,hbl6⟩:=hbld
 have hFl:∀ b∈F6,b < w5.heap.size:=hbl6.lt
 refine wp_seq (wp_seq (wp_plain _ [0,0,0,0] rfl (lw_tv 2 rfl (q_len (v:=vy) u32 rfl hy.slL zN ?_))))
 by_cases hc7:((k :Nat):Int) < ((y.length :Nat):Int)
 ·
  refine q_lss true rfl rfl (decide_eq_true hc7) zN (lw_nil (c_cond_t rfl (wp_skip (wp_seq (wp_block (wp_plain _ [0,0,0,0,2,3,4,0] rfl (lw_tv 3 rfl (q_idx (v:=vy) k u32 ti27 rfl rfl hy.slL rfl sD zN ?_))))))))
  obtain ⟨ue8,hl8,hr8⟩:=RN.getL (w:=w) g1 [] (k:=k) hy sD
  have hln8:=hr8.lenL
  unfold maxLen at hln8
  refine q_load (p:=eptr vy k 1) (.inr rfl) ue8 one27 rfl (hl8 _ (Chg.of_ext [] hE5)) zN (r_one (u:=ue8) (B:=w5.heap.size) good_rV u32 ti27 rfl rfl (frV w5.heap.size w5.heap.size _ (hr8.one1 g1)) (Nat.le_refl _) zN fun v9 w9 hX9 hz9 hO9=>?_)
  have hzs9:w5.heap.size≤w9.heap.size:=hX9.size
  have hE9:Ext w w9:=hE5.trans hX9
  have hN10:=hbl6.ext hX9
  refine e_appB (v:=vo) (a:=v9) (u:=ue8) u32 ti27 rfl rfl rfl hN10 oM hO9 (RN.stp g1 hr8 (Chg.of_ext [] hE9) (fun b hb=>.inr (by have:=hN10.low b (by simpa using hb); omega))) sD (by unfold maxLen; first | omega | assumption | (simp; done) | (simp; omega)) zN ?_
  rintro v11 w11 G11 hC11 hF11 ⟨us11,F11,hb11⟩
  have hzs11:w9.heap.size≤w11.heap.size:=hC11.size
  have hE11:Ext w w11:=hC11.below hE9 (fun c hc=>Nat.le_trans hwB (hN10.low c (hF11 c hc))) hE9.size
  exact lw_tvn 1 rfl (wp_plain _ [0,0,0] rfl (lw_tv 1 rfl (q_add ((k + 1 :Nat):Int) rfl rfl (w64n oM sD) zN (lw_tvn 1 rfl ⟨((k + 1),v11),_,rfl,⟨rfl,rfl,rfl,trivial⟩,⟨hE11,oM,oM,oM,(by rw [← wiS_succ oM]; exact ⟨_,_,by assumption⟩)⟩,by first | omega | (dsimp only; omega)⟩))))
 ·
  exact q_lss false rfl rfl (decide_eq_false hc7) zN (lw_nil (c_cond_f rfl (wp_exit (t_exit (t_exit (c_exit_here (wp_seq (wp_plain _ [0,0] rfl (lw_tvn 2 rfl (wp_ret (post_ret [2] rfl vo rfl ⟨_,rfl,hE5,(by have h9:=(hbl6.done (fun b hb=>absurd hb List.not_mem_nil)); rw [List.take_of_length_le oM] at h9; exact h9),hbl6.cap⟩)))))))))))
theorem z42_0 {p:Prop} (h:p:=by first | (rw [show m = r from by omega]; exact hnn.imp id (fun ⟨q,h1,h2⟩=>⟨q,by omega,h2⟩)) | exact .inr ⟨i,by omega,by omega⟩):p:=h
theorem z42_1 {p:Prop} (h:p:=by intro q hq j hj; by_cases h9:q = i; (subst h9; exact hm2 j hj); exact hzz q oM j oM):p:=h
theorem c_spec_ResidueOrder (w:World) (dp:Nat) (vp:Value) (p:List Fn) (f:Int) (vy:Value) (y:List (List Int)) (hp:RP [] dp w.heap vp p) (_hf:-9223372036854775808≤f∧f≤9223372036854775807) (hy:RN [] (rdL (rdL rI)) w.heap vy y) (hqy:CapS vy) (hz:SzP p) :
  Calls Tryz.prog 42 #[(.agg #[vp]),.int .i64 f,vy] w (fun e w'=>e = .returned (.tuple #[.int .i64 (rqR p f y),.int .i64 (rqC p f y)])∧Ext w w'):=by
 refine calls_mk [(.agg #[vp]),.int .i64 f,vy] 59 Tryz.func42 rfl rfl sM ?_
 have hE0:Ext w w:=Ext.refl w
 have hl_vp:=hp.lenle
 unfold maxLen at hl_vp
 have hl_vy:=hy.lenL
 unfold maxLen at hl_vy
 refine wp_seq (wp_plain _ [3,0,0] rfl (r_boxA (cs:=#[vp]) rfl zN fun w1 hX1 hz1 hB1=>?_))
 have hzs1:w.heap.size≤w1.heap.size:=hX1.size
 have hE1:Ext w w1:=hE0.trans hX1
 replace hB1:BX w1.heap w.heap.size [vp]:=hB1
 refine lw_tvn 2 rfl (wp_seq (wp_plain _ [0,0,3,0] rfl (lw_tv 2 rfl (lw_call 109 [] [] [(.pointer (some ⟨w.heap.size,0,none⟩)),(.int .i64 f),vy] rfl rfl cf109 zN (c_spec_l07Asked _ dp ((.pointer (some ⟨w.heap.size,0,none⟩))) (p) _ vy (y) (RN.box hB1 (RP.mk' (hp.ext (good_rdS (good_rFn dp)) hE1)) sM) _hf (hy.ext g2 hE1) hqy (by exact hz)) ?_))))
 rintro e2 w2 ⟨rfl,hX2⟩
 refine ⟨_,rfl,hX2,?_⟩
 have hzs2:w1.heap.size≤w2.heap.size:=hX2.size
 have hE2:Ext w w2:=hE1.trans hX2
 have hB1x2:=hB1.ext hX2
 refine lw_tvn 1 rfl (wp_seq (wp_seq (wp_plain _ [0,0] rfl (lw_tv 1 rfl ?_))))
 by_cases hc3:gqC p f y≠((0 :Nat):Int)
 ·
  exact q_neq true rfl rfl (decide_eq_true hc3) zN (lw_nil (c_cond_t rfl (wp_seq (wp_plain _ [0,0,0] rfl (lw_tvn 3 rfl (wp_ret (t_ret (post_ret [6,7] rfl (.tuple #[(.int .i64 ((0 :Nat):Int)),(.int .i64 (gqC p f y))]) rfl ⟨(by rw [rqR_n (by rw [rqC_n oM]; omega),rqC_n oM]; rfl),hE2⟩))))))))
 ·
  refine q_neq false rfl rfl (decide_eq_false hc3) zN (lw_nil (c_cond_f rfl (wp_skip (wp_seq (wp_plain _ [0,0,2,0,0] rfl ?_)))))
  have hg0:gqC p f y = 0:=by omega
  have hq0:=gqC_0 hg0
  have hvp:=okP_vpr hq0.1
  have hsy:=hq0.2.2.2.2.1
  have hyl:=(hsy 0 oM).1
  have hEV:=ev_P hvp (f:=f.toNat) oM (wiS_ser hsy oM) (by rw [wiS_len]; omega)
  rw [← hyl] at hEV
  refine lw_tv 1 rfl (q_idx (v:=vy) 0 u32 ti27 rfl rfl hy.slL rfl sD zN ?_)
  obtain ⟨ue4,hl4,hr4⟩:=RN.getL (w:=w) g1 [] (k:=0) hy sD
  have hln4:=hr4.lenL
  unfold maxLen at hln4
  refine q_load (p:=eptr vy 0 1) (.inr rfl) ue4 one27 rfl (hl4 _ (Chg.of_ext [] hE2)) zN (q_len (v:=ue4) u27 rfl hr4.slL zN (lw_tvn 1 rfl (wp_seq (wp_plain _ [0,0,3,0,3,0,0,0,0,0] rfl (lw_tv 2 rfl (lw_call 111 [] [] [vy] rfl rfl cf111 zN (c_spec_l07With _ vy (y) (hy.ext g2 hE2) hqy oM oM) ?_))))))
  rintro e5 w5 ⟨v5,rfl,hX5,hr5,hcp5⟩
  refine ⟨_,rfl,hX5,?_⟩
  have hzs5:w2.heap.size≤w5.heap.size:=hX5.size
  have hE5:Ext w w5:=hE2.trans hX5
  have hB1x5:=hB1x2.ext hX5
  refine lw_tv 1 rfl (lw_call 110 [] [] [(.pointer (some ⟨w.heap.size,0,none⟩)),(.int .i64 f),v5,(.int .i64 (((y.getD 0 []).length :Nat):Int))] rfl rfl cf110 zN (c_spec_l03Eval _ dp ((.pointer (some ⟨w.heap.size,0,none⟩))) (p) _ v5 (wiS y) ((y.getD 0 []).length) (RN.box hB1x5 (RP.mk' (hp.ext (good_rdS (good_rFn dp)) hE5)) sM) _hf hr5 hcp5 (by exact hvp) oM (by rw [wiS_len]; omega) (by rw [hyl]; exact wiS_ser hsy oM) oM) ?_)
  rintro e6 w6 ⟨v6_0,rfl,hX6,hO6_0,hP6_0⟩
  refine ⟨_,rfl,hX6,?_⟩
  have hzs6:w5.heap.size≤w6.heap.size:=hX6.size
  have hE6:Ext w w6:=hE5.trans hX6
  have hB1x6:=hB1x5.ext hX6
  have hN7:=hr5.ext g2 hX6
  refine lw_tv 1 rfl (q_extract (vs:=[v6_0,(.int .i64 (evD p ((y.getD 0 []).length) f.toNat (wiS y)))]) v6_0 rfl rfl zN (q_extract (vs:=[v6_0,(.int .i64 (evD p ((y.getD 0 []).length) f.toNat (wiS y)))]) (.int .i64 (evD p ((y.getD 0 []).length) f.toNat (wiS y))) rfl rfl zN (lw_tvn 2 rfl (wp_seq (wp_seq (wp_plain _ [0,0] rfl (lw_tv 1 rfl ?_)))))))
  by_cases hc8:evD p ((y.getD 0 []).length) f.toNat (wiS y)≠((0 :Nat):Int)
  ·
   exact q_neq true rfl rfl (decide_eq_true hc8) zN (lw_nil (c_cond_t rfl (wp_seq (wp_plain _ [0,0,0] rfl (lw_tvn 3 rfl (wp_ret (t_ret (post_ret [6,7] rfl (.tuple #[(.int .i64 ((0 :Nat):Int)),(.int .i64 (evD p ((y.getD 0 []).length) f.toNat (wiS y)))]) rfl ⟨(by rw [rqR_n (by rw [rqC_0 hg0,← hyl]; omega),rqC_0 hg0,← hyl]; rfl),hE6⟩))))))))
  ·
   refine q_neq false rfl rfl (decide_eq_false hc8) zN (lw_nil (c_cond_f rfl (wp_skip (wp_seq (wp_plain _ [0,0] rfl ?_)))))
   have hc0:rqC p f y = 0:=by rw [rqC_0 hg0,← hyl]; omega
   have hel:(evR p (y.getD 0 []).length f.toNat (wiS y)).length = (p.getD f.toNat Fn.zero).outs.length:=hEV.len oM
   have hes:=hEV.ser
   refine lw_tvn 2 rfl (wp_seq (wp_seq (wp_plain _ [0] rfl (lw_tvn 1 rfl (wp_block ?_)))))
   refine c_loop (S:=Nat × Nat) (fun (⟨i,r⟩:Nat × Nat)=>([(11,(.int .i64 ((r :Nat):Int))),(12,(.int .i64 ((i :Nat):Int))),(10,v6_0)]:List (Nat × Value))) (fun (⟨i,r⟩:Nat × Nat) (W:World)=>Ext w W∧Fr (owL (owL rI 2) 27) w5.heap.size w6.heap.size W.heap v6_0 (evR p ((y.getD 0 []).length) f.toNat (wiS y))∧i≤(evR p (y.getD 0 []).length f.toNat (wiS y)).length∧r≤(y.getD 0 []).length∧(∀ q,q < i→∀ j,j < r→((evR p (y.getD 0 []).length f.toNat (wiS y)).getD q []).getD j 0 = 0)∧(r = (y.getD 0 []).length∨∃ q,q < i∧((evR p (y.getD 0 []).length f.toNat (wiS y)).getD q []).getD r 0≠0)) (fun (⟨i,r⟩:Nat × Nat)=>(evR p (y.getD 0 []).length f.toNat (wiS y)).length - i) (0,((y.getD 0 []).length)) ⟨rfl,rfl,rfl,trivial⟩ ⟨hE6,hO6_0,oM,oM,(by intro q hq; omega),(by exact .inl rfl)⟩ ?_
   clear hE0 hz1 hX1 hzs1 hE1 hX2 hzs2 hE2 hln4 hX5 hO6_0 hX6
   rintro ⟨i,r⟩ ρ9 w9 ⟨hE9,hL9_0,hp9_0,hp9_1,hzz,hnn⟩
   have hzs9:w.heap.size≤w9.heap.size:=hE9.size
   refine wp_seq (wp_seq (wp_plain _ [0,0,0,0] rfl (lw_tv 2 rfl (q_len (v:=v6_0) u32 rfl hL9_0.isSl zN ?_))))
   by_cases hc10:((i :Nat):Int) < (((evR p ((y.getD 0 []).length) f.toNat (wiS y)).length :Nat):Int)
   ·
    refine q_lss true rfl rfl (decide_eq_true hc10) zN (lw_nil (c_cond_t rfl (wp_skip (wp_seq (wp_block (wp_seq (wp_plain _ [0] rfl (lw_tvn 1 rfl (wp_seq (wp_block (c_loop (S:=Nat) (fun (m:Nat)=>([(13,(.int .i64 ((m :Nat):Int))),(10,v6_0),(11,(.int .i64 ((r :Nat):Int))),(12,(.int .i64 ((i :Nat):Int)))]:List (Nat × Value))) (fun (m:Nat) (W:World)=>Ext w W∧Fr (owL (owL rI 2) 27) w5.heap.size w6.heap.size W.heap v6_0 (evR p ((y.getD 0 []).length) f.toNat (wiS y))∧m≤r∧(∀ j,j < m→((evR p (y.getD 0 []).length f.toNat (wiS y)).getD i []).getD j 0 = 0)) (fun (m:Nat)=>r - m) 0 ⟨rfl,rfl,rfl,rfl,trivial⟩ ⟨hE9,hL9_0,oM,(by intro j hj; omega)⟩ ?_)))))))))))
    clear hL9_0 hE9 hzs9
    rintro m ρ11 w11 ⟨hE11,hL11_0,hp11_0,hm2⟩
    have hzs11:w.heap.size≤w11.heap.size:=hE11.size
    refine wp_seq (wp_seq (wp_plain _ [0,0,0,0,0,0,0,2,0,0,2,0,0] rfl (lw_tv 2 rfl ?_)))
    by_cases hc12:((m :Nat):Int) < ((r :Nat):Int)
    ·
     refine q_lss true rfl rfl (decide_eq_true hc12) zN ?_
     have hei:=hes i oM
     have hei1:=hei.1
     refine lw_tv 3 rfl (q_idx (v:=v6_0) i u32 ti27 rfl rfl hL11_0.isSl rfl sD (zS (e:=45) rfl rfl rfl) ?_)
     obtain ⟨ue13,hl13,hd13⟩:=hL11_0.rd2.get (k:=i) [] sD
     have hln13:=hd13.lenle
     refine q_load (p:=eptr v6_0 i 1) (.inr rfl) ue13 one27 rfl hl13 (zS (e:=45) rfl rfl rfl) (lw_tv 1 rfl (q_idx (v:=ue13) m u27 ti2 rfl rfl hd13.isSl rfl sD (zS (e:=45) rfl rfl rfl) ?_))
     refine q_load (p:=eptr ue13 m 1) (.inr rfl) (.int .i64 (((evR p ((y.getD 0 []).length) f.toNat (wiS y)).getD i []).getD m 0)) one2 rfl (hd13.getI sD).1 (zS (e:=45) rfl rfl rfl) ?_
     by_cases hc14:((evR p ((y.getD 0 []).length) f.toNat (wiS y)).getD i []).getD m 0 = ((0 :Nat):Int)
     ·
      exact q_eql true rfl rfl (decide_eq_true hc14) (zS (e:=45) rfl rfl rfl) (lw_tvn 1 rfl (c_cond_t rfl (wp_skip (wp_block (wp_plain _ [0,0,0] rfl (lw_tv 1 rfl (q_add ((m + 1 :Nat):Int) rfl rfl (w64n oM sD) zN (lw_tvn 1 rfl ⟨(m + 1),_,rfl,⟨rfl,rfl,rfl,rfl,trivial⟩,⟨hE11,hL11_0,oM,(by intro j hj; by_cases h9:j = m; (subst h9; omega); exact hm2 j oM)⟩,by first | omega | (dsimp only; omega)⟩))))))))
     ·
      refine q_eql false rfl rfl (decide_eq_false hc14) (zS (e:=45) rfl rfl rfl) (lw_tvn 1 rfl (c_cond_f rfl (wp_exit (t_exit (t_exit (c_exit_here (wp_plain _ [0,0] rfl (lw_tvn 2 rfl (wp_plain _ [0,0,0] rfl (lw_tv 1 rfl (q_add ((i + 1 :Nat):Int) rfl rfl (w64n oM sD) zN (lw_tvn 1 rfl ?_))))))))))))
      exact ⟨((i + 1),m),_,rfl,⟨rfl,rfl,rfl,trivial⟩,⟨hE11,hL11_0,oM,oM,z42_1,z42_0⟩,by first | omega | (dsimp only; omega)⟩
    ·
     refine q_lss false rfl rfl (decide_eq_false hc12) zN ?_
     have hei:=hes i oM
     have hei1:=hei.1
     refine lw_tvn 10 rfl (c_cond_f rfl (wp_exit (t_exit (t_exit (c_exit_here (wp_plain _ [0,0] rfl (lw_tvn 2 rfl (wp_plain _ [0,0,0] rfl (lw_tv 1 rfl (q_add ((i + 1 :Nat):Int) rfl rfl (w64n oM sD) zN (lw_tvn 1 rfl ?_)))))))))))
     exact ⟨((i + 1),m),_,rfl,⟨rfl,rfl,rfl,trivial⟩,⟨hE11,hL11_0,oM,oM,z42_1,z42_0⟩,by first | omega | (dsimp only; omega)⟩
   ·
    exact q_lss false rfl rfl (decide_eq_false hc10) zN (lw_nil (c_cond_f rfl (wp_exit (t_exit (t_exit (c_exit_here (wp_seq (wp_plain _ [0,0,0] rfl (lw_tvn 3 rfl (wp_ret (post_ret [6,7] rfl (.tuple #[(.int .i64 ((r :Nat):Int)),(.int .i64 ((0 :Nat):Int))]) rfl ⟨(by rw [rqR_0 hc0,hc0,← hyl,← (IsRO.mk (rows:=(evR p (y.getD 0 []).length f.toNat (wiS y))) (n:=(y.getD 0 []).length) (r:=r) oM (fun q hq j hj=>hzz q oM j hj) (hnn.imp id (fun ⟨q,h1,h2⟩=>⟨q,by omega,h2⟩))).eq]; rfl),hE9⟩)))))))))))
end Go.Proofs.YtnokbaiemimhjaaGreat
namespace Go.Proofs.YtnokbaiemimhjaaGreat
open Go Go.RowKit
set_option linter.unusedVariables false
set_option linter.unusedSimpArgs false
set_option maxHeartbeats 4000000
set_option maxRecDepth 100000
attribute [local irreducible] LW
theorem z6_0 {p:Prop} (h:p:=by first | rfl | (exfalso; omega) | simp_all):p:=h
theorem c_laws_FnExactResidueOrder (w:World) (dp:Nat) (vp:Value) (p:List Fn) (f:Int) (va:Value) (y:List (List Int)) (hp:RP [] dp w.heap vp p) (_hf:-9223372036854775808≤f∧f≤9223372036854775807) (hy:Rd (rdL (rdL rI)) w.heap va y) (hnm:∀ k,k < p.length→(p.getD k Fn.zero).name.size≤9223372036854775807) :
  Calls Tryz.prog 6 #[(.agg #[vp]),.int .i64 f,va] w (fun e w'=>e = .returned (.bool true)∧Ext w w'):=by
 refine calls_mk [(.agg #[vp]),.int .i64 f,va] 62 Tryz.func6 rfl rfl sM ?_
 have hE0:Ext w w:=Ext.refl w
 have hl_vp:=hp.lenle
 unfold maxLen at hl_vp
 have hl_va:=hy.lenle
 refine wp_seq (wp_plain _ [3,0] rfl (r_boxA (cs:=#[vp]) rfl zN fun w1 hX1 hz1 hB1=>?_))
 have hzs1:w.heap.size≤w1.heap.size:=hX1.size
 have hE1:Ext w w1:=hE0.trans hX1
 replace hB1:BX w1.heap w.heap.size [vp]:=hB1
 refine lw_tvn 1 rfl (wp_seq (wp_plain _ [0] rfl (lw_tvn 1 rfl (wp_seq (wp_plain _ [2,0,3,0] rfl (q_loadA (p:=(.pointer (some ⟨w.heap.size,0,none⟩))) (.inr rfl) [vp] agg68 rfl (fun wq9 hw9=>LD.of_box (BX.ext (w:=w1) hB1 hw9)) rfl zN (lw_tv 1 rfl (lw_call 40 [] [] [(.agg #[vp]),(.int .i64 ((1048576 :Nat):Int))] rfl rfl cf40 zN (c_laws_szProgram _ dp vp (p) _ (hp.ext (good_rdS (good_rFn dp)) hE1) oM oM (by exact hnm)) ?_))))))))
 rintro e2 w2 ⟨rfl,hX2⟩
 refine ⟨_,rfl,hX2,?_⟩
 have hzs2:w1.heap.size≤w2.heap.size:=hX2.size
 have hE2:Ext w w2:=hE1.trans hX2
 have hB1x2:=hB1.ext hX2
 refine lw_tvn 1 rfl (wp_seq (wp_seq (wp_plain _ [0,0] rfl (lw_tv 1 rfl ?_))))
 by_cases hc3:szV (szP p) ((1048576 :Nat):Int) < ((0 :Nat):Int)
 ·
  exact q_lss true rfl rfl (decide_eq_true hc3) zN (lw_nil (c_cond_t rfl (wp_seq (wp_plain _ [0] rfl (lw_tvn 1 rfl (wp_ret (t_ret (post_ret [6] rfl (.bool true) rfl ⟨z6_0,hE2⟩))))))))
 ·
  refine q_lss false rfl rfl (decide_eq_false hc3) zN (lw_nil (c_cond_f rfl (wp_skip (wp_seq (wp_plain _ [0,0,3,0] rfl ?_)))))
  have hzv:=szV_pos (t:=szP p) (x:=((1048576 :Nat):Int)) oM
  have hz0:szP p≤1048576:=by omega
  have hz:=szP_ok hz0
  refine lw_tv 2 rfl (lw_call 41 [] [] [va,(.int .i64 (szV (szP p) ((1048576 :Nat):Int)))] rfl rfl cf41 zN (c_laws_szInt64SS _ _ _ _ (hy.ext g2 hE2) (by have:=szV_rng (szP p) (x:=((1048576 :Nat):Int)) oM; omega) oM) ?_)
  rintro e4 w4 ⟨rfl,hX4⟩
  refine ⟨_,rfl,hX4,?_⟩
  have hzs4:w2.heap.size≤w4.heap.size:=hX4.size
  have hE4:Ext w w4:=hE2.trans hX4
  have hB1x4:=hB1x2.ext hX4
  refine lw_tvn 1 rfl (wp_seq (wp_seq (wp_plain _ [0,0] rfl (lw_tv 1 rfl ?_))))
  by_cases hc5:szM y (szV (szP p) ((1048576 :Nat):Int)) < ((0 :Nat):Int)
  ·
   exact q_lss true rfl rfl (decide_eq_true hc5) zN (lw_nil (c_cond_t rfl (wp_seq (wp_plain _ [0] rfl (lw_tvn 1 rfl (wp_ret (t_ret (post_ret [6] rfl (.bool true) rfl ⟨z6_0,hE4⟩))))))))
  ·
   refine q_lss false rfl rfl (decide_eq_false hc5) zN (lw_nil (c_cond_f rfl (wp_skip (wp_seq (wp_plain _ [2,3,0,0,3,3,0,0,0,0,0] rfl ?_)))))
   have hB:=(szM_le (a:=y) (l:=szV (szP p) ((1048576 :Nat):Int)) oM oM)
   have hB1:=hB.2.1
   refine q_loadA (p:=(.pointer (some ⟨w.heap.size,0,none⟩))) (.inr rfl) [vp] agg68 rfl (fun wq9 hw9=>LD.of_box (BX.ext (w:=w4) hB1x4 hw9)) rfl zN (lw_call 43 [] [] [(.agg #[vp])] rfl rfl cf43 zN (c_laws_toProgram _ dp vp (p) (hp.ext (good_rdS (good_rFn dp)) hE4) oM) ?_)
   rintro e6 w6 ⟨v6,rfl,hX6,hO6⟩
   refine ⟨_,rfl,hX6,?_⟩
   have hzs6:w4.heap.size≤w6.heap.size:=hX6.size
   have hE6:Ext w w6:=hE4.trans hX6
   have hB1x6:=hB1x4.ext hX6
   refine lw_tv 2 rfl (lw_call 44 [] [] [va] rfl rfl cf44 zN (c_laws_toInt64SS _ _ _ (hy.ext g2 hE6) oM (by intro k; have:=hB.2.2 k; omega)) ?_)
   rintro e7 w7 ⟨v7_0,rfl,hX7,hO7_0⟩
   refine ⟨_,rfl,hX7,?_⟩
   have hzs7:w6.heap.size≤w7.heap.size:=hX7.size
   have hE7:Ext w w7:=hE6.trans hX7
   have hB1x7:=hB1x6.ext hX7
   have hO6x7:=hO6.ext ((good_owS (good_oFn 174 dp))) hX7
   refine lw_call 42 [] [] [(.agg #[v6]),(.int .i64 f),v7_0] rfl rfl cf42 zN (c_spec_ResidueOrder _ dp v6 (p) _ v7_0 (y) (RN.of_frF hO6x7 (fun b hb=>by cases hb)) _hf (RN.of_fr2 hO7_0 (fun b hb=>by cases hb)) hO7_0.cap (by exact hz)) ?_
   rintro e8 w8 ⟨rfl,hX8⟩
   refine ⟨_,rfl,hX8,?_⟩
   have hzs8:w7.heap.size≤w8.heap.size:=hX8.size
   have hE8:Ext w w8:=hE7.trans hX8
   have hB1x8:=hB1x7.ext hX8
   have hO6x8:=hO6x7.ext ((good_owS (good_oFn 174 dp))) hX8
   have hO7_0x8:=hO7_0.ext (o2) hX8
   refine lw_tv 1 rfl (q_extract (vs:=[(.int .i64 (rqR p f y)),(.int .i64 (rqC p f y))]) (.int .i64 (rqR p f y)) rfl rfl zN (q_extract (vs:=[(.int .i64 (rqR p f y)),(.int .i64 (rqC p f y))]) (.int .i64 (rqC p f y)) rfl rfl zN (lw_tvn 2 rfl (wp_seq (wp_plain _ [2,3,3,4] rfl (q_loadA (p:=(.pointer (some ⟨w.heap.size,0,none⟩))) (.inr rfl) [vp] agg68 rfl (fun wq9 hw9=>LD.of_box (BX.ext (w:=w8) hB1x8 hw9)) rfl zN (lw_call 43 [] [] [(.agg #[vp])] rfl rfl cf43 zN (c_laws_toProgram _ dp vp (p) (hp.ext (good_rdS (good_rFn dp)) hE8) oM) ?_)))))))
   rintro e9 w9 ⟨v9,rfl,hX9,hO9⟩
   refine ⟨_,rfl,hX9,?_⟩
   have hzs9:w8.heap.size≤w9.heap.size:=hX9.size
   have hE9:Ext w w9:=hE8.trans hX9
   have hB1x9:=hB1x8.ext hX9
   have hO6x9:=hO6x8.ext ((good_owS (good_oFn 174 dp))) hX9
   have hO7_0x9:=hO7_0x8.ext (o2) hX9
   have hq11:=hB1x9.lt
   refine r_allocA (z:=.agg #[.slice none 0 0]) zr26 zN fun w10 hX10 hz10 hB10=>?_
   have hzs10:w9.heap.size≤w10.heap.size:=hX10.size
   have hE10:Ext w w10:=hE9.trans hX10
   have hB1x10:=hB1x9.ext hX10
   have hO6x10:=hO6x9.ext ((good_owS (good_oFn 174 dp))) hX10
   have hO7_0x10:=hO7_0x9.ext (o2) hX10
   have hO9x10:=hO9.ext ((good_owS (good_oFn 174 dp))) hX10
   replace hB10:BX w10.heap w9.heap.size [(.slice none 0 0)]:=hB10
   refine e_setA (vs:=[v9]) agg26 rfl rfl (by intro u hu; simp only [List.mem_cons,List.not_mem_nil,or_false] at hu; rcases hu with rfl <;> first | exact ⟨rfl,rfl⟩ | exact isSl_one hO9x10.isSlS) hB10 rfl rfl zN fun w12 hC12 hz12 hB12=>?_
   replace hB12:BX w12.heap w9.heap.size [v9]:=hB12
   have hE12:Ext w w12:=hC12.below hE10 (fun c hc=>by have:=List.mem_singleton.1 hc; omega) hE10.size
   have hzs12:w10.heap.size≤w12.heap.size:=hC12.size
   have hF13:=hB1x10.chg hC12 (fun hm=>by have:=List.mem_singleton.1 hm; omega)
   have hF14:=hO6x10.chg ((good_owS (good_oFn 174 dp))) hC12 (fun c hc=>by have:=List.mem_singleton.1 hc; omega)
   have hF15:=hO7_0x10.chg (o2) hC12 (fun c hc=>by have:=List.mem_singleton.1 hc; omega)
   have hF16:=hO9x10.chg ((good_owS (good_oFn 174 dp))) hC12 (fun c hc=>by have:=List.mem_singleton.1 hc; omega)
   refine lw_nil (wp_seq (wp_plain _ [0,3,0] rfl (lw_tv 1 rfl (lw_call 44 [] [] [va] rfl rfl cf44 zN (c_laws_toInt64SS _ _ _ (hy.ext g2 hE12) oM (by intro k; have:=hB.2.2 k; omega)) ?_))))
   rintro e17 w17 ⟨v17_0,rfl,hX17,hO17_0⟩
   refine ⟨_,rfl,hX17,?_⟩
   have hzs17:w12.heap.size≤w17.heap.size:=hX17.size
   have hE17:Ext w w17:=hE12.trans hX17
   have hF13x17:=hF13.ext hX17
   have hF14x17:=hF14.ext ((good_owS (good_oFn 174 dp))) hX17
   have hF15x17:=hF15.ext (o2) hX17
   have hF16x17:=hF16.ext ((good_owS (good_oFn 174 dp))) hX17
   have hB12x17:=hB12.ext hX17
   refine lw_tvn 1 rfl (wp_seq (wp_plain _ [2,0,0,3,0,0,0,0,0] rfl (q_loadA (p:=(.pointer (some ⟨w9.heap.size,0,none⟩))) (.inr rfl) [v9] agg26 rfl (fun wq9 hw9=>LD.of_box (BX.ext (w:=w17) hB12x17 hw9)) rfl zN (lw_tv 2 rfl (lw_call 45 [] [] [(.agg #[v9]),(.int .i64 f),v17_0] rfl rfl cf45 zN (c_impl_ResidueOrder _ dp v9 (p) _ v17_0 (y) (RN.of_frF hF16x17 (fun b hb=>by cases hb)) _hf (RN.of_fr2 hO17_0 (fun b hb=>by cases hb)) hO17_0.cap (by exact hz)) ?_)))))
   rintro e18 w18 ⟨rfl,hX18⟩
   refine ⟨_,rfl,hX18,?_⟩
   have hzs18:w17.heap.size≤w18.heap.size:=hX18.size
   have hE18:Ext w w18:=hE17.trans hX18
   have hF13x18:=hF13x17.ext hX18
   have hF14x18:=hF14x17.ext ((good_owS (good_oFn 174 dp))) hX18
   have hF15x18:=hF15x17.ext (o2) hX18
   have hF16x18:=hF16x17.ext ((good_owS (good_oFn 174 dp))) hX18
   have hB12x18:=hB12x17.ext hX18
   have hO17_0x18:=hO17_0.ext (o2) hX18
   refine lw_tv 1 rfl (q_extract (vs:=[(.int .i64 (rqR p f y)),(.int .i64 (rqC p f y))]) (.int .i64 (rqR p f y)) rfl rfl zN (q_extract (vs:=[(.int .i64 (rqR p f y)),(.int .i64 (rqC p f y))]) (.int .i64 (rqC p f y)) rfl rfl zN (lw_tvn 2 rfl (wp_seq (wp_seq (wp_plain _ [0,0,0,0,0,0,0,0] rfl (lw_tv 2 rfl (q_neq false rfl rfl sM zN (lw_tv 3 rfl (q_neq false rfl rfl sM (zS (e:=47) rfl rfl rfl) (lw_tvn 1 rfl (c_cond_f rfl (wp_skip (wp_seq (wp_seq (wp_draw _ [1,1,3,3,0] mixed (by kernel_rfl) (q_loadA (p:=(.pointer (some ⟨w9.heap.size,0,none⟩))) (.inl rfl) [v9] agg26 rfl (fun wq9 hw9=>LD.of_box (BX.ext (w:=w18.drew) hB12x18 hw9)) rfl zN ?_)))))))))))))))))
   refine q_loadA (p:=(.pointer (some ⟨w.heap.size,0,none⟩))) (.inl rfl) [vp] agg68 rfl (fun wq9 hw9=>LD.of_box (BX.ext (w:=w18.drew) hF13x18 hw9)) rfl zN (lw_call 43 [] [] [(.agg #[vp])] rfl rfl cf43 zN (c_laws_toProgram _ dp vp (p) (hp.ext (good_rdS (good_rFn dp)) hE18.drew) oM) ?_)
   rintro e19 w19 ⟨v19,rfl,hX19,hO19⟩
   refine ⟨_,rfl,hX19,?_⟩
   replace hX19:=hX19.of_drew
   have hzs19:w18.heap.size≤w19.heap.size:=hX19.size
   have hE19:Ext w w19:=hE18.trans hX19
   have hF13x19:=hF13x18.ext hX19
   have hF14x19:=hF14x18.ext ((good_owS (good_oFn 174 dp))) hX19
   have hF15x19:=hF15x18.ext (o2) hX19
   have hF16x19:=hF16x18.ext ((good_owS (good_oFn 174 dp))) hX19
   have hB12x19:=hB12x18.ext hX19
   have hO17_0x19:=hO17_0x18.ext (o2) hX19
   replace hO19:=hO19.low (B':=w18.heap.size) (Nat.le_refl _)
   refine lw_call 46 [] [] [(.agg #[v9]),(.agg #[v19])] rfl rfl cf46 zN (c_laws_eqProgram _ dp v9 (p) dp v19 (p) (RN.of_frF hF16x19 (fun b hb=>by cases hb)) (RN.of_frF hO19 (fun b hb=>by cases hb)) (by rfl)) ?_
   rintro e20 w20 ⟨rfl,hX20⟩
   refine ⟨_,rfl,hX20,?_⟩
   have hzs20:w19.heap.size≤w20.heap.size:=hX20.size
   have hE20:Ext w w20:=hE19.trans hX20
   have hF13x20:=hF13x19.ext hX20
   have hF14x20:=hF14x19.ext ((good_owS (good_oFn 174 dp))) hX20
   have hF15x20:=hF15x19.ext (o2) hX20
   have hF16x20:=hF16x19.ext ((good_owS (good_oFn 174 dp))) hX20
   have hB12x20:=hB12x19.ext hX20
   have hO17_0x20:=hO17_0x19.ext (o2) hX20
   have hO19x20:=hO19.ext ((good_owS (good_oFn 174 dp))) hX20
   refine q_not false rfl rfl zN (lw_nil (c_cond_f rfl (wp_skip (wp_seq (wp_seq (wp_plain _ [0,0,3,3,0] rfl (lw_tv 2 rfl (lw_call 44 [] [] [va] rfl rfl cf44 zN (c_laws_toInt64SS _ _ _ (hy.ext g2 hE20) oM (by intro k; have:=hB.2.2 k; omega)) ?_))))))))
   rintro e21 w21 ⟨v21_0,rfl,hX21,hO21_0⟩
   refine ⟨_,rfl,hX21,?_⟩
   have hzs21:w20.heap.size≤w21.heap.size:=hX21.size
   have hE21:Ext w w21:=hE20.trans hX21
   have hF13x21:=hF13x20.ext hX21
   have hF14x21:=hF14x20.ext ((good_owS (good_oFn 174 dp))) hX21
   have hF15x21:=hF15x20.ext (o2) hX21
   have hF16x21:=hF16x20.ext ((good_owS (good_oFn 174 dp))) hX21
   have hB12x21:=hB12x20.ext hX21
   have hO17_0x21:=hO17_0x20.ext (o2) hX21
   have hO19x21:=hO19x20.ext ((good_owS (good_oFn 174 dp))) hX21
   refine lw_call 47 [] [] [v17_0,v21_0] rfl rfl cf47 zN (c_laws_eqInt64SS _ _ _ _ _ hO17_0x21.rd2 hO21_0.rd2) ?_
   rintro e22 w22 ⟨rfl,hX22⟩
   refine ⟨_,rfl,hX22,?_⟩
   have hzs22:w21.heap.size≤w22.heap.size:=hX22.size
   have hE22:Ext w w22:=hE21.trans hX22
   have hF13x22:=hF13x21.ext hX22
   have hF14x22:=hF14x21.ext ((good_owS (good_oFn 174 dp))) hX22
   have hF15x22:=hF15x21.ext (o2) hX22
   have hF16x22:=hF16x21.ext ((good_owS (good_oFn 174 dp))) hX22
   have hB12x22:=hB12x21.ext hX22
   have hO17_0x22:=hO17_0x21.ext (o2) hX22
   have hO19x22:=hO19x21.ext ((good_owS (good_oFn 174 dp))) hX22
   have hO21_0x22:=hO21_0.ext (o2) hX22
   refine q_not (!(decide (y = y))) rfl rfl zN (lw_nil ?_)
   cases hb23:(!(decide (y = y)))
   ·
    exact c_cond_f (by first | rfl | (show Value.bool _ = _; rw [hb23])) (wp_skip (wp_seq (wp_plain _ [0] rfl (lw_tvn 1 rfl (wp_ret (post_ret [6] rfl (.bool true) rfl ⟨z6_0,hE22⟩))))))
   ·
    exact c_cond_t (by first | rfl | (show Value.bool _ = _; rw [hb23])) (wp_seq (wp_plain _ [0] rfl (lw_tvn 1 rfl (wp_ret (t_ret (post_ret [6] rfl (.bool false) rfl ⟨z6_0,hE22⟩))))))
end Go.Proofs.YtnokbaiemimhjaaGreat
namespace Go.Proofs.YtnokbaiemimhjaaGreat
open Go Go.RowKit Go.ChangeShapes Go.WideShapes Go.Deep
set_option linter.unusedVariables false
set_option linter.unusedSimpArgs false
theorem flat_get {s:Nat}:∀ {css:List (List Value)} (k:Nat) {j:Nat},(∀ c∈css,c.length = s)→j < s→css.flatten[k * s + j]? = (css[k]?).bind fun c=>c[j]?
  | [],k,j,_,_=>by simp
  | c :: css,0,j,h,hj=>by
    have hc:=h c (List.mem_cons_self ..)
    rw [Nat.zero_mul,Nat.zero_add,List.flatten_cons,List.getElem?_append_left (by omega)]
    simp
  | c :: css,k + 1,j,h,hj=>by
    have hc:=h c (List.mem_cons_self ..)
    rw [List.flatten_cons,List.getElem?_append_right (by rw [Nat.succ_mul]; omega),show (k + 1) * s + j - c.length = k * s + j from by rw [Nat.succ_mul]; omega,
      flat_get k (fun c hc=>h c (List.mem_cons_of_mem _ hc)) hj]
    simp
theorem elsN_of {α:Type} {E:StandN α} {H:Array Obj} (U:Nat→List Value) (X:Nat→α):∀ (n:Nat),(∀ i,i < n→∃ F,E H (U i) (X i) F)→∃ F,elsN E H ((List.range n).map U) ((List.range n).map X) F
  | 0,_=>⟨[],rfl⟩
  | n + 1,h=>by
    obtain ⟨F,hF⟩:=elsN_of U X n fun i hi=>h i (by omega)
    obtain ⟨G,hG⟩:=h n (by omega)
    rw [List.range_succ,List.map_append,List.map_append]
    exact ⟨F++(G++[]),hF.append ⟨G,[],rfl,hG,rfl⟩⟩
theorem rdS_row {α:Type} {E:StandN α} {s:Nat} (hE:GoodN s E) (hs:0 < s) {W:World} {a:Addr} {n cap:Nat} (hn:n≤maxLen) (hnc:n≤cap) (U:Nat→List Value) (X:Nat→α)
    (hc:∀ i,i < n→∀ j,j < s→W.cell? (a.add (i * s + j)) = (U i)[j]?) (hX:∀ i,i < n→∃ F,E W.heap (U i) (X i) F):∃ F,rdS s E W.heap (.slice (some a) n cap) ((List.range n).map X) F:=by
  by_cases h0:n = 0
  · subst h0
    exact ⟨[],.inl ⟨some a,cap,rfl,rfl,rfl⟩⟩
  · obtain ⟨F,hF⟩:=elsN_of U X n hX
    have hlU:∀ i,i < n→(U i).length = s:=fun i hi=>by obtain ⟨G,hG⟩:=hX i hi; exact hE.len hG
    obtain ⟨g,off,spot⟩:=a
    have h1:=hc 0 (by omega) 0 hs
    rw [List.getElem?_eq_getElem (by rw [hlU 0 (by omega)]; exact hs)] at h1
    have hsp:spot = none:=by simpa [Addr.add] using World.cell?_spot h1
    subst hsp
    have hcell:∀ i,i < n→∀ j,j < s→cellH W.heap g (off + (i * s + j)) = (U i)[j]?:=fun i hi j hj=>by
      have:=hc i hi j hj
      rw [add_plain,cell_cellH] at this
      exact this
    have h2:=hcell 0 (by omega) 0 hs
    rw [List.getElem?_eq_getElem (by rw [hlU 0 (by omega)]; exact hs)] at h2
    unfold cellH at h2
    cases hg:W.heap[g]? with
    | none=>rw [hg] at h2; cases h2
    | some o =>
      cases o with
      | cells cur e fr =>
        refine ⟨g :: F,.inr ⟨(List.range n).map U,g,off,cap,cur,e,fr,F,hF,by simp,hg,?_,⟨by simpa using hn,by simpa using hnc⟩,rfl⟩⟩
        have hlen:∀ c∈(List.range n).map U,c.length = s:=fun c hc=>by
          obtain ⟨i,hi,rfl⟩:=List.mem_map.1 hc
          exact hlU i (List.mem_range.1 hi)
        have hfl:=hF.flen hE
        apply List.ext_getElem?
        intro q
        rw [List.getElem?_take,List.getElem?_drop]
        simp only [List.length_map,List.length_range] at hfl ⊢
        by_cases hq:q < n * s
        · have e1:q = q / s * s + q % s:=by rw [Nat.mul_comm,Nat.div_add_mod]
          have hj:q % s < s:=Nat.mod_lt _ hs
          have hi:q / s < n:=(Nat.div_lt_iff_lt_mul hs).2 hq
          have h3:=hcell (q / s) hi (q % s) hj
          unfold cellH at h3
          rw [hg,← e1] at h3
          have h4:=flat_get (css:=(List.range n).map U) (q / s) hlen hj
          rw [← e1] at h4
          rw [if_pos hq,h4]
          simp only [Array.getElem?_toList] at *
          rw [h3]
          simp [hi]
        · rw [if_neg hq,List.getElem?_eq_none (by omega)]
      | _=>rw [hg] at h2; cases h2
def stTy (P:Program) (t:TypeId) (l:List (Nat × TypeId)):Bool :=
  match P.underlying t with
  | some (.struct fs)=>decide (fs.toList.map (fun f=>(f.offset,f.type)) = l)
  | _=>false
section
variable {H:Type} {enc:TypeId × Value→H} {P:Program} {W:World} {base:Nat} {held:Bool} {sp:Nat→Bool}
theorem st_field {t:TypeId} {l:List (Nat × TypeId)} {fuel:Nat} {cs:List Value} {x:DataW H × List MemPlace} (ht:stTy P t l = true) (h:DataW.trod enc P W base sp held fuel t cs = some x) :
    ∃ n,fuel = n + 1∧cs.length = P.cellsOf t∧∀ (i o:Nat) (ty:TypeId),l[i]? = some (o,ty)→∃ y,DataW.trod enc P W base sp held n ty ((cs.drop o).take (P.cellsOf ty)) = some y:=by
  unfold stTy at ht
  split at ht
  · rename_i fs hfs
    have hl:=of_decide_eq_true ht
    obtain ⟨xs,n,hfu,_,hlen,hxl,hf⟩:=DataW.trod_struct hfs h
    refine ⟨n,hfu,hlen,fun i o ty hi=>?_⟩
    rw [← hl,List.getElem?_map] at hi
    obtain ⟨f,hf1,hf2⟩:=Option.map_eq_some_iff.1 hi
    have hf3:fs[i]? = some f:=by simpa using hf1
    have hil:i < xs.length:=by
      rw [hxl]
      exact (Array.getElem?_eq_some_iff.1 hf3).1
    have h2:=hf i f hf3
    injection hf2 with e1 e2
    rw [← e1,← e2,h2]
    exact ⟨xs[i],List.getElem?_eq_getElem hil⟩
  · cases ht
theorem rEx_up:∀ {d:Nat} {H:Array Obj} {cs:List Value} {x:Ex} {F:List Nat},rEx d H cs x F→rEx (d + 1) H cs x F
  | 0,_,_,_,_,h=>h.elim
  | d + 1,_,_,_,_,⟨v,h1,h2,h3⟩=>⟨v,h1,h2,h3.imp fun h=>rEx_up h⟩
theorem open_rdS {α:Type} [Inhabited α] {E:StandN α} {t e:TypeId} {s fuel:Nat} {u:Value} {x:DataW H × List MemPlace} (hE:GoodN s E) (hs:0 < s) (ht:P.underlying t = some (.slice e)) (ce:P.cellsOf e = s)
    (hel:∀ {n:Nat} {cs:List Value} {x:DataW H × List MemPlace},fuel = n + 1→DataW.trod enc P W base (fun _=>true) held n e cs = some x→∃ (y:α) (F:List Nat),E W.heap cs y F)
    (hf:DataW.trod enc P W base (fun _=>true) held fuel t [u] = some x):∃ (zs:List α) (F:List Nat),rdS s E W.heap u zs F:=by
  rcases DataW.trod_slice ht hf with ⟨hcs,_⟩ | ⟨a,len,cap,elems,rest,n,hfu,hcs,_,_,hl,hm,hlen,helm,_,_⟩
  · simp only [List.cons.injEq,and_true] at hcs
    subst hcs
    exact ⟨[],[],.inl ⟨none,0,rfl,rfl,rfl⟩⟩
  · simp only [List.cons.injEq,and_true] at hcs
    subst hcs
    have h1:∀ i,i < len→∃ c:List Value × α,(∀ j,j < s→W.cell? (a.add (i * s + j)) = c.1[j]?)∧∃ F,E W.heap c.1 c.2 F:=by
      intro i hi
      have h2:=helm i hi
      rw [List.getElem?_eq_getElem (by omega)] at h2
      obtain ⟨cs',q1,q2⟩:=Option.bind_eq_some_iff.1 h2
      obtain ⟨_,ql,qc⟩:=World.cells?_some q1
      obtain ⟨y,F,hy⟩:=hel hfu q2
      refine ⟨(cs',y),fun j hj=>?_,F,hy⟩
      have:=qc j (by rw [ce]; exact hj)
      rwa [add_add,ce] at this
    obtain ⟨C,hC⟩:=choose_lt (α:=List Value × α) (n:=len) h1
    obtain ⟨F,hF⟩:=rdS_row hE hs (W:=W) (a:=a) (n:=len) (cap:=cap) (by omega) hl (fun i=>(C i).1) (fun i=>(C i).2) (fun i hi=>(hC i hi).1) (fun i hi=>(hC i hi).2)
    exact ⟨_,F,hF⟩
instance:Inhabited Ex:=⟨Ex.zero⟩
instance:Inhabited Fn:=⟨Fn.zero⟩
theorem open_exs {tS tE ti:TypeId} (hS:P.underlying tS = some (.slice tE)) (hE:stTy P tE [(0,ti),(1,ti),(2,ti),(3,ti),(4,tS)] = true) (hi:P.underlying ti = some (.int .i64)) (cE:P.cellsOf tE = 5) (ci:P.cellsOf ti = 1) (cS:P.cellsOf tS = 1) :
    ∀ (fuel:Nat) (u:Value) (x:DataW H × List MemPlace),DataW.trod enc P W base (fun _=>true) held fuel tS [u] = some x→∃ (zs:List Ex) (F:List Nat),rdS 5 (rEx fuel) W.heap u zs F:=by
  intro fuel
  induction fuel using Nat.strongRecOn with
  | _ fuel ih =>
    intro u x hf
    refine open_rdS (good_rEx fuel) (by decide) hS cE ?_ hf
    intro n cs y hfu hy
    obtain ⟨m,hm,hlen,hfd⟩:=st_field hE hy
    have num:∀ o,o < 4→∃ z:Int,(cs.drop o).take 1 = [.int .i64 z]∧i64 z:=by
      intro o ho
      obtain ⟨y',hy'⟩:=hfd o o ti (by match o,ho with | 0,_=>rfl | 1,_=>rfl | 2,_=>rfl | 3,_=>rfl)
      rw [ci] at hy'
      obtain ⟨z,hz,_,hw⟩:=DataW.trod_int hi hy'
      exact ⟨z,hz,wf_i64 hw⟩
    obtain ⟨y4,hy4⟩:=hfd 4 4 tS rfl
    rw [cS] at hy4
    rw [cE] at hlen
    match cs,hlen with
    | [c0,c1,c2,c3,c4],_ =>
      obtain ⟨z0,e0,r0⟩:=num 0 (by decide)
      obtain ⟨z1,e1,r1⟩:=num 1 (by decide)
      obtain ⟨z2,e2,r2⟩:=num 2 (by decide)
      obtain ⟨z3,e3,r3⟩:=num 3 (by decide)
      have q0:c0 = .int .i64 z0:=by simpa using e0
      have q1:c1 = .int .i64 z1:=by simpa using e1
      have q2:c2 = .int .i64 z2:=by simpa using e2
      have q3:c3 = .int .i64 z3:=by simpa using e3
      subst q0; subst q1; subst q2; subst q3
      obtain ⟨zs,F,hz⟩:=ih m (by omega) c4 y4 hy4
      subst hm
      subst hfu
      exact ⟨.mk z0 z1 z2 z3 zs,F,rEx_up (d:=m + 1) ⟨c4,rfl,⟨r0,r1,r2,r3⟩,hz⟩⟩
theorem open_prog {t tF tN tS tE ti tz:TypeId} {d:DataW H} {ps:List MemPlace} {v:Value} {b0:Nat} {r:Reach} (hP:stTy P t [(0,tF)] = true) (hF:P.underlying tF = some (.slice tN)) (hN:stTy P tN [(0,tz),(1,ti),(2,tS)] = true)
    (hS:P.underlying tS = some (.slice tE)) (hE:stTy P tE [(0,ti),(1,ti),(2,ti),(3,ti),(4,tS)] = true) (hi:P.underlying ti = some (.int .i64)) (hz:P.underlying tz = some .string)
    (cP:P.cellsOf t = 1) (cF:P.cellsOf tF = 1) (cN:P.cellsOf tN = 3) (cE:P.cellsOf tE = 5) (ci:P.cellsOf ti = 1) (cS:P.cellsOf tS = 1) (cz:P.cellsOf tz = 1)
    (hval:Value.okWide P W r b0 t v) (hd:DataW.Trod enc P W base (fun _=>true) held t v d ps) :
    ∃ (u:Value) (dp:Nat) (p:List Fn),v = .agg #[u]∧RP [] dp W.heap u p∧∀ k,k < p.length→(p.getD k Fn.zero).name.size≤9223372036854775807:=by
  have hstr:∃ fs,P.underlying t = some (.struct fs):=by
    unfold stTy at hP
    split at hP
    · rename_i fs hfs; exact ⟨fs,hfs⟩
    · cases hP
  obtain ⟨fs,hfs⟩:=hstr
  obtain ⟨cs,rfl,hcs⟩:=okWide_struct hfs hval
  obtain ⟨fuel,hf⟩:=hd
  obtain ⟨n,hfu,hlen,hfd⟩:=st_field hP hf
  obtain ⟨y,hy⟩:=hfd 0 0 tF rfl
  rw [cF] at hy
  rw [cP] at hlen
  have hlen':cs.toList.length = 1:=hlen
  match hcl:cs.toList,hlen' with
  | [u],_ =>
    have hcu:cs = #[u]:=by apply Array.ext'; simpa using hcl
    subst hcu
    have hy':DataW.trod enc P W base (fun _=>true) held n tF [u] = some y:=hy
    obtain ⟨zs,F,hzs⟩:=open_rdS (E:=fun H cs f F=>rFn n H cs f F∧f.name.size≤9223372036854775807) (s:=3)
      ⟨fun h=>(good_rFn n).len h.1,fun h=>(good_rFn n).one h.1,fun h=>(good_rFn n).lt h.1,fun h hb=>⟨(good_rFn n).stable h.1 hb,h.2⟩⟩ (by decide) hF cN (by
        intro m cs y hm hy
        obtain ⟨q,hq,hlen,hfd⟩:=st_field hN hy
        rw [cN] at hlen
        obtain ⟨y0,h0⟩:=hfd 0 0 tz rfl
        obtain ⟨y1,h1⟩:=hfd 1 1 ti rfl
        obtain ⟨y2,h2⟩:=hfd 2 2 tS rfl
        rw [cz] at h0
        rw [ci] at h1
        rw [cS] at h2
        match cs,hlen with
        | [c0,c1,c2],_ =>
          obtain ⟨s,e0,_,hs⟩:=DataW.trod_string hz h0
          obtain ⟨z,e1,_,hw⟩:=DataW.trod_int hi h1
          have q0:c0 = .string s:=by simpa using e0
          have q1:c1 = .int .i64 z:=by simpa using e1
          subst q0; subst q1
          obtain ⟨es,F,hes⟩:=open_exs (enc:=enc) (W:=W) (base:=base) (held:=held) hS hE hi cE ci cS q c2 y2 h2
          have hup:∀ k,rdS 5 (rEx (q + k)) W.heap c2 es F:=by
            intro k
            induction k with
            | zero=>exact hes
            | succ k ih=>exact ih.imp fun h=>rEx_up h
          have hn:rdS 5 (rEx n) W.heap c2 es F:=by
            have:=hup (n - q)
            rwa [show q + (n - q) = n from by omega] at this
          exact ⟨⟨s,z,es⟩,F,⟨c2,rfl,wf_i64 hw,hn⟩,by unfold maxLen at hs; exact hs⟩) hy'
    refine ⟨u,n,zs,rfl,⟨F,hzs.imp fun h=>h.1,fun b hb hm=>by cases hm⟩,fun k hk=>?_⟩
    obtain ⟨cs,G,hg,_⟩:=rdS.get (E:=fun H cs f F=>rFn n H cs f F∧f.name.size≤9223372036854775807) (s:=3) ⟨fun h=>(good_rFn n).len h.1,fun h=>(good_rFn n).one h.1,fun h=>(good_rFn n).lt h.1,fun h hb=>⟨(good_rFn n).stable h.1 hb,h.2⟩⟩ Fn.zero hzs hk
    exact hg.2
end
end Go.Proofs.YtnokbaiemimhjaaGreat
