/- Ve, Vf, Va, Vb, Vg, Vh, Uv: texts of this claim, joined; what the claim does not come to is left out. -/
import Derived.Test.YtemfgblmfahllaaQB2
import Derived.Test.YtemfgblmfahllaaProg
set_option linter.unusedVariables false
set_option linter.unusedSimpArgs false
namespace Go.Proofs.Ytemfgblmfahllaa
open Go Go.RowKit
set_option linter.unusedVariables false
set_option linter.unusedSimpArgs false
set_option maxHeartbeats 4000000
set_option maxRecDepth 100000
attribute [local irreducible] LW
def PV (F d:Nat):Prop:=∀ (w:World) (S:List Nat) (g:Nat) (vp:Value) (dp o s0:Nat) (c0:Int) (p:List Fn) (ve:Value) (ex:Ex) (vv:Value) (env:List (List Int)) (hS:∀ b∈S,b < w.heap.size) (hgS:g∈S) (hB0:BX w.heap g [vp,.int .i64 ((o:Nat):Int),.int .i64 ((s0:Nat):Int),.int .i64 c0]) (hp:RP S dp w.heap vp p) (ho:o≤12) (hs0:s0≤3000) (hc0:0≤c0∧c0≤9) (hex:RX S d w.heap ve ex) (henv:RN S (rdL (rdL rI)) w.heap vv env) (hqenv:CapS vv)
  (hvp:VPr p) (hF:F≤p.length) (hwf:wf p ((F:Nat):Int) ex ((env.length:Nat):Int) = true) (hse:SrE (o + 1) env) (hdp:env.length + ex.deep≤1000000),
  Calls Try.prog 92 #[.pointer (some ⟨g,0,none⟩),.agg #[.int .i64 ex.kind,.int .i64 ex.num,.int .i64 ex.pick,.int .i64 ex.count,ve],vv] w (fun e w'=>∃ (v:Value) (x:List Int) (s1:Nat) (c1:Int),e = .returned v∧Chg [g] w w'∧BX w'.heap g [vp,.int .i64 ((o:Nat):Int),.int .i64 ((s1:Nat):Int),.int .i64 c1]∧RN S (rdL rI) w'.heap v x∧Ser1 (o + 1) x∧s1≤3000∧(0≤c1∧c1≤9)∧RelV (go c0 (evE (o + 1) (evC p (o + 1) F) ex env s0)) x s1 c1)
def PA (F d:Nat):Prop:=∀ (w:World) (S:List Nat) (g:Nat) (vp:Value) (dp o s0:Nat) (c0:Int) (p:List Fn) (vl:Value) (l:List Ex) (vv:Value) (env:List (List Int)) (hS:∀ b∈S,b < w.heap.size) (hgS:g∈S) (hB0:BX w.heap g [vp,.int .i64 ((o:Nat):Int),.int .i64 ((s0:Nat):Int),.int .i64 c0]) (hp:RP S dp w.heap vp p) (ho:o≤12) (hs0:s0≤3000) (hc0:0≤c0∧c0≤9) (hl:RN S (rdS 5 (rEx d)) w.heap vl l) (henv:RN S (rdL (rdL rI)) w.heap vv env) (hqenv:CapS vv)
  (hvp:VPr p) (hF:F≤p.length) (hwf:∀ k,k < l.length→wf p ((F:Nat):Int) (l.getD k Ex.zero) ((env.length:Nat):Int) = true) (hse:SrE (o + 1) env) (hdp:∀ k,k < l.length→env.length + (l.getD k Ex.zero).deep≤1000000) (hll:l.length≤1000000),
  Calls Try.prog 90 #[.pointer (some ⟨g,0,none⟩),vl,vv] w (fun e w'=>∃ (v:Value) (x:List (List Int)) (s1:Nat) (c1:Int),e = .returned v∧Chg [g] w w'∧BX w'.heap g [vp,.int .i64 ((o:Nat):Int),.int .i64 ((s1:Nat):Int),.int .i64 c1]∧RN S (rdL (rdL rI)) w'.heap v x∧(CapS v∧x.length = l.length∧SrE (o + 1) x)∧s1≤3000∧(0≤c1∧c1≤9)∧RelV (go c0 (evs (o + 1) (evC p (o + 1) F) l env s0)) x s1 c1)
theorem c_slices_Clip_____int64___int64_ (w:World) (v:Value) (n:Nat) (hs:isSl v n) (hcs:CapS v)  :
  Calls Try.prog 99 #[v] w (fun e w'=>e = .returned (clipV v)∧w' = w):=by
 refine calls_mk [v] 9 Try.func99 rfl rfl sM ?_
 have hE0:w = w:=rfl
 exact wp_seq (wp_plain _ [0] rfl (lw_tvn 1 rfl (wp_seq (wp_plain _ [0,0,0,0,0,0,0] rfl (lw_tv 2 rfl (q_len (v:=v) u37 rfl hs zN (lw_tv 1 rfl (q_len (v:=v) u37 rfl hs zN (q_clip (v:=v) u37 ti25 rfl hs rfl rfl hcs zN (lw_tvn 1 rfl (wp_ret (post_ret [2] rfl (clipV v) rfl ⟨rfl,hE0⟩))))))))))))
theorem c_impl_evaluation_constant (w:World) (S:List Nat) (g:Nat) (vp:Value) (dp o s0:Nat) (c0:Int) (p:List Fn) (n:Int) (hS:∀ b∈S,b < w.heap.size) (hgS:g∈S) (hB0:BX w.heap g [vp,.int .i64 ((o :Nat):Int),.int .i64 ((s0 :Nat):Int),.int .i64 c0]) (hp:RP S dp w.heap vp p) (ho:o≤12) (hs0:s0≤3000) (hc0:0≤c0∧c0≤9) (_hn:-9223372036854775808≤n∧n≤9223372036854775807)  :
  Calls Try.prog 98 #[.pointer (some ⟨g,0,none⟩),.int .i64 n] w (fun e w'=>∃ v0:Value,e = .returned (v0)∧Ext w w'∧Fr (owL rI 2) w.heap.size w'.heap.size w'.heap v0 (cst (o + 1) n)):=by
 refine calls_mk [.pointer (some ⟨g,0,none⟩),.int .i64 n] 16 Try.func98 rfl rfl sM ?_
 have hE0:Ext w w:=Ext.refl w
 have hl_vp:=hp.lenle
 unfold maxLen at hl_vp
 have hgl:=hB0.lt
 refine wp_seq (wp_plain _ [0] rfl (lw_tvn 1 rfl (wp_seq (wp_plain _ [0,0,0,2,0,3,0] rfl (lw_tv 1 rfl (q_nil rfl zN (q_fldP (p:=(.pointer (some ⟨g,0,none⟩))) (b:=g) (o:=0) 1 fd120_1 rfl rfl zN (q_load (p:=(padd (.pointer (some ⟨g,0,none⟩)) 1)) (.inr rfl) (.int .i64 ((o :Nat):Int)) one3 rfl (hB0.ldp (i:=1) sM) zN (q_add ((o + 1 :Nat):Int) rfl rfl (w64n oM oM) zN ?_)))))))))
 refine r_make (n:=o + 1) u25 ti2 rfl rfl rfl sD zN fun v1 w1 hX1 hz1 hO1=>?_
 have hzs1:=hX1.size
 have hE1:=hE0.trans hX1
 have hB0x1:=hB0.ext hX1
 refine lw_tvn 1 rfl (wp_seq (wp_plain _ [0,0,0,4] rfl (lw_tv 2 rfl (q_idx (v:=v1) 0 u25 ti2 rfl rfl hO1.isSl rfl sM zN (e_setI (v:=v1) (w:=w1) sz2 rfl rfl _hn hO1 sM zN fun w2 F2 hC2 hz2 hF2 hO2=>?_)))))
 have hE2:Ext w w2:=hC2.below hE1 (fun c hc=>Nat.le_trans (Nat.le_refl _) (hF2 c hc).1) hE1.size
 have hzs2:=hC2.size
 have hF3:=hB0x1.chg hC2 (fun hm=>by have:=hF2 _ hm; omega)
 exact lw_nil (wp_seq (wp_plain _ [0,0] rfl (lw_tvn 2 rfl (wp_ret (post_ret [4] rfl v1 rfl ⟨v1,rfl,hE2,hO2.up o1⟩)))))
theorem c_impl_evaluation_all (w:World) (S:List Nat) (F:Nat) (g:Nat) (vp:Value) (dp o s0:Nat) (c0:Int) (p:List Fn) (dl:Nat) (vl:Value) (l:List Ex) (vv:Value) (env:List (List Int)) (hS:∀ b∈S,b < w.heap.size) (hgS:g∈S) (hB0:BX w.heap g [vp,.int .i64 ((o :Nat):Int),.int .i64 ((s0 :Nat):Int),.int .i64 c0]) (hp:RP S dp w.heap vp p) (ho:o≤12) (hs0:s0≤3000) (hc0:0≤c0∧c0≤9) (hl:RN S (rdS 5 (rEx dl)) w.heap vl l) (henv:RN S (rdL (rdL rI)) w.heap vv env) (hqenv:CapS vv) (hvp:VPr p) (hF:F≤p.length) (hwf:∀ k,k < l.length→wf p ((F :Nat):Int) (l.getD k Ex.zero) ((env.length :Nat):Int) = true) (hse:SrE (o + 1) env) (hdp:∀ k,k < l.length→env.length + (l.getD k Ex.zero).deep≤1000000) (hll:l.length≤1000000) (IHv:∀ d',d' < dl→PV F d') :
  Calls Try.prog 90 #[.pointer (some ⟨g,0,none⟩),vl,vv] w (fun e w'=>∃ (v:Value) (x:List (List Int)) (s1:Nat) (c1:Int),e = .returned v∧Chg [g] w w'∧BX w'.heap g [vp,.int .i64 ((o :Nat):Int),.int .i64 ((s1 :Nat):Int),.int .i64 c1]∧RN S (rdL (rdL rI)) w'.heap v x∧(CapS v∧x.length = l.length∧SrE (o + 1) x)∧s1≤3000∧(0≤c1∧c1≤9)∧RelV (go c0 (evs (o + 1) (evC p (o + 1) F) l env s0)) x s1 c1):=by
 refine calls_mk [.pointer (some ⟨g,0,none⟩),vl,vv] 26 Try.func90 rfl rfl sM ?_
 have hE0:Chg [g] w w:=Chg.refl [g] w
 have hl_vp:=hp.lenle
 unfold maxLen at hl_vp
 have hl_vl:=hl.lenle
 unfold maxLen at hl_vl
 have hl_vv:=henv.lenL
 unfold maxLen at hl_vv
 have hgl:=hB0.lt
 refine wp_seq (wp_plain _ [0] rfl (lw_tvn 1 rfl (wp_seq (wp_plain _ [3,0] rfl (r_nil rV good_rV u37 ti25 zN fun v1 w1 hX1 hz1 hO1=>?_)))))
 have hzs1:=hX1.size
 have hE1:Chg [g] w w1:=hE0.ext hX1
 have hB0x1:=hB0.ext hX1
 obtain ⟨us1,F1,hb1⟩:=Bld.nil (S:=S) (hO1.low (B':=w.heap.size) (Nat.le_refl _))
 refine lw_tvn 1 rfl (wp_seq (wp_seq (wp_plain _ [0,0,0] rfl (lw_tv 1 rfl (q_len (v:=vl) u41 rfl hl.isSl zN (lw_tvn 1 rfl (wp_block ?_)))))))
 refine c_loop (S:=Nat × Value × List (List Int) × Nat × Int) (fun (⟨k,vo,xs,s9,c9⟩:Nat × Value × List (List Int) × Nat × Int)=>([(7,vo),(13,(.int .i64 ((k :Nat):Int))),(0,(.pointer (some ⟨g,0,none⟩))),(2,vv),(11,vl),(12,(.int .i64 ((l.length :Nat):Int)))]:List (Nat × Value))) (fun (⟨k,vo,xs,s9,c9⟩:Nat × Value × List (List Int) × Nat × Int) (W:World)=>Chg [g] w W∧BX W.heap g [vp,.int .i64 ((o :Nat):Int),.int .i64 ((s9 :Nat):Int),.int .i64 c9]∧k≤l.length∧BldE 25 S w.heap.size W.heap vo xs∧xs.length = k∧SrE (o + 1) xs∧s9≤3000∧(0≤c9∧c9≤9)∧RelV (go c0 (evs (o + 1) (evC p (o + 1) F) (l.take k) env s0)) xs s9 c9) (fun (⟨k,vo,xs,s9,c9⟩:Nat × Value × List (List Int) × Nat × Int)=>l.length - k) (0,v1,([]:List (List Int)),s0,c0) ⟨rfl,rfl,rfl,rfl,rfl,rfl,trivial⟩ ⟨hE1,hB0x1,sD,(by exact ⟨_,_,by assumption⟩),(by rfl),(by intro j hj; simp at hj),oM,oM,(by exact all_start _ _ _ _ _ _)⟩ ?_
 clear hE0 hO1 hz1 hX1 hzs1 hE1
 rintro ⟨k,vo,xs,s9,c9⟩ ρ2 w2 ⟨hE2,hL2_0,hp2_0,hbld,hxl,hxs,hp2_4,hp2_5,hrl⟩
 have hzs2:w.heap.size≤w2.heap.size:=hE2.size
 have hq3:=hL2_0.lt
 obtain ⟨us5,F5,hbl4⟩:=hbld
 refine wp_seq (wp_plain _ [0] rfl ?_)
 by_cases hc6:((k :Nat):Int) < ((l.length :Nat):Int)
 ·
  refine q_lss true rfl rfl (decide_eq_true hc6) zN (lw_nil (wp_seq (c_cond_t rfl (wp_skip (wp_seq (wp_block (wp_seq (wp_plain _ [0,2,3,4] rfl ?_))))))))
  have hkl:k < l.length:=by omega
  refine q_idx (v:=vl) k u41 tiS43 rfl rfl hl.isSl rfl sD zN ?_
  obtain ⟨cs7,hr7,hl7⟩:=hl.get (good_rEx dl) Ex.zero (k:=k) sD
  obtain ⟨dd7,ve7,hd7,rfl,hx7⟩:=RX.of hr7
  have hln7:=hx7.rn.lenle
  unfold maxLen at hln7
  refine q_loadA (p:=eptr vl k 5) (.inr rfl) [(.int .i64 ((l.getD k Ex.zero).kind)),(.int .i64 ((l.getD k Ex.zero).num)),(.int .i64 ((l.getD k Ex.zero).pick)),(.int .i64 ((l.getD k Ex.zero).count)),ve7] agg43 rfl (fun wq9 hw9=>hl7 wq9 ((hE2.sub (subS hgS)).ext hw9)) rfl zN ?_
  have hq9:=hL2_0.lt
  refine r_allocA (z:=.agg #[.int .i64 0,.int .i64 0,.int .i64 0,.int .i64 0,.slice none 0 0]) zr43 zN fun w8 hX8 hz8 hB8=>?_
  have hzs8:=hX8.size
  have hE8:Chg [g] w w8:=hE2.ext hX8
  have hL2_0x8:=hL2_0.ext hX8
  have hN10:=hbl4.ext hX8
  replace hB8:BX w8.heap w2.heap.size [(.int .i64 0),(.int .i64 0),(.int .i64 0),(.int .i64 0),(.slice none 0 0)]:=hB8
  refine e_setA (vs:=[(.int .i64 ((l.getD k Ex.zero).kind)),(.int .i64 ((l.getD k Ex.zero).num)),(.int .i64 ((l.getD k Ex.zero).pick)),(.int .i64 ((l.getD k Ex.zero).count)),ve7]) agg43 rfl rfl hx7.ones hB8 rfl rfl zN fun w11 hC11 hz11 hB11=>?_
  replace hB11:BX w11.heap w2.heap.size [(.int .i64 ((l.getD k Ex.zero).kind)),(.int .i64 ((l.getD k Ex.zero).num)),(.int .i64 ((l.getD k Ex.zero).pick)),(.int .i64 ((l.getD k Ex.zero).count)),ve7]:=hB11
  have hE11:Chg [g] w w11:=hE8.fresh hC11 (fun c hc=>by have:=List.mem_singleton.1 hc; omega)
  have hzs11:=hC11.size
  have hF12:=hL2_0x8.chg hC11 (fun hm=>by have:=List.mem_singleton.1 hm; omega)
  have hN13:=hbl4.ext (hC11.below hX8 (fun c hc=>by have:=List.mem_singleton.1 hc; omega) hX8.size)
  refine lw_nil (wp_plain _ [0,0,2,0,4,3,4,0] rfl (lw_tv 2 rfl (q_loadA (p:=(.pointer (some ⟨w2.heap.size,0,none⟩))) (.inr rfl) [(.int .i64 ((l.getD k Ex.zero).kind)),(.int .i64 ((l.getD k Ex.zero).num)),(.int .i64 ((l.getD k Ex.zero).pick)),(.int .i64 ((l.getD k Ex.zero).count)),ve7] agg43 rfl (fun wq9 hw9=>LD.of_box (BX.ext (w:=w11) hB11 hw9)) rfl zN (lw_tv 1 rfl ?_))))
  refine lw_callE 92 [] [] [(.pointer (some ⟨g,0,none⟩)),(.agg #[(.int .i64 ((l.getD k Ex.zero).kind)),(.int .i64 ((l.getD k Ex.zero).num)),(.int .i64 ((l.getD k Ex.zero).pick)),(.int .i64 ((l.getD k Ex.zero).count)),ve7]),vv] rfl rfl cf92 zN (IHv dd7 oM _ (S++F5) g vp dp (o) (s9) (c9) (p) ve7 (l.getD k Ex.zero) vv (env) (fun b hb=>(by rcases List.mem_append.1 hb with hb | hb; (have:=hS b hb; omega); exact hN13.lt b hb:b < w11.heap.size)) (List.mem_append_left _ hgS) hF12 ((hp.add (F:=F5) (good_rdS (good_rFn dp)) hN13.low).chg (good_rdS (good_rFn dp)) (hE11.sub (subA hgS))) oM oM oM ⟨hx7.rng,((hx7.rn.add (F:=F5) (good_rdS (good_rEx dd7)) hN13.low).chg (good_rdS (good_rEx dd7)) (hE11.sub (subA hgS)))⟩ ((henv.add (F:=F5) g2 hN13.low).chg g2 (hE11.sub (subA hgS))) hqenv (by exact hvp) oM (by exact hwf k hkl) (by exact hse) (by exact hdp k hkl)) ?_
  rintro e14 w14 ⟨v14,x14,s14,c14,rfl,hC14,hB14,hr14,hse14,hsb14,hcb14,hrl14⟩
  refine ⟨_,rfl,?_⟩
  have hzs14:=hC14.size
  have hE14:Chg [g] w w14:=hE11.trans hC14
  have hF19:=hB11.chg hC14 (fun hm=>by have:=List.mem_singleton.1 hm; omega)
  have hF20:=hN13.run hgS oM hC14
  have hsn14:=hse14.1
  replace hr14:RN (S++F5) (rdL rI) w14.heap v14 x14:=hr14
  refine r_one (u:=v14) (B:=w14.heap.size) good_rV u37 ti25 rfl rfl (frV w14.heap.size w14.heap.size _ (hr14.one1 g1)) (Nat.le_refl _) zN fun v21 w21 hX21 hz21 hO21=>?_
  have hzs21:=hX21.size
  have hE21:Chg [g] w w21:=hE14.ext hX21
  have hB14x21:=hB14.ext hX21
  have hF19x21:=hF19.ext hX21
  have hN22:=hF20.ext hX21
  have hN23:=hr14.ext g1 hX21
  refine e_appB (v:=vo) (a:=v21) (u:=v14) u37 ti25 rfl rfl rfl hN22 oM hO21 hN23 sD (by unfold maxLen; first | omega | assumption | (simp; done) | (simp; omega)) zN ?_
  rintro v24 w24 G24 hC24 hF24 ⟨us24,F24,hb24⟩
  have hzs24:=hC24.size
  have hE24:Chg [g] w w24:=hE21.fresh hC24 (fun c hc=>hN22.low c (hF24 c hc))
  have hF25:=hB14x21.chg hC24 (fun hm=>by have:=hN22.low _ (hF24 _ hm); have:=hN22.lt _ (hF24 _ hm); omega)
  refine lw_tvn 1 rfl (wp_plain _ [0,0] rfl (q_add ((k + 1 :Nat):Int) rfl rfl (w64n oM sD) zN (lw_tvn 1 rfl ?_)))
  exact ⟨((k + 1),v24,(xs++[x14]),s14,c14),_,rfl,⟨rfl,rfl,rfl,rfl,rfl,rfl,trivial⟩,⟨hE24,hF25,sD,(by exact ⟨_,_,by assumption⟩),(by rw [List.length_append,List.length_singleton,hxl]),(by exact SrE.snoc hxs (by assumption)),oM,oM,(by exact rel_snoc oM hrl (by assumption))⟩,by first | omega | (dsimp only; omega)⟩
 ·
  exact q_lss false rfl rfl (decide_eq_false hc6) zN (lw_nil (wp_seq (c_cond_f rfl (wp_exit (t_exit (t_exit (c_exit_here (wp_seq (wp_plain _ [0,0] rfl (lw_tvn 2 rfl (wp_ret (post_ret [6] rfl vo rfl ⟨vo,xs,s9,c9,rfl,hE2,hL2_0,(hbl4.done hS),(by exact ⟨hbl4.cap,by omega,hxs⟩),oM,oM,(by rw [List.take_of_length_le oM] at hrl; exact hrl)⟩))))))))))))
theorem c_all (F d:Nat) (IH:∀ d',d' < d→PV F d'):PA F d:=by
 intro w S g vp dp o s0 c0 p vl l vv env hS hgS hB0 hp ho hs0 hc0 hl henv hqenv hvp hF hwf hse hdp hll
 exact c_impl_evaluation_all w S F g vp dp o s0 c0 p d vl l vv env hS hgS hB0 hp ho hs0 hc0 hl henv hqenv hvp hF hwf hse hdp hll IH
theorem z92_0 {p:Prop} (h:p:=by first | exact rel_code oM | exact rel_budget oM oM | exact rel_num hc00 hs1 oM | exact rel_var hc00 hs1 oM | exact rel_if0 hc00 hs1 oM oM ‹RelV (go c0 (evE _ _ (ex.kids.getD 0 _) _ _)) _ _ _› oM (by assumption) | exact rel_if1 hc00 hs1 oM oM ‹RelV (go c0 (evE _ _ (ex.kids.getD 0 _) _ _)) _ _ _› oM (by assumption) | exact rel_let hc00 hs1 oM oM ‹RelV (go c0 (evE _ _ (ex.kids.getD 0 _) _ _)) _ _ _› (by assumption) | exact rel_kidsE hc00 hs1 hkg.1 hkg.2.1 hkg.2.2.1 hkg.2.2.2 hKr oM | exact rel_call hc00 hs1 oM oM hKr oM (by assumption) | exact rel_loop hc00 hs1 oM oM hKr oM (rel_stop hrl9 oM oM) | exact rel_op hc00 hs1 hkg.1 hkg.2.1 hkg.2.2.1 hkg.2.2.2 oM oM hKr oM (by rw [show c66 = 0 from by omega]; exact op_add oM) | exact rel_op hc00 hs1 hkg.1 hkg.2.1 hkg.2.2.1 hkg.2.2.2 oM oM hKr oM (by rw [show c66 = 0 from by omega]; exact op_sub oM) | exact rel_op hc00 hs1 hkg.1 hkg.2.1 hkg.2.2.1 hkg.2.2.2 oM oM hKr oM (by rw [show c66 = 0 from by omega]; exact op_mul oM) | exact rel_op hc00 hs1 hkg.1 hkg.2.1 hkg.2.2.1 hkg.2.2.2 oM oM hKr oM (by rw [show c66 = 0 from by omega]; exact op_neg oM) | exact rel_op hc00 hs1 hkg.1 hkg.2.1 hkg.2.2.1 hkg.2.2.2 oM oM hKr oM (by rw [show c66 = 0 from by omega]; exact op_div oM oM) | exact rel_op hc00 hs1 hkg.1 hkg.2.1 hkg.2.2.1 hkg.2.2.2 oM oM hKr oM (op_div0 oM oM)):p:=h
theorem z92_1 {p:Prop} (h:p:=by first | exact rel_code oM | exact rel_budget oM oM | exact rel_num hc00 hs1 oM | exact rel_var hc00 hs1 oM | exact rel_if0 hc00 hs1 oM oM ‹RelV (go c0 (evE _ _ (ex.kids.getD 0 _) _ _)) _ _ _› oM (by assumption) | exact rel_if1 hc00 hs1 oM oM ‹RelV (go c0 (evE _ _ (ex.kids.getD 0 _) _ _)) _ _ _› oM (by assumption) | exact rel_let hc00 hs1 oM oM ‹RelV (go c0 (evE _ _ (ex.kids.getD 0 _) _ _)) _ _ _› (by assumption) | exact rel_kidsE hc00 hs1 hkg.1 hkg.2.1 hkg.2.2.1 hkg.2.2.2 hKr oM | exact rel_call hc00 hs1 oM oM hKr oM (by assumption) | exact rel_loop hc00 hs1 oM oM hKr oM (rel_stop hrl9 oM oM) | exact rel_op hc00 hs1 hkg.1 hkg.2.1 hkg.2.2.1 hkg.2.2.2 oM oM hKr oM (by rw [show c0 = 0 from by omega]; exact op_add oM) | exact rel_op hc00 hs1 hkg.1 hkg.2.1 hkg.2.2.1 hkg.2.2.2 oM oM hKr oM (by rw [show c0 = 0 from by omega]; exact op_sub oM) | exact rel_op hc00 hs1 hkg.1 hkg.2.1 hkg.2.2.1 hkg.2.2.2 oM oM hKr oM (by rw [show c0 = 0 from by omega]; exact op_mul oM) | exact rel_op hc00 hs1 hkg.1 hkg.2.1 hkg.2.2.1 hkg.2.2.2 oM oM hKr oM (by rw [show c0 = 0 from by omega]; exact op_neg oM) | exact rel_op hc00 hs1 hkg.1 hkg.2.1 hkg.2.2.1 hkg.2.2.2 oM oM hKr oM (by rw [show c0 = 0 from by omega]; exact op_div oM oM) | exact rel_op hc00 hs1 hkg.1 hkg.2.1 hkg.2.2.1 hkg.2.2.2 oM oM hKr oM (op_div0 oM oM)):p:=h
theorem z92_2 {p:Prop} (h:p:=by first | exact rel_code oM | exact rel_budget oM oM | exact rel_num hc00 hs1 oM | exact rel_var hc00 hs1 oM | exact rel_if0 hc00 hs1 oM oM ‹RelV (go c0 (evE _ _ (ex.kids.getD 0 _) _ _)) _ _ _› oM (by assumption) | exact rel_if1 hc00 hs1 oM oM ‹RelV (go c0 (evE _ _ (ex.kids.getD 0 _) _ _)) _ _ _› oM (by assumption) | exact rel_let hc00 hs1 oM oM ‹RelV (go c0 (evE _ _ (ex.kids.getD 0 _) _ _)) _ _ _› (by assumption) | exact rel_kidsE hc00 hs1 hkg.1 hkg.2.1 hkg.2.2.1 hkg.2.2.2 hKr oM | exact rel_call hc00 hs1 oM oM hKr oM (by assumption) | exact rel_loop hc00 hs1 oM oM hKr oM (rel_stop hrl9 oM oM) | exact rel_op hc00 hs1 hkg.1 hkg.2.1 hkg.2.2.1 hkg.2.2.2 oM oM hKr oM (by rw [show c9 = 0 from by omega]; exact op_add oM) | exact rel_op hc00 hs1 hkg.1 hkg.2.1 hkg.2.2.1 hkg.2.2.2 oM oM hKr oM (by rw [show c9 = 0 from by omega]; exact op_sub oM) | exact rel_op hc00 hs1 hkg.1 hkg.2.1 hkg.2.2.1 hkg.2.2.2 oM oM hKr oM (by rw [show c9 = 0 from by omega]; exact op_mul oM) | exact rel_op hc00 hs1 hkg.1 hkg.2.1 hkg.2.2.1 hkg.2.2.2 oM oM hKr oM (by rw [show c9 = 0 from by omega]; exact op_neg oM) | exact rel_op hc00 hs1 hkg.1 hkg.2.1 hkg.2.2.1 hkg.2.2.2 oM oM hKr oM (by rw [show c9 = 0 from by omega]; exact op_div oM oM) | exact rel_op hc00 hs1 hkg.1 hkg.2.1 hkg.2.2.1 hkg.2.2.2 oM oM hKr oM (op_div0 oM oM)):p:=h
theorem z92_3 {p:Prop} (h:p:=by first | assumption | exact cst_ser (by decide) | exact cst_ser (isN_iff.2 oM) | exact hse _ oM | exact hks _ oM | exact addS_ser hK0 | exact redS_ser hK0 | exact proS_ser hK0 | exact sclS_ser hK0 | exact quoS_ser hK0):p:=h
theorem z92_4 {p:Prop} (h:p:=by have:=hK0.1; have:=hK1.1; omega):p:=h
theorem z92_5 {p:Prop} (h:p:=by have:=hK0.1; omega):p:=h
theorem c_impl_evaluation_value (w:World) (S:List Nat) (F:Nat) (g:Nat) (vp:Value) (dp o s0:Nat) (c0:Int) (p:List Fn) (dex:Nat) (ve:Value) (ex:Ex) (vv:Value) (env:List (List Int)) (hS:∀ b∈S,b < w.heap.size) (hgS:g∈S) (hB0:BX w.heap g [vp,.int .i64 ((o :Nat):Int),.int .i64 ((s0 :Nat):Int),.int .i64 c0]) (hp:RP S dp w.heap vp p) (ho:o≤12) (hs0:s0≤3000) (hc0:0≤c0∧c0≤9) (hex:RX S dex w.heap ve ex) (henv:RN S (rdL (rdL rI)) w.heap vv env) (hqenv:CapS vv) (hvp:VPr p) (hF:F≤p.length) (hwf:wf p ((F :Nat):Int) ex ((env.length :Nat):Int) = true) (hse:SrE (o + 1) env) (hdp:env.length + ex.deep≤1000000) (IH1:∀ F',F' < F→∀ d,PV F' d) (IH2:∀ d',d' < dex→PV F d') :
  Calls Try.prog 92 #[.pointer (some ⟨g,0,none⟩),(.agg #[(.int .i64 ex.kind),(.int .i64 ex.num),(.int .i64 ex.pick),(.int .i64 ex.count),ve]),vv] w (fun e w'=>∃ (v:Value) (x:List Int) (s1:Nat) (c1:Int),e = .returned v∧Chg [g] w w'∧BX w'.heap g [vp,.int .i64 ((o :Nat):Int),.int .i64 ((s1 :Nat):Int),.int .i64 c1]∧RN S (rdL rI) w'.heap v x∧Ser1 (o + 1) x∧s1≤3000∧(0≤c1∧c1≤9)∧RelV (go c0 (evE (o + 1) (evC p (o + 1) F) ex env s0)) x s1 c1):=by
 refine calls_mk [.pointer (some ⟨g,0,none⟩),(.agg #[(.int .i64 ex.kind),(.int .i64 ex.num),(.int .i64 ex.pick),(.int .i64 ex.count),ve]),vv] 210 Try.func92 rfl rfl sM ?_
 have hE0:Chg [g] w w:=Chg.refl [g] w
 have hl_vp:=hp.lenle
 unfold maxLen at hl_vp
 have hl_ve:=hex.rn.lenle
 unfold maxLen at hl_ve
 have hl_vv:=henv.lenL
 unfold maxLen at hl_vv
 have hgl:=hB0.lt
 have hdk:=deep_kids ex
 refine wp_seq (wp_plain _ [3,0] rfl ?_)
 have hq2:=hB0.lt
 refine r_boxA (cs:=#[(.int .i64 ex.kind),(.int .i64 ex.num),(.int .i64 ex.pick),(.int .i64 ex.count),ve]) rfl zN fun w1 hX1 hz1 hB1=>?_
 have hzs1:=hX1.size
 have hE1:Chg [g] w w1:=hE0.ext hX1
 have hB0x1:=hB0.ext hX1
 replace hB1:BX w1.heap w.heap.size [(.int .i64 ex.kind),(.int .i64 ex.num),(.int .i64 ex.pick),(.int .i64 ex.count),ve]:=hB1
 refine lw_tvn 1 rfl (wp_seq (wp_seq (wp_plain _ [0,0,0,2,0] rfl (lw_tv 1 rfl (q_nil rfl zN (q_fldP (p:=(.pointer (some ⟨g,0,none⟩))) (b:=g) (o:=0) 3 fd120_3 rfl rfl zN (q_load (p:=(padd (.pointer (some ⟨g,0,none⟩)) 3)) (.inr rfl) (.int .i64 c0) one2 rfl (hB0x1.ldp (i:=3) sM) zN ?_)))))))
 by_cases hc3:c0≠((0 :Nat):Int)
 ·
  refine q_neq true rfl rfl (decide_eq_true hc3) zN (lw_nil (c_cond_t rfl (wp_seq (wp_plain _ [0,3,0] rfl (lw_tv 1 rfl (lw_call 98 [] [] [(.pointer (some ⟨g,0,none⟩)),(.int .i64 ((0 :Nat):Int))] rfl rfl cf98 zN (c_impl_evaluation_constant _ S g vp dp (o) (s0) (c0) (p) _ (fun b hb=>(by have:=hS b hb; omega:b < w1.heap.size)) hgS hB0x1 (hp.chg (good_rdS (good_rFn dp)) (hE1.sub (subS hgS))) oM oM oM oM) ?_))))))
  rintro e4 w4 ⟨v4_0,rfl,hX4,hO4_0⟩
  refine ⟨_,rfl,hX4,?_⟩
  have hzs4:=hX4.size
  have hE4:Chg [g] w w4:=hE1.ext hX4
  have hB0x4:=hB0x1.ext hX4
  have hB1x4:=hB1.ext hX4
  refine lw_tvn 1 rfl (wp_ret (t_ret ?_))
  exact post_ret [6] rfl v4_0 rfl ⟨v4_0,cst (o + 1) ((0 :Nat):Int),s0,c0,rfl,hE4,hB0x4,(RN.of_fr1 hO4_0 (fun b hb=>by have:=hS b hb; omega)),z92_3,oM,oM,z92_1⟩
 ·
  refine q_neq false rfl rfl (decide_eq_false hc3) zN (lw_nil (c_cond_f rfl (wp_skip (wp_seq (wp_seq (wp_plain _ [0,0,0,2,0] rfl (lw_tv 1 rfl (q_nil rfl zN (q_fldP (p:=(.pointer (some ⟨g,0,none⟩))) (b:=g) (o:=0) 2 fd120_2 rfl rfl zN (q_load (p:=(padd (.pointer (some ⟨g,0,none⟩)) 2)) (.inr rfl) (.int .i64 ((s0 :Nat):Int)) one2 rfl (hB0x1.ldp (i:=2) sM) zN ?_))))))))))
  by_cases hc5:((s0 :Nat):Int) = ((3000 :Nat):Int)
  ·
   refine q_eql true rfl rfl (decide_eq_true hc5) zN (lw_nil (c_cond_t rfl (wp_seq (wp_plain _ [0,0,0,4] rfl (lw_tv 1 rfl (q_nil rfl zN (q_fldP (p:=(.pointer (some ⟨g,0,none⟩))) (b:=g) (o:=0) 3 fd120_3 rfl rfl zN (e_setB (k:=3) (w:=w1) sz2 rfl rfl ⟨rfl,rfl⟩ hB0x1 sM zN fun w6 hC6 hz6 hB6=>?_))))))))
   replace hB6:BX w6.heap g [vp,(.int .i64 ((o :Nat):Int)),(.int .i64 ((s0 :Nat):Int)),(.int .i64 ((7 :Nat):Int))]:=hB6
   have hE6:Chg [g] w w6:=hE1.trans hC6
   have hzs6:=hC6.size
   have hF7:=hB1.chg hC6 (fun hm=>by have:=List.mem_singleton.1 hm; omega)
   refine lw_nil (wp_seq (wp_plain _ [0,3,0] rfl (lw_tv 1 rfl (lw_call 98 [] [] [(.pointer (some ⟨g,0,none⟩)),(.int .i64 ((0 :Nat):Int))] rfl rfl cf98 zN (c_impl_evaluation_constant _ S g vp dp (o) (s0) (((7 :Nat):Int)) (p) _ (fun b hb=>(by have:=hS b hb; omega:b < w6.heap.size)) hgS hB6 (hp.chg (good_rdS (good_rFn dp)) (hE6.sub (subS hgS))) oM oM oM oM) ?_))))
   rintro e8 w8 ⟨v8_0,rfl,hX8,hO8_0⟩
   refine ⟨_,rfl,hX8,?_⟩
   have hzs8:=hX8.size
   have hE8:Chg [g] w w8:=hE6.ext hX8
   have hB6x8:=hB6.ext hX8
   have hF7x8:=hF7.ext hX8
   refine lw_tvn 1 rfl (wp_ret (t_ret ?_))
   exact post_ret [6] rfl v8_0 rfl ⟨v8_0,cst (o + 1) ((0 :Nat):Int),s0,((7 :Nat):Int),rfl,hE8,hB6x8,(RN.of_fr1 hO8_0 (fun b hb=>by have:=hS b hb; omega)),z92_3,oM,oM,(by first | exact rel_code oM | exact rel_budget oM oM | exact rel_num hc00 hs1 oM | exact rel_var hc00 hs1 oM | exact rel_if0 hc00 hs1 oM oM ‹RelV (go c0 (evE _ _ (ex.kids.getD 0 _) _ _)) _ _ _› oM (by assumption) | exact rel_if1 hc00 hs1 oM oM ‹RelV (go c0 (evE _ _ (ex.kids.getD 0 _) _ _)) _ _ _› oM (by assumption) | exact rel_let hc00 hs1 oM oM ‹RelV (go c0 (evE _ _ (ex.kids.getD 0 _) _ _)) _ _ _› (by assumption) | exact rel_kidsE hc00 hs1 hkg.1 hkg.2.1 hkg.2.2.1 hkg.2.2.2 hKr oM | exact rel_call hc00 hs1 oM oM hKr oM (by assumption) | exact rel_loop hc00 hs1 oM oM hKr oM (rel_stop hrl9 oM oM) | exact rel_op hc00 hs1 hkg.1 hkg.2.1 hkg.2.2.1 hkg.2.2.2 oM oM hKr oM (by rw [show ((7 :Nat):Int) = 0 from by omega]; exact op_add oM) | exact rel_op hc00 hs1 hkg.1 hkg.2.1 hkg.2.2.1 hkg.2.2.2 oM oM hKr oM (by rw [show ((7 :Nat):Int) = 0 from by omega]; exact op_sub oM) | exact rel_op hc00 hs1 hkg.1 hkg.2.1 hkg.2.2.1 hkg.2.2.2 oM oM hKr oM (by rw [show ((7 :Nat):Int) = 0 from by omega]; exact op_mul oM) | exact rel_op hc00 hs1 hkg.1 hkg.2.1 hkg.2.2.1 hkg.2.2.2 oM oM hKr oM (by rw [show ((7 :Nat):Int) = 0 from by omega]; exact op_neg oM) | exact rel_op hc00 hs1 hkg.1 hkg.2.1 hkg.2.2.1 hkg.2.2.2 oM oM hKr oM (by rw [show ((7 :Nat):Int) = 0 from by omega]; exact op_div oM oM) | exact rel_op hc00 hs1 hkg.1 hkg.2.1 hkg.2.2.1 hkg.2.2.2 oM oM hKr oM (op_div0 oM oM))⟩
  ·
   refine q_eql false rfl rfl (decide_eq_false hc5) zN (lw_nil (c_cond_f rfl (wp_skip (wp_seq (wp_plain _ [0,0,0,2,0,0,0,4] rfl (lw_tv 1 rfl (q_nil rfl zN (q_fldP (p:=(.pointer (some ⟨g,0,none⟩))) (b:=g) (o:=0) 2 fd120_2 rfl rfl zN (q_load (p:=(padd (.pointer (some ⟨g,0,none⟩)) 2)) (.inr rfl) (.int .i64 ((s0 :Nat):Int)) one2 rfl (hB0x1.ldp (i:=2) sM) zN (q_add ((s0 + 1 :Nat):Int) rfl rfl (w64n oM oM) zN (q_nil rfl zN (q_fldP (p:=(.pointer (some ⟨g,0,none⟩))) (b:=g) (o:=0) 2 fd120_2 rfl rfl zN (e_setB (k:=2) (w:=w1) sz2 rfl rfl ⟨rfl,rfl⟩ hB0x1 sM zN fun w9 hC9 hz9 hB9=>?_)))))))))))))
   replace hB9:BX w9.heap g [vp,(.int .i64 ((o :Nat):Int)),(.int .i64 ((s0 + 1 :Nat):Int)),(.int .i64 c0)]:=hB9
   have hE9:Chg [g] w w9:=hE1.trans hC9
   have hzs9:=hC9.size
   have hF10:=hB1.chg hC9 (fun hm=>by have:=List.mem_singleton.1 hm; omega)
   refine lw_nil (wp_seq (wp_seq (wp_plain _ [0,2] rfl ?_)))
   have hc00:c0 = 0:=by omega
   have hs1:s0 + 1≤3000:=by omega
   refine q_fldP (p:=(.pointer (some ⟨w.heap.size,0,none⟩))) (b:=w.heap.size) (o:=0) 0 fd43_0 rfl rfl zN (q_load (p:=(padd (.pointer (some ⟨w.heap.size,0,none⟩)) 0)) (.inr rfl) (.int .i64 ex.kind) one2 rfl (hF10.ldp (i:=0) sM) zN (lw_nil (wp_block (wp_seq (wp_plain _ [0,0] rfl ?_)))))
   by_cases hc11:ex.kind = ((1 :Nat):Int)
   ·
    refine q_eql true rfl rfl (decide_eq_true hc11) zN (lw_tvn 1 rfl (c_cond_t rfl (wp_seq (wp_plain _ [0,0,2,3,0] rfl ?_))))
    have hwk:=wk_num hwf oM
    refine lw_tv 1 rfl (q_fldP (p:=(.pointer (some ⟨w.heap.size,0,none⟩))) (b:=w.heap.size) (o:=0) 1 fd43_1 rfl rfl zN (q_load (p:=(padd (.pointer (some ⟨w.heap.size,0,none⟩)) 1)) (.inr rfl) (.int .i64 ex.num) one2 rfl (hF10.ldp (i:=1) sM) zN (lw_call 98 [] [] [(.pointer (some ⟨g,0,none⟩)),(.int .i64 ex.num)] rfl rfl cf98 zN (c_impl_evaluation_constant _ S g vp dp (o) (s0 + 1) (c0) (p) _ (fun b hb=>(by have:=hS b hb; omega:b < w9.heap.size)) hgS hB9 (hp.chg (good_rdS (good_rFn dp)) (hE9.sub (subS hgS))) oM oM oM hex.rng.num) ?_)))
    rintro e12 w12 ⟨v12_0,rfl,hX12,hO12_0⟩
    refine ⟨_,rfl,hX12,?_⟩
    have hzs12:=hX12.size
    have hE12:Chg [g] w w12:=hE9.ext hX12
    have hB9x12:=hB9.ext hX12
    have hF10x12:=hF10.ext hX12
    refine lw_tvn 1 rfl (wp_ret (b_ret (t_ret ?_)))
    exact post_ret [6] rfl v12_0 rfl ⟨v12_0,cst (o + 1) ex.num,s0 + 1,c0,rfl,hE12,hB9x12,(RN.of_fr1 hO12_0 (fun b hb=>by have:=hS b hb; omega)),z92_3,oM,oM,z92_1⟩
   ·
    refine q_eql false rfl rfl (decide_eq_false hc11) zN (lw_tvn 1 rfl (c_cond_f rfl (wp_seq (wp_plain _ [0,0] rfl ?_))))
    by_cases hc13:ex.kind = ((2 :Nat):Int)
    ·
     refine q_eql true rfl rfl (decide_eq_true hc13) zN (lw_tvn 1 rfl (c_cond_t rfl (wp_seq (wp_plain _ [0,0,2,0,2,0] rfl ?_))))
     have hwk:=wk_var hwf oM
     refine lw_tv 1 rfl (q_fldP (p:=(.pointer (some ⟨w.heap.size,0,none⟩))) (b:=w.heap.size) (o:=0) 1 fd43_1 rfl rfl zN (q_load (p:=(padd (.pointer (some ⟨w.heap.size,0,none⟩)) 1)) (.inr rfl) (.int .i64 ex.num) one2 rfl (hF10.ldp (i:=1) sM) zN (q_idx (v:=vv) ((ex.num).toNat) u37 ti25 rfl rfl henv.slL oM sD zN ?_)))
     obtain ⟨ue14,hl14,hr14⟩:=RN.getL (w:=w) g1 [] (k:=(ex.num).toNat) henv sD
     have hln14:=hr14.lenL
     unfold maxLen at hln14
     refine q_load (p:=eptr vv ((ex.num).toNat) 1) (.inr rfl) ue14 one25 rfl (hl14 _ (hE9.sub (subS hgS))) zN (lw_tvn 1 rfl (wp_ret (b_ret (t_ret ?_))))
     exact post_ret [6] rfl ue14 rfl ⟨ue14,env.getD ((ex.num).toNat) [],s0 + 1,c0,rfl,hE9,hB9,(hr14.chg g1 (hE9.sub (subS hgS))),z92_3,oM,oM,z92_1⟩
    ·
     refine q_eql false rfl rfl (decide_eq_false hc13) zN (lw_tvn 1 rfl (c_cond_f rfl (wp_seq (wp_plain _ [0,0] rfl ?_))))
     by_cases hc15:ex.kind = ((8 :Nat):Int)
     ·
      refine q_eql true rfl rfl (decide_eq_true hc15) zN (lw_tvn 1 rfl (c_cond_t rfl (wp_seq (wp_seq (wp_plain _ [0,0,2,0,2,0,4,0,2,0] rfl ?_)))))
      have hwk:=wk_if hwf oM
      refine lw_tv 1 rfl (q_fldP (p:=(.pointer (some ⟨w.heap.size,0,none⟩))) (b:=w.heap.size) (o:=0) 4 fd43_4 rfl rfl zN (q_load (p:=(padd (.pointer (some ⟨w.heap.size,0,none⟩)) 4)) (.inr rfl) ve one41 rfl (hF10.ldp (i:=4) sM) zN (q_idx (v:=ve) 0 u41 tiS43 rfl rfl hex.rn.isSl rfl sD zN ?_)))
      obtain ⟨cs16,hr16,hl16⟩:=hex.rn.get (good_rEx dex) Ex.zero (k:=0) sD
      obtain ⟨dd16,ve16,hd16,rfl,hx16⟩:=RX.of hr16
      have hln16:=hx16.rn.lenle
      unfold maxLen at hln16
      refine q_loadA (p:=eptr ve 0 5) (.inr rfl) [(.int .i64 ((ex.kids.getD 0 Ex.zero).kind)),(.int .i64 ((ex.kids.getD 0 Ex.zero).num)),(.int .i64 ((ex.kids.getD 0 Ex.zero).pick)),(.int .i64 ((ex.kids.getD 0 Ex.zero).count)),ve16] agg43 rfl (fun wq9 hw9=>hl16 wq9 ((hE9.sub (subS hgS)).ext hw9)) rfl zN (lw_tv 1 rfl ?_)
      refine lw_callE 92 [] [] [(.pointer (some ⟨g,0,none⟩)),(.agg #[(.int .i64 ((ex.kids.getD 0 Ex.zero).kind)),(.int .i64 ((ex.kids.getD 0 Ex.zero).num)),(.int .i64 ((ex.kids.getD 0 Ex.zero).pick)),(.int .i64 ((ex.kids.getD 0 Ex.zero).count)),ve16]),vv] rfl rfl cf92 zN (IH2 dd16 oM _ S g vp dp (o) (s0 + 1) (c0) (p) ve16 (ex.kids.getD 0 Ex.zero) vv (env) (fun b hb=>(by have:=hS b hb; omega:b < w9.heap.size)) hgS hB9 (hp.chg (good_rdS (good_rFn dp)) (hE9.sub (subS hgS))) oM oM oM ⟨hx16.rng,(hx16.rn.chg (good_rdS (good_rEx dd16)) (hE9.sub (subS hgS)))⟩ (henv.chg g2 (hE9.sub (subS hgS))) hqenv (by exact hvp) oM (by exact wf_at0 hwf oM oM) (by exact hse) (by have:=kd_at (l:=ex.kids) (k:=0) oM; omega)) ?_
      rintro e17 w17 ⟨v17,x17,s17,c17,rfl,hC17,hB17,hr17,hse17,hsb17,hcb17,hrl17⟩
      refine ⟨_,rfl,?_⟩
      have hzs17:=hC17.size
      have hE17:Chg [g] w w17:=hE9.trans hC17
      have hF21:=hF10.chg hC17 (fun hm=>by have:=List.mem_singleton.1 hm; omega)
      have hsn17:=hse17.1
      refine q_idx (v:=v17) 0 u25 ti2 rfl rfl hr17.slL rfl sD zN ?_
      have hg23:=RN.getI (w:=w17) (k:=0) hr17 sD
      refine q_load (p:=eptr v17 0 1) (.inr rfl) (.int .i64 (x17.getD 0 0)) one2 rfl (hg23.1 _ (Chg.refl _ _)) zN ?_
      by_cases hc24:x17.getD 0 0 = ((0 :Nat):Int)
      ·
       refine q_eql true rfl rfl (decide_eq_true hc24) zN (lw_nil (c_cond_t rfl (wp_seq (wp_plain _ [0,0,2,0,2,0,4,0] rfl (lw_tv 1 rfl (q_fldP (p:=(.pointer (some ⟨w.heap.size,0,none⟩))) (b:=w.heap.size) (o:=0) 4 fd43_4 rfl rfl zN (q_load (p:=(padd (.pointer (some ⟨w.heap.size,0,none⟩)) 4)) (.inr rfl) ve one41 rfl (hF21.ldp (i:=4) sM) zN (q_idx (v:=ve) 1 u41 tiS43 rfl rfl hex.rn.isSl rfl sD zN ?_))))))))
       obtain ⟨cs25,hr25,hl25⟩:=hex.rn.get (good_rEx dex) Ex.zero (k:=1) sD
       obtain ⟨dd25,ve25,hd25,rfl,hx25⟩:=RX.of hr25
       have hln25:=hx25.rn.lenle
       unfold maxLen at hln25
       refine q_loadA (p:=eptr ve 1 5) (.inr rfl) [(.int .i64 ((ex.kids.getD 1 Ex.zero).kind)),(.int .i64 ((ex.kids.getD 1 Ex.zero).num)),(.int .i64 ((ex.kids.getD 1 Ex.zero).pick)),(.int .i64 ((ex.kids.getD 1 Ex.zero).count)),ve25] agg43 rfl (fun wq9 hw9=>hl25 wq9 ((hE17.sub (subS hgS)).ext hw9)) rfl zN (lw_tv 1 rfl ?_)
       refine lw_callE 92 [] [] [(.pointer (some ⟨g,0,none⟩)),(.agg #[(.int .i64 ((ex.kids.getD 1 Ex.zero).kind)),(.int .i64 ((ex.kids.getD 1 Ex.zero).num)),(.int .i64 ((ex.kids.getD 1 Ex.zero).pick)),(.int .i64 ((ex.kids.getD 1 Ex.zero).count)),ve25]),vv] rfl rfl cf92 zN (IH2 dd25 oM _ S g vp dp (o) (s17) (c17) (p) ve25 (ex.kids.getD 1 Ex.zero) vv (env) (fun b hb=>(by have:=hS b hb; omega:b < w17.heap.size)) hgS hB17 (hp.chg (good_rdS (good_rFn dp)) (hE17.sub (subS hgS))) oM oM oM ⟨hx25.rng,(hx25.rn.chg (good_rdS (good_rEx dd25)) (hE17.sub (subS hgS)))⟩ (henv.chg g2 (hE17.sub (subS hgS))) hqenv (by exact hvp) oM (by exact wf_at0 hwf oM oM) (by exact hse) (by have:=kd_at (l:=ex.kids) (k:=1) oM; omega)) ?_
       rintro e26 w26 ⟨v26,x26,s26,c26,rfl,hC26,hB26,hr26,hse26,hsb26,hcb26,hrl26⟩
       refine ⟨_,rfl,?_⟩
       have hzs26:=hC26.size
       have hE26:Chg [g] w w26:=hE17.trans hC26
       have hF30:=hF21.chg hC26 (fun hm=>by have:=List.mem_singleton.1 hm; omega)
       have hF32:=hr17.run g1 hgS hC26
       have hsn26:=hse26.1
       refine lw_tvn 1 rfl (wp_ret (t_ret (b_ret (t_ret ?_))))
       exact post_ret [6] rfl v26 rfl ⟨v26,x26,s26,c26,rfl,hE26,hB26,hr26,z92_3,oM,oM,(by first | exact rel_code oM | exact rel_budget oM oM | exact rel_num hc00 hs1 oM | exact rel_var hc00 hs1 oM | exact rel_if0 hc00 hs1 oM oM ‹RelV (go c0 (evE _ _ (ex.kids.getD 0 _) _ _)) _ _ _› oM (by assumption) | exact rel_if1 hc00 hs1 oM oM ‹RelV (go c0 (evE _ _ (ex.kids.getD 0 _) _ _)) _ _ _› oM (by assumption) | exact rel_let hc00 hs1 oM oM ‹RelV (go c0 (evE _ _ (ex.kids.getD 0 _) _ _)) _ _ _› (by assumption) | exact rel_kidsE hc00 hs1 hkg.1 hkg.2.1 hkg.2.2.1 hkg.2.2.2 hKr oM | exact rel_call hc00 hs1 oM oM hKr oM (by assumption) | exact rel_loop hc00 hs1 oM oM hKr oM (rel_stop hrl9 oM oM) | exact rel_op hc00 hs1 hkg.1 hkg.2.1 hkg.2.2.1 hkg.2.2.2 oM oM hKr oM (by rw [show c26 = 0 from by omega]; exact op_add oM) | exact rel_op hc00 hs1 hkg.1 hkg.2.1 hkg.2.2.1 hkg.2.2.2 oM oM hKr oM (by rw [show c26 = 0 from by omega]; exact op_sub oM) | exact rel_op hc00 hs1 hkg.1 hkg.2.1 hkg.2.2.1 hkg.2.2.2 oM oM hKr oM (by rw [show c26 = 0 from by omega]; exact op_mul oM) | exact rel_op hc00 hs1 hkg.1 hkg.2.1 hkg.2.2.1 hkg.2.2.2 oM oM hKr oM (by rw [show c26 = 0 from by omega]; exact op_neg oM) | exact rel_op hc00 hs1 hkg.1 hkg.2.1 hkg.2.2.1 hkg.2.2.2 oM oM hKr oM (by rw [show c26 = 0 from by omega]; exact op_div oM oM) | exact rel_op hc00 hs1 hkg.1 hkg.2.1 hkg.2.2.1 hkg.2.2.2 oM oM hKr oM (op_div0 oM oM))⟩
      ·
       refine q_eql false rfl rfl (decide_eq_false hc24) zN (lw_nil (c_cond_f rfl (wp_skip (wp_seq (wp_plain _ [0,0,2,0,2,0,4,0] rfl (lw_tv 1 rfl (q_fldP (p:=(.pointer (some ⟨w.heap.size,0,none⟩))) (b:=w.heap.size) (o:=0) 4 fd43_4 rfl rfl zN (q_load (p:=(padd (.pointer (some ⟨w.heap.size,0,none⟩)) 4)) (.inr rfl) ve one41 rfl (hF21.ldp (i:=4) sM) zN (q_idx (v:=ve) 2 u41 tiS43 rfl rfl hex.rn.isSl rfl sD zN ?_)))))))))
       obtain ⟨cs34,hr34,hl34⟩:=hex.rn.get (good_rEx dex) Ex.zero (k:=2) sD
       obtain ⟨dd34,ve34,hd34,rfl,hx34⟩:=RX.of hr34
       have hln34:=hx34.rn.lenle
       unfold maxLen at hln34
       refine q_loadA (p:=eptr ve 2 5) (.inr rfl) [(.int .i64 ((ex.kids.getD 2 Ex.zero).kind)),(.int .i64 ((ex.kids.getD 2 Ex.zero).num)),(.int .i64 ((ex.kids.getD 2 Ex.zero).pick)),(.int .i64 ((ex.kids.getD 2 Ex.zero).count)),ve34] agg43 rfl (fun wq9 hw9=>hl34 wq9 ((hE17.sub (subS hgS)).ext hw9)) rfl zN (lw_tv 1 rfl ?_)
       refine lw_callE 92 [] [] [(.pointer (some ⟨g,0,none⟩)),(.agg #[(.int .i64 ((ex.kids.getD 2 Ex.zero).kind)),(.int .i64 ((ex.kids.getD 2 Ex.zero).num)),(.int .i64 ((ex.kids.getD 2 Ex.zero).pick)),(.int .i64 ((ex.kids.getD 2 Ex.zero).count)),ve34]),vv] rfl rfl cf92 zN (IH2 dd34 oM _ S g vp dp (o) (s17) (c17) (p) ve34 (ex.kids.getD 2 Ex.zero) vv (env) (fun b hb=>(by have:=hS b hb; omega:b < w17.heap.size)) hgS hB17 (hp.chg (good_rdS (good_rFn dp)) (hE17.sub (subS hgS))) oM oM oM ⟨hx34.rng,(hx34.rn.chg (good_rdS (good_rEx dd34)) (hE17.sub (subS hgS)))⟩ (henv.chg g2 (hE17.sub (subS hgS))) hqenv (by exact hvp) oM (by exact wf_at0 hwf oM oM) (by exact hse) (by have:=kd_at (l:=ex.kids) (k:=2) oM; omega)) ?_
       rintro e35 w35 ⟨v35,x35,s35,c35,rfl,hC35,hB35,hr35,hse35,hsb35,hcb35,hrl35⟩
       refine ⟨_,rfl,?_⟩
       have hzs35:=hC35.size
       have hE35:Chg [g] w w35:=hE17.trans hC35
       have hF39:=hF21.chg hC35 (fun hm=>by have:=List.mem_singleton.1 hm; omega)
       have hF41:=hr17.run g1 hgS hC35
       have hsn35:=hse35.1
       refine lw_tvn 1 rfl (wp_ret (b_ret (t_ret ?_)))
       exact post_ret [6] rfl v35 rfl ⟨v35,x35,s35,c35,rfl,hE35,hB35,hr35,z92_3,oM,oM,(by first | exact rel_code oM | exact rel_budget oM oM | exact rel_num hc00 hs1 oM | exact rel_var hc00 hs1 oM | exact rel_if0 hc00 hs1 oM oM ‹RelV (go c0 (evE _ _ (ex.kids.getD 0 _) _ _)) _ _ _› oM (by assumption) | exact rel_if1 hc00 hs1 oM oM ‹RelV (go c0 (evE _ _ (ex.kids.getD 0 _) _ _)) _ _ _› oM (by assumption) | exact rel_let hc00 hs1 oM oM ‹RelV (go c0 (evE _ _ (ex.kids.getD 0 _) _ _)) _ _ _› (by assumption) | exact rel_kidsE hc00 hs1 hkg.1 hkg.2.1 hkg.2.2.1 hkg.2.2.2 hKr oM | exact rel_call hc00 hs1 oM oM hKr oM (by assumption) | exact rel_loop hc00 hs1 oM oM hKr oM (rel_stop hrl9 oM oM) | exact rel_op hc00 hs1 hkg.1 hkg.2.1 hkg.2.2.1 hkg.2.2.2 oM oM hKr oM (by rw [show c35 = 0 from by omega]; exact op_add oM) | exact rel_op hc00 hs1 hkg.1 hkg.2.1 hkg.2.2.1 hkg.2.2.2 oM oM hKr oM (by rw [show c35 = 0 from by omega]; exact op_sub oM) | exact rel_op hc00 hs1 hkg.1 hkg.2.1 hkg.2.2.1 hkg.2.2.2 oM oM hKr oM (by rw [show c35 = 0 from by omega]; exact op_mul oM) | exact rel_op hc00 hs1 hkg.1 hkg.2.1 hkg.2.2.1 hkg.2.2.2 oM oM hKr oM (by rw [show c35 = 0 from by omega]; exact op_neg oM) | exact rel_op hc00 hs1 hkg.1 hkg.2.1 hkg.2.2.1 hkg.2.2.2 oM oM hKr oM (by rw [show c35 = 0 from by omega]; exact op_div oM oM) | exact rel_op hc00 hs1 hkg.1 hkg.2.1 hkg.2.2.1 hkg.2.2.2 oM oM hKr oM (op_div0 oM oM))⟩
     ·
      refine q_eql false rfl rfl (decide_eq_false hc15) zN (lw_tvn 1 rfl (c_cond_f rfl (wp_seq (wp_plain _ [0,0] rfl ?_))))
      by_cases hc43:ex.kind = ((9 :Nat):Int)
      ·
       refine q_eql true rfl rfl (decide_eq_true hc43) zN (lw_tvn 1 rfl (c_cond_t rfl (wp_seq ?_)))
       letI:JR:=jrC [g]
       refine Jx.wp_draw _ [0,0,1,0,1,0,0,0,0,1,0,1,0,3,3,3,3,0] mixed (by kernel_rfl) ?_
       have hwk:=wk_let hwf oM
       refine Jx.q_move (.pointer (some ⟨g,0,none⟩)) rfl zN (Jx.q_fldP (p:=(.pointer (some ⟨w.heap.size,0,none⟩))) (b:=w.heap.size) (o:=0) 4 fd43_4 rfl rfl zN (Jx.q_loadJ (p:=(padd (.pointer (some ⟨w.heap.size,0,none⟩)) 4)) ve one41 rfl (fun wj hj=>(BX.chg (w:=w9.drew) (F:=[g]) hF10 hj (fun hm=>by have:=List.mem_singleton.1 hm; omega)).ldp (i:=4) sM) zN (Jx.q_idx (v:=ve) 1 u41 tiS43 rfl rfl hex.rn.isSl rfl sD zN ?_)))
       obtain ⟨cs44,hr44,hl44⟩:=hex.rn.get (good_rEx dex) Ex.zero (k:=1) sD
       obtain ⟨dd44,ve44,hd44,rfl,hx44⟩:=RX.of hr44
       have hln44:=hx44.rn.lenle
       unfold maxLen at hln44
       refine Jx.q_loadAJ (p:=eptr ve 1 5) [(.int .i64 ((ex.kids.getD 1 Ex.zero).kind)),(.int .i64 ((ex.kids.getD 1 Ex.zero).num)),(.int .i64 ((ex.kids.getD 1 Ex.zero).pick)),(.int .i64 ((ex.kids.getD 1 Ex.zero).count)),ve44] agg43 rfl (fun wj hj=>hl44 wj (Chg.trans (hE9.drew.sub (subS hgS)) (Chg.sub (show Chg [g] w9.drew wj from hj) (subS hgS)))) rfl zN (Jx.q_move vv rfl zN (Jx.lw_callq 99 [] [] [vv] rfl rfl cf99 zN (clipV vv) (fun wq=>c_slices_Clip_____int64___int64_ wq vv _ henv.slL hqenv) (Jx.q_move (.pointer (some ⟨g,0,none⟩)) rfl zN (Jx.q_fldP (p:=(.pointer (some ⟨w.heap.size,0,none⟩))) (b:=w.heap.size) (o:=0) 4 fd43_4 rfl rfl zN ?_))))
       refine Jx.q_loadJ (p:=(padd (.pointer (some ⟨w.heap.size,0,none⟩)) 4)) ve one41 rfl (fun wj hj=>(BX.chg (w:=w9.drew) (F:=[g]) hF10 hj (fun hm=>by have:=List.mem_singleton.1 hm; omega)).ldp (i:=4) sM) zN (Jx.q_idx (v:=ve) 0 u41 tiS43 rfl rfl hex.rn.isSl rfl sD zN ?_)
       obtain ⟨cs45,hr45,hl45⟩:=hex.rn.get (good_rEx dex) Ex.zero (k:=0) sD
       obtain ⟨dd45,ve45,hd45,rfl,hx45⟩:=RX.of hr45
       have hln45:=hx45.rn.lenle
       unfold maxLen at hln45
       refine Jx.q_loadAJ (p:=eptr ve 0 5) [(.int .i64 ((ex.kids.getD 0 Ex.zero).kind)),(.int .i64 ((ex.kids.getD 0 Ex.zero).num)),(.int .i64 ((ex.kids.getD 0 Ex.zero).pick)),(.int .i64 ((ex.kids.getD 0 Ex.zero).count)),ve45] agg43 rfl (fun wj hj=>hl45 wj (Chg.trans (hE9.drew.sub (subS hgS)) (Chg.sub (show Chg [g] w9.drew wj from hj) (subS hgS)))) rfl zN (Jx.q_move vv rfl zN ?_)
       refine Jx.lw_call 92 [] [] [(.pointer (some ⟨g,0,none⟩)),(.agg #[(.int .i64 ((ex.kids.getD 0 Ex.zero).kind)),(.int .i64 ((ex.kids.getD 0 Ex.zero).num)),(.int .i64 ((ex.kids.getD 0 Ex.zero).pick)),(.int .i64 ((ex.kids.getD 0 Ex.zero).count)),ve45]),vv] rfl rfl cf92 zN (IH2 dd45 oM _ S g vp dp (o) (s0 + 1) (c0) (p) ve45 (ex.kids.getD 0 Ex.zero) vv (env) (fun b hb=>(by have:=hS b hb; omega:b < w9.heap.size)) hgS hB9 (hp.chg (good_rdS (good_rFn dp)) (hE9.drew.sub (subS hgS))) oM oM oM ⟨hx45.rng,(hx45.rn.chg (good_rdS (good_rEx dd45)) (hE9.drew.sub (subS hgS)))⟩ (henv.chg g2 (hE9.drew.sub (subS hgS))) hqenv (by exact hvp) oM (by exact wf_at0 hwf oM oM) (by exact hse) (by have:=kd_at (l:=ex.kids) (k:=0) oM; omega)) ?_
       rintro e46 w46 ⟨v46,x46,s46,c46,rfl,hC46,hB46,hr46,hse46,hsb46,hcb46,hrl46⟩
       refine ⟨_,rfl,hC46,?_⟩
       replace hC46:=hC46.of_drew
       have hzs46:=hC46.size
       have hE46:Chg [g] w w46:=hE9.trans hC46
       have hF50:=hF10.chg hC46 (fun hm=>by have:=List.mem_singleton.1 hm; omega)
       have hsn46:=hse46.1
       refine Jx.r_one (u:=v46) (B:=w46.heap.size) good_rV u37 ti25 rfl rfl (frV w46.heap.size w46.heap.size _ (hr46.one1 g1)) (Nat.le_refl _) zN fun v53 w53 hX53 hz53 hO53=>?_
       have hzs53:=hX53.size
       have hE53:Chg [g] w w53:=hE46.ext hX53
       have hB46x53:=hB46.ext hX53
       have hF50x53:=hF50.ext hX53
       have hN54:=hr46.ext g1 hX53
       refine Jx.e_appC (v:=vv) (a:=v53) (u:=v46) u37 ti25 rfl rfl rfl (henv.chg g2 (hE53.sub (subS hgS))) hO53 hN54 (fun b hb=>(by have:=hS b hb; omega:b < w53.heap.size)) sD (by unfold maxLen; first | omega | assumption | (simp; done) | (simp; omega)) zN fun v55 w55 hX55 hr55 hcp55=>?_
       have hzs55:=hX55.size
       have hE55:Chg [g] w w55:=hE53.ext hX55
       have hB46x55:=hB46x53.ext hX55
       have hF50x55:=hF50x53.ext hX55
       have hN56:=hN54.ext g1 hX55
       refine Jx.lw_call 92 [] [] [(.pointer (some ⟨g,0,none⟩)),(.agg #[(.int .i64 ((ex.kids.getD 1 Ex.zero).kind)),(.int .i64 ((ex.kids.getD 1 Ex.zero).num)),(.int .i64 ((ex.kids.getD 1 Ex.zero).pick)),(.int .i64 ((ex.kids.getD 1 Ex.zero).count)),ve44]),v55] rfl rfl cf92 zN (IH2 dd44 oM _ S g vp dp (o) (s46) (c46) (p) ve44 (ex.kids.getD 1 Ex.zero) v55 (env++[x46]) (fun b hb=>(by have:=hS b hb; omega:b < w55.heap.size)) hgS hB46x55 (hp.chg (good_rdS (good_rFn dp)) (hE55.sub (subS hgS))) oM oM oM ⟨hx44.rng,(hx44.rn.chg (good_rdS (good_rEx dd44)) (hE55.sub (subS hgS)))⟩ hr55 hcp55 (by exact hvp) oM (by have h9:=wf_at1 hwf oM oM; rw [List.length_append,List.length_singleton]; exact h9) (by exact hse.snoc (by assumption)) (by have:=kd_at (l:=ex.kids) (k:=1) oM; rw [List.length_append,List.length_singleton]; omega)) ?_
       rintro e57 w57 ⟨v57,x57,s57,c57,rfl,hC57,hB57,hr57,hse57,hsb57,hcb57,hrl57⟩
       refine ⟨_,rfl,hC57,?_⟩
       have hzs57:=hC57.size
       have hE57:Chg [g] w w57:=hE55.trans hC57
       have hF61:=hF50x55.chg hC57 (fun hm=>by have:=List.mem_singleton.1 hm; omega)
       have hF64:=hN56.run g1 hgS hC57
       have hF65:=hr55.run g2 hgS hC57
       have hsn57:=hse57.1
       refine Jx.q_assign v57 rfl zN (Jx.lw_nil (wp_ret (b_ret (t_ret ?_))))
       exact post_ret [6] rfl v57 rfl ⟨v57,x57,s57,c57,rfl,hE57,hB57,hr57,z92_3,oM,oM,(by first | exact rel_code oM | exact rel_budget oM oM | exact rel_num hc00 hs1 oM | exact rel_var hc00 hs1 oM | exact rel_if0 hc00 hs1 oM oM ‹RelV (go c0 (evE _ _ (ex.kids.getD 0 _) _ _)) _ _ _› oM (by assumption) | exact rel_if1 hc00 hs1 oM oM ‹RelV (go c0 (evE _ _ (ex.kids.getD 0 _) _ _)) _ _ _› oM (by assumption) | exact rel_let hc00 hs1 oM oM ‹RelV (go c0 (evE _ _ (ex.kids.getD 0 _) _ _)) _ _ _› (by assumption) | exact rel_kidsE hc00 hs1 hkg.1 hkg.2.1 hkg.2.2.1 hkg.2.2.2 hKr oM | exact rel_call hc00 hs1 oM oM hKr oM (by assumption) | exact rel_loop hc00 hs1 oM oM hKr oM (rel_stop hrl9 oM oM) | exact rel_op hc00 hs1 hkg.1 hkg.2.1 hkg.2.2.1 hkg.2.2.2 oM oM hKr oM (by rw [show c57 = 0 from by omega]; exact op_add oM) | exact rel_op hc00 hs1 hkg.1 hkg.2.1 hkg.2.2.1 hkg.2.2.2 oM oM hKr oM (by rw [show c57 = 0 from by omega]; exact op_sub oM) | exact rel_op hc00 hs1 hkg.1 hkg.2.1 hkg.2.2.1 hkg.2.2.2 oM oM hKr oM (by rw [show c57 = 0 from by omega]; exact op_mul oM) | exact rel_op hc00 hs1 hkg.1 hkg.2.1 hkg.2.2.1 hkg.2.2.2 oM oM hKr oM (by rw [show c57 = 0 from by omega]; exact op_neg oM) | exact rel_op hc00 hs1 hkg.1 hkg.2.1 hkg.2.2.1 hkg.2.2.2 oM oM hKr oM (by rw [show c57 = 0 from by omega]; exact op_div oM oM) | exact rel_op hc00 hs1 hkg.1 hkg.2.1 hkg.2.2.1 hkg.2.2.2 oM oM hKr oM (op_div0 oM oM))⟩
      ·
       refine q_eql false rfl rfl (decide_eq_false hc43) zN (lw_tvn 1 rfl (c_cond_f rfl (wp_skip (wp_seq (wp_plain _ [0,0,2,0,4,0] rfl ?_)))))
       have hkg:ex.kind≠1∧ex.kind≠2∧ex.kind≠8∧ex.kind≠9:=by omega
       have hk6:=wk_len hwf hvp hF
       refine lw_tv 1 rfl (q_fldP (p:=(.pointer (some ⟨w.heap.size,0,none⟩))) (b:=w.heap.size) (o:=0) 4 fd43_4 rfl rfl zN (q_load (p:=(padd (.pointer (some ⟨w.heap.size,0,none⟩)) 4)) (.inr rfl) ve one41 rfl (hF10.ldp (i:=4) sM) zN (lw_tv 1 rfl ?_)))
       refine lw_callE 90 [] [] [(.pointer (some ⟨g,0,none⟩)),ve,vv] rfl rfl cf90 zN (c_all F dex (fun d9 h9=>IH2 d9 oM) _ S g vp dp (o) (s0 + 1) (c0) (p) ve (ex.kids) vv (env) (fun b hb=>(by have:=hS b hb; omega:b < w9.heap.size)) hgS hB9 (hp.chg (good_rdS (good_rFn dp)) (hE9.sub (subS hgS))) oM oM oM (hex.rn.chg (good_rdS (good_rEx dex)) (hE9.sub (subS hgS))) (henv.chg g2 (hE9.sub (subS hgS))) hqenv (by exact hvp) oM (by intro k hk; exact wf_at0 hwf hk oM) (by exact hse) (by intro k hk; have:=kd_at (l:=ex.kids) (k:=k) hk; omega) oM) ?_
       rintro e66 w66 ⟨v66,x66,s66,c66,rfl,hC66,hB66,hr66,hse66,hsb66,hcb66,hrl66⟩
       refine ⟨_,rfl,?_⟩
       have hzs66:=hC66.size
       have hE66:Chg [g] w w66:=hE9.trans hC66
       have hF70:=hF10.chg hC66 (fun hm=>by have:=List.mem_singleton.1 hm; omega)
       have hsn66:=hse66.2.1
       have hsr66:=hse66.2.2
       have hcp66:=hse66.1
       have hK:=hse66.2.2
       have hKr:=hrl66
       refine lw_tvn 1 rfl (wp_seq (wp_seq (wp_plain _ [0,0,0,2,0] rfl (lw_tv 1 rfl (q_nil rfl zN (q_fldP (p:=(.pointer (some ⟨g,0,none⟩))) (b:=g) (o:=0) 3 fd120_3 rfl rfl zN (q_load (p:=(padd (.pointer (some ⟨g,0,none⟩)) 3)) (.inr rfl) (.int .i64 c66) one2 rfl (hB66.ldp (i:=3) sM) zN ?_)))))))
       by_cases hc71:c66≠((0 :Nat):Int)
       ·
        refine q_neq true rfl rfl (decide_eq_true hc71) zN (lw_nil (c_cond_t rfl (wp_seq (wp_plain _ [0,3,0] rfl (lw_tv 1 rfl (lw_call 98 [] [] [(.pointer (some ⟨g,0,none⟩)),(.int .i64 ((0 :Nat):Int))] rfl rfl cf98 zN (c_impl_evaluation_constant _ S g vp dp (o) (s66) (c66) (p) _ (fun b hb=>(by have:=hS b hb; omega:b < w66.heap.size)) hgS hB66 (hp.chg (good_rdS (good_rFn dp)) (hE66.sub (subS hgS))) oM oM oM oM) ?_))))))
        rintro e72 w72 ⟨v72_0,rfl,hX72,hO72_0⟩
        refine ⟨_,rfl,hX72,?_⟩
        have hzs72:=hX72.size
        have hE72:Chg [g] w w72:=hE66.ext hX72
        have hB66x72:=hB66.ext hX72
        have hF70x72:=hF70.ext hX72
        have hN73:=hr66.ext g2 hX72
        refine lw_tvn 1 rfl (wp_ret (t_ret ?_))
        exact post_ret [6] rfl v72_0 rfl ⟨v72_0,cst (o + 1) ((0 :Nat):Int),s66,c66,rfl,hE72,hB66x72,(RN.of_fr1 hO72_0 (fun b hb=>by have:=hS b hb; omega)),z92_3,oM,oM,z92_0⟩
       ·
        refine q_neq false rfl rfl (decide_eq_false hc71) zN (lw_nil (c_cond_f rfl (wp_skip (wp_seq (wp_seq (wp_plain _ [0,2] rfl (q_fldP (p:=(.pointer (some ⟨w.heap.size,0,none⟩))) (b:=w.heap.size) (o:=0) 0 fd43_0 rfl rfl zN (q_load (p:=(padd (.pointer (some ⟨w.heap.size,0,none⟩)) 0)) (.inr rfl) (.int .i64 ex.kind) one2 rfl (hF70.ldp (i:=0) sM) zN (lw_nil (wp_block (wp_seq (wp_plain _ [0,0] rfl ?_))))))))))))
        by_cases hc74:ex.kind = ((10 :Nat):Int)
        ·
         refine q_eql true rfl rfl (decide_eq_true hc74) zN (lw_tvn 1 rfl (c_cond_t rfl (wp_seq (wp_draw _ [0,0,0,0,0,1,0,1,0,0,1,0,1,0,1,0,4,0] mixed (by kernel_rfl) ?_))))
         have hwk:=wk_call hwf oM
         refine lw_tv 2 rfl ?_
         have hvo:=hvp.outs (ex.num).toNat oM
         have hvd:=hvp.deep (ex.num).toNat oM (ex.pick).toNat oM
         refine q_nil rfl zN (q_fldP (p:=(.pointer (some ⟨g,0,none⟩))) (b:=g) (o:=0) 0 fd120_0 rfl rfl zN (q_fldP (p:=(padd (.pointer (some ⟨g,0,none⟩)) 0)) (b:=g) (o:=0) 0 fd49_0 rfl rfl zN (q_load (p:=(padd (padd (.pointer (some ⟨g,0,none⟩)) 0) 0)) (.inl rfl) vp one47 rfl (hB66.ldp (i:=0) sM) zN (q_fldP (p:=(.pointer (some ⟨w.heap.size,0,none⟩))) (b:=w.heap.size) (o:=0) 1 fd43_1 rfl rfl zN (q_load (p:=(padd (.pointer (some ⟨w.heap.size,0,none⟩)) 1)) (.inl rfl) (.int .i64 ex.num) one2 rfl (hF70.ldp (i:=1) sM) zN ?_)))))
         refine q_idx (v:=vp) ((ex.num).toNat) u47 tiS46 rfl rfl hp.isSl oM sD zN ?_
         obtain ⟨cs75,hr75,hl75⟩:=hp.get (good_rFn dp) Fn.zero (k:=((ex.num).toNat)) sD
         obtain ⟨ve75,rfl,hx75⟩:=RF.of hr75
         have hln75:=hx75.rn.lenle
         unfold maxLen at hln75
         refine q_fldL (p:=eptr vp ((ex.num).toNat) 3) 2 fd46_2 rfl (hl75 _ (hE66.drew.sub (subS hgS))) zN (q_load (p:=(padd (eptr vp ((ex.num).toNat) 3) 2)) (.inl rfl) ve75 one41 rfl ((hl75 _ (hE66.drew.sub (subS hgS))).ld (i:=2) (by simp [exC,fnC])) zN (q_fldP (p:=(.pointer (some ⟨w.heap.size,0,none⟩))) (b:=w.heap.size) (o:=0) 2 fd43_2 rfl rfl zN (q_load (p:=(padd (.pointer (some ⟨w.heap.size,0,none⟩)) 2)) (.inl rfl) (.int .i64 ex.pick) one2 rfl (hF70.ldp (i:=2) sM) zN ?_)))
         refine q_idx (v:=ve75) ((ex.pick).toNat) u41 tiS43 rfl rfl hx75.rn.isSl oM sD zN ?_
         obtain ⟨cs76,hr76,hl76⟩:=hx75.rn.get (good_rEx dp) Ex.zero (k:=((ex.pick).toNat)) sD
         obtain ⟨dd76,ve76,hd76,rfl,hx76⟩:=RX.of hr76
         have hln76:=hx76.rn.lenle
         unfold maxLen at hln76
         refine q_loadA (p:=eptr ve75 ((ex.pick).toNat) 5) (.inl rfl) [(.int .i64 ((((p.getD ((ex.num).toNat) Fn.zero).outs).getD ((ex.pick).toNat) Ex.zero).kind)),(.int .i64 ((((p.getD ((ex.num).toNat) Fn.zero).outs).getD ((ex.pick).toNat) Ex.zero).num)),(.int .i64 ((((p.getD ((ex.num).toNat) Fn.zero).outs).getD ((ex.pick).toNat) Ex.zero).pick)),(.int .i64 ((((p.getD ((ex.num).toNat) Fn.zero).outs).getD ((ex.pick).toNat) Ex.zero).count)),ve76] agg43 rfl (fun wq9 hw9=>hl76 wq9 ((hE66.drew.sub (subS hgS)).ext hw9)) rfl zN (lw_tv 1 rfl ?_)
         refine lw_callE 92 [] [] [(.pointer (some ⟨g,0,none⟩)),(.agg #[(.int .i64 ((((p.getD ((ex.num).toNat) Fn.zero).outs).getD ((ex.pick).toNat) Ex.zero).kind)),(.int .i64 ((((p.getD ((ex.num).toNat) Fn.zero).outs).getD ((ex.pick).toNat) Ex.zero).num)),(.int .i64 ((((p.getD ((ex.num).toNat) Fn.zero).outs).getD ((ex.pick).toNat) Ex.zero).pick)),(.int .i64 ((((p.getD ((ex.num).toNat) Fn.zero).outs).getD ((ex.pick).toNat) Ex.zero).count)),ve76]),v66] rfl rfl cf92 zN (IH1 (ex.num).toNat oM dd76 _ S g vp dp (o) (s66) (c66) (p) ve76 (((p.getD ((ex.num).toNat) Fn.zero).outs).getD ((ex.pick).toNat) Ex.zero) v66 (x66) (fun b hb=>(by have:=hS b hb; omega:b < w66.heap.size)) hgS hB66 (hp.chg (good_rdS (good_rFn dp)) (hE66.drew.sub (subS hgS))) oM oM oM ⟨hx76.rng,(hx76.rn.chg (good_rdS (good_rEx dd76)) (hE66.drew.sub (subS hgS)))⟩ hr66 hse66.1 (by exact hvp) oM (by have h9:=hvp.wf (ex.num).toNat oM (ex.pick).toNat oM; rw [show ((x66.length :Nat):Int) = (p.getD (ex.num).toNat Fn.zero).params from by omega]; exact h9) (by exact hK) oM) ?_
         rintro e77 w77 ⟨v77,x77,s77,c77,rfl,hC77,hB77,hr77,hse77,hsb77,hcb77,hrl77⟩
         refine ⟨_,rfl,?_⟩
         replace hC77:=hC77.of_drew
         have hzs77:=hC77.size
         have hE77:Chg [g] w w77:=hE66.trans hC77
         have hF81:=hF70.chg hC77 (fun hm=>by have:=List.mem_singleton.1 hm; omega)
         have hF82:=hr66.run g2 hgS hC77
         have hsn77:=hse77.1
         refine lw_tvn 1 rfl (wp_ret (b_ret (t_ret ?_)))
         exact post_ret [6] rfl v77 rfl ⟨v77,x77,s77,c77,rfl,hE77,hB77,hr77,z92_3,oM,oM,(by first | exact rel_code oM | exact rel_budget oM oM | exact rel_num hc00 hs1 oM | exact rel_var hc00 hs1 oM | exact rel_if0 hc00 hs1 oM oM ‹RelV (go c0 (evE _ _ (ex.kids.getD 0 _) _ _)) _ _ _› oM (by assumption) | exact rel_if1 hc00 hs1 oM oM ‹RelV (go c0 (evE _ _ (ex.kids.getD 0 _) _ _)) _ _ _› oM (by assumption) | exact rel_let hc00 hs1 oM oM ‹RelV (go c0 (evE _ _ (ex.kids.getD 0 _) _ _)) _ _ _› (by assumption) | exact rel_kidsE hc00 hs1 hkg.1 hkg.2.1 hkg.2.2.1 hkg.2.2.2 hKr oM | exact rel_call hc00 hs1 oM oM hKr oM (by assumption) | exact rel_loop hc00 hs1 oM oM hKr oM (rel_stop hrl9 oM oM) | exact rel_op hc00 hs1 hkg.1 hkg.2.1 hkg.2.2.1 hkg.2.2.2 oM oM hKr oM (by rw [show c77 = 0 from by omega]; exact op_add oM) | exact rel_op hc00 hs1 hkg.1 hkg.2.1 hkg.2.2.1 hkg.2.2.2 oM oM hKr oM (by rw [show c77 = 0 from by omega]; exact op_sub oM) | exact rel_op hc00 hs1 hkg.1 hkg.2.1 hkg.2.2.1 hkg.2.2.2 oM oM hKr oM (by rw [show c77 = 0 from by omega]; exact op_mul oM) | exact rel_op hc00 hs1 hkg.1 hkg.2.1 hkg.2.2.1 hkg.2.2.2 oM oM hKr oM (by rw [show c77 = 0 from by omega]; exact op_neg oM) | exact rel_op hc00 hs1 hkg.1 hkg.2.1 hkg.2.2.1 hkg.2.2.2 oM oM hKr oM (by rw [show c77 = 0 from by omega]; exact op_div oM oM) | exact rel_op hc00 hs1 hkg.1 hkg.2.1 hkg.2.2.1 hkg.2.2.2 oM oM hKr oM (op_div0 oM oM))⟩
        ·
         refine q_eql false rfl rfl (decide_eq_false hc74) zN (lw_tvn 1 rfl (c_cond_f rfl (wp_seq (wp_plain _ [0,0] rfl ?_))))
         by_cases hc85:ex.kind = ((11 :Nat):Int)
         ·
          refine q_eql true rfl rfl (decide_eq_true hc85) zN (lw_tvn 1 rfl (c_cond_t rfl (wp_seq (wp_seq (wp_plain _ [0] rfl ?_)))))
          have hwk:=wk_call hwf oM
          have hwl:=wk_loop hwf oM
          refine lw_tvn 1 rfl (wp_block ?_)
          refine c_loop (S:=Nat × Value × List (List Int) × Nat × Int) (fun (⟨i,vk,ks,s9,c9⟩:Nat × Value × List (List Int) × Nat × Int)=>([(7,vk),(8,(.int .i64 ((i :Nat):Int))),(0,(.pointer (some ⟨g,0,none⟩))),(4,(.pointer (some ⟨w.heap.size,0,none⟩)))]:List (Nat × Value))) (fun (⟨i,vk,ks,s9,c9⟩:Nat × Value × List (List Int) × Nat × Int) (W:World)=>Chg [g] w W∧BX W.heap g [vp,.int .i64 ((o :Nat):Int),.int .i64 ((s9 :Nat):Int),.int .i64 c9]∧BX W.heap w.heap.size [(.int .i64 ex.kind),(.int .i64 ex.num),(.int .i64 ex.pick),(.int .i64 ex.count),ve]∧i≤(ex.count).toNat∧RN S (rdL (rdL rI)) W.heap vk ks∧CapS vk∧ks.length = (p.getD (ex.num).toNat Fn.zero).outs.length∧SrE (o + 1) ks∧s9≤3000∧(0≤c9∧c9≤9)∧RelV (lop (fun a t=>evs (o + 1) (evC p (o + 1) (ex.num).toNat) (p.getD (ex.num).toNat Fn.zero).outs a t) i x66 s66) ks s9 c9) (fun (⟨i,vk,ks,s9,c9⟩:Nat × Value × List (List Int) × Nat × Int)=>(ex.count).toNat - i) (0,v66,x66,s66,c66) ⟨rfl,rfl,rfl,rfl,trivial⟩ ⟨hE66,hB66,hF70,oM,(by assumption),(by assumption),oM,(by assumption),oM,oM,(by exact ⟨rfl,rfl,by omega⟩)⟩ ?_
          clear hE0 hz1 hX1 hzs1 hE1 hz9 hC9 hE9 hzs9 hF10 hC66 hzs66 hE66 hF70
          rintro ⟨i,vk,ks,s9,c9⟩ ρ86 w86 ⟨hE86,hL86_0,hL86_1,hp86_0,hrk,hck,hkl,hks,hp86_5,hp86_6,hrl9⟩
          have hzs86:w.heap.size≤w86.heap.size:=hE86.size
          have hq87:=hL86_0.lt
          have hq88:=hL86_1.lt
          refine wp_seq (wp_seq (wp_plain _ [0,0,2,0,0,0,0,0,2,0,0] rfl (lw_tv 1 rfl (q_fldP (p:=(.pointer (some ⟨w.heap.size,0,none⟩))) (b:=w.heap.size) (o:=0) 3 fd43_3 rfl rfl zN (q_load (p:=(padd (.pointer (some ⟨w.heap.size,0,none⟩)) 3)) (.inr rfl) (.int .i64 ex.count) one2 rfl (hL86_1.ldp (i:=3) sM) zN ?_)))))
          by_cases hc89:((i :Nat):Int) < ex.count
          ·
           refine q_lss true rfl rfl (decide_eq_true hc89) zN (lw_tv 2 rfl (q_nil rfl (zS (e:=132) rfl rfl rfl) (q_fldP (p:=(.pointer (some ⟨g,0,none⟩))) (b:=g) (o:=0) 3 fd120_3 rfl rfl (zS (e:=132) rfl rfl rfl) (q_load (p:=(padd (.pointer (some ⟨g,0,none⟩)) 3)) (.inr rfl) (.int .i64 c9) one2 rfl (hL86_0.ldp (i:=3) sM) (zS (e:=132) rfl rfl rfl) ?_))))
           by_cases hc90:c9 = ((0 :Nat):Int)
           ·
            refine q_eql true rfl rfl (decide_eq_true hc90) (zS (e:=132) rfl rfl rfl) (lw_tvn 1 rfl (c_cond_t rfl (wp_skip (wp_seq (wp_block (wp_draw _ [0,0,0,0,0,1,0,1,0,0,1,0,4,0] mixed (by kernel_rfl) (lw_tv 2 rfl ?_)))))))
            have hvo:=hvp.outs (ex.num).toNat oM
            refine q_nil rfl zN (q_fldP (p:=(.pointer (some ⟨g,0,none⟩))) (b:=g) (o:=0) 0 fd120_0 rfl rfl zN (q_fldP (p:=(padd (.pointer (some ⟨g,0,none⟩)) 0)) (b:=g) (o:=0) 0 fd49_0 rfl rfl zN (q_load (p:=(padd (padd (.pointer (some ⟨g,0,none⟩)) 0) 0)) (.inl rfl) vp one47 rfl (hL86_0.ldp (i:=0) sM) zN (q_fldP (p:=(.pointer (some ⟨w.heap.size,0,none⟩))) (b:=w.heap.size) (o:=0) 1 fd43_1 rfl rfl zN (q_load (p:=(padd (.pointer (some ⟨w.heap.size,0,none⟩)) 1)) (.inl rfl) (.int .i64 ex.num) one2 rfl (hL86_1.ldp (i:=1) sM) zN ?_)))))
            refine q_idx (v:=vp) ((ex.num).toNat) u47 tiS46 rfl rfl hp.isSl oM sD zN ?_
            obtain ⟨cs91,hr91,hl91⟩:=hp.get (good_rFn dp) Fn.zero (k:=((ex.num).toNat)) sD
            obtain ⟨ve91,rfl,hx91⟩:=RF.of hr91
            have hln91:=hx91.rn.lenle
            unfold maxLen at hln91
            refine q_fldL (p:=eptr vp ((ex.num).toNat) 3) 2 fd46_2 rfl (hl91 _ (hE86.drew.sub (subS hgS))) zN (q_load (p:=(padd (eptr vp ((ex.num).toNat) 3) 2)) (.inl rfl) ve91 one41 rfl ((hl91 _ (hE86.drew.sub (subS hgS))).ld (i:=2) (by simp [exC,fnC])) zN (lw_tv 1 rfl ?_))
            refine lw_callE 90 [] [] [(.pointer (some ⟨g,0,none⟩)),ve91,vk] rfl rfl cf90 zN (c_all (ex.num).toNat dp (fun d9 h9=>IH1 (ex.num).toNat oM d9) _ S g vp dp (o) (s9) (c9) (p) ve91 ((p.getD ((ex.num).toNat) Fn.zero).outs) vk (ks) (fun b hb=>(by have:=hS b hb; omega:b < w86.heap.size)) hgS hL86_0 (hp.chg (good_rdS (good_rFn dp)) (hE86.drew.sub (subS hgS))) oM oM oM (hx91.rn.chg (good_rdS (good_rEx dp)) (hE86.drew.sub (subS hgS))) hrk hck (by exact hvp) oM (by intro k hk; have h9:=hvp.wf (ex.num).toNat oM k hk; rw [show ((ks.length :Nat):Int) = (p.getD (ex.num).toNat Fn.zero).params from by omega]; exact h9) (by exact hks) (by intro k hk; have:=hvp.deep (ex.num).toNat oM k hk; omega) oM) ?_
            rintro e92 w92 ⟨v92,x92,s92,c92,rfl,hC92,hB92,hr92,hse92,hsb92,hcb92,hrl92⟩
            refine ⟨_,rfl,?_⟩
            replace hC92:=hC92.of_drew
            have hzs92:=hC92.size
            have hE92:Chg [g] w w92:=hE86.trans hC92
            have hF96:=hL86_1.chg hC92 (fun hm=>by have:=List.mem_singleton.1 hm; omega)
            have hF97:=hrk.run g2 hgS hC92
            have hsn92:=hse92.2.1
            have hsr92:=hse92.2.2
            have hcp92:=hse92.1
            exact lw_tvn 1 rfl (wp_plain _ [0,0,0] rfl (lw_tv 1 rfl (q_add ((i + 1 :Nat):Int) rfl rfl (w64n oM oM) zN (lw_tvn 1 rfl ⟨((i + 1),v92,x92,s92,c92),_,rfl,⟨rfl,rfl,rfl,rfl,trivial⟩,⟨hE92,hB92,hF96,oM,(by assumption),(by assumption),oM,(by assumption),oM,oM,(by exact rel_lop hrl9 oM (by assumption))⟩,by first | omega | (dsimp only; omega)⟩))))
           ·
            refine q_eql false rfl rfl (decide_eq_false hc90) (zS (e:=132) rfl rfl rfl) (lw_tvn 1 rfl (c_cond_f rfl (wp_exit (t_exit (t_exit (c_exit_here (wp_seq (wp_plain _ [0,0,2,0,2,0] rfl (lw_tv 1 rfl (q_fldP (p:=(.pointer (some ⟨w.heap.size,0,none⟩))) (b:=w.heap.size) (o:=0) 2 fd43_2 rfl rfl zN (q_load (p:=(padd (.pointer (some ⟨w.heap.size,0,none⟩)) 2)) (.inr rfl) (.int .i64 ex.pick) one2 rfl (hL86_1.ldp (i:=2) sM) zN ?_)))))))))))
            refine q_idx (v:=vk) ((ex.pick).toNat) u37 ti25 rfl rfl hrk.slL oM sD zN ?_
            obtain ⟨ue99,hl99,hr99⟩:=RN.getL (w:=w86) g1 [] (k:=(ex.pick).toNat) hrk sD
            have hln99:=hr99.lenL
            unfold maxLen at hln99
            refine q_load (p:=eptr vk ((ex.pick).toNat) 1) (.inr rfl) ue99 one25 rfl (hl99 _ (Chg.refl _ _)) zN (lw_tvn 1 rfl (wp_ret (b_ret (t_ret ?_))))
            exact post_ret [6] rfl ue99 rfl ⟨ue99,ks.getD ((ex.pick).toNat) [],s9,c9,rfl,hE86,hL86_0,hr99,z92_3,oM,oM,z92_2⟩
          ·
           refine q_lss false rfl rfl (decide_eq_false hc89) zN (lw_tvn 7 rfl (c_cond_f rfl (wp_exit (t_exit (t_exit (c_exit_here (wp_seq (wp_plain _ [0,0,2,0,2,0] rfl (lw_tv 1 rfl (q_fldP (p:=(.pointer (some ⟨w.heap.size,0,none⟩))) (b:=w.heap.size) (o:=0) 2 fd43_2 rfl rfl zN (q_load (p:=(padd (.pointer (some ⟨w.heap.size,0,none⟩)) 2)) (.inr rfl) (.int .i64 ex.pick) one2 rfl (hL86_1.ldp (i:=2) sM) zN ?_)))))))))))
           refine q_idx (v:=vk) ((ex.pick).toNat) u37 ti25 rfl rfl hrk.slL oM sD zN ?_
           obtain ⟨ue100,hl100,hr100⟩:=RN.getL (w:=w86) g1 [] (k:=(ex.pick).toNat) hrk sD
           have hln100:=hr100.lenL
           unfold maxLen at hln100
           refine q_load (p:=eptr vk ((ex.pick).toNat) 1) (.inr rfl) ue100 one25 rfl (hl100 _ (Chg.refl _ _)) zN (lw_tvn 1 rfl (wp_ret (b_ret (t_ret ?_))))
           exact post_ret [6] rfl ue100 rfl ⟨ue100,ks.getD ((ex.pick).toNat) [],s9,c9,rfl,hE86,hL86_0,hr100,z92_3,oM,oM,z92_2⟩
         ·
          refine q_eql false rfl rfl (decide_eq_false hc85) zN (lw_tvn 1 rfl (c_cond_f rfl (wp_seq (wp_plain _ [0,0] rfl ?_))))
          by_cases hc101:ex.kind = ((3 :Nat):Int)
          ·
           refine q_eql true rfl rfl (decide_eq_true hc101) zN (lw_tvn 1 rfl (c_cond_t rfl (wp_seq (wp_draw _ [0,0,1,0,0,1,3,0] mixed (by kernel_rfl) ?_))))
           have hwk:=wk_op2 hwf oM
           have hK0:=hK 0 oM
           have hK1:=hK 1 oM
           have hK1l:=hK1.1
           refine lw_tv 1 rfl (q_idx (v:=v66) 0 u37 ti25 rfl rfl hr66.slL rfl sD zN ?_)
           obtain ⟨ue102,hl102,hr102⟩:=RN.getL (w:=w66) g1 [] (k:=0) hr66 sD
           have hln102:=hr102.lenL
           unfold maxLen at hln102
           refine q_load (p:=eptr v66 0 1) (.inl rfl) ue102 one25 rfl (hl102 _ (Chg.refl _ _).drew) zN (lw_tv 1 rfl (q_idx (v:=v66) 1 u37 ti25 rfl rfl hr66.slL rfl sD zN ?_))
           obtain ⟨ue103,hl103,hr103⟩:=RN.getL (w:=w66) g1 [] (k:=1) hr66 sD
           have hln103:=hr103.lenL
           unfold maxLen at hln103
           refine q_load (p:=eptr v66 1 1) (.inl rfl) ue103 one25 rfl (hl103 _ (Chg.refl _ _).drew) zN (lw_call 100 [] [] [ue102,ue103] rfl rfl cf100 zN (c_impl_added _ _ _ _ _ (hr102).rd (hr103).rd z92_5 z92_4 (by exact hK0.2) (by exact hK1.2)) ?_)
           rintro e104 w104 ⟨v104_0,rfl,hX104,hO104_0⟩
           refine ⟨_,rfl,hX104,?_⟩
           replace hX104:=hX104.of_drew
           have hzs104:=hX104.size
           have hE104:Chg [g] w w104:=hE66.ext hX104
           have hB66x104:=hB66.ext hX104
           have hF70x104:=hF70.ext hX104
           have hN105:=hr66.ext g2 hX104
           have hN106:=hr102.ext g1 hX104
           have hN107:=hr103.ext g1 hX104
           replace hO104_0:=hO104_0.low (B':=w66.heap.size) (Nat.le_refl _)
           refine lw_tvn 1 rfl (wp_ret (b_ret (t_ret ?_)))
           exact post_ret [6] rfl v104_0 rfl ⟨v104_0,addS (x66.getD 0 []) (x66.getD 1 []),s66,c66,rfl,hE104,hB66x104,(RN.of_fr1 hO104_0 (fun b hb=>by have:=hS b hb; omega)),z92_3,oM,oM,z92_0⟩
          ·
           refine q_eql false rfl rfl (decide_eq_false hc101) zN (lw_tvn 1 rfl (c_cond_f rfl (wp_seq (wp_plain _ [0,0] rfl ?_))))
           by_cases hc108:ex.kind = ((4 :Nat):Int)
           ·
            refine q_eql true rfl rfl (decide_eq_true hc108) zN (lw_tvn 1 rfl (c_cond_t rfl (wp_seq (wp_draw _ [0,0,1,0,0,1,3,0] mixed (by kernel_rfl) ?_))))
            have hwk:=wk_op2 hwf oM
            have hK0:=hK 0 oM
            have hK1:=hK 1 oM
            have hK1l:=hK1.1
            refine lw_tv 1 rfl (q_idx (v:=v66) 0 u37 ti25 rfl rfl hr66.slL rfl sD zN ?_)
            obtain ⟨ue109,hl109,hr109⟩:=RN.getL (w:=w66) g1 [] (k:=0) hr66 sD
            have hln109:=hr109.lenL
            unfold maxLen at hln109
            refine q_load (p:=eptr v66 0 1) (.inl rfl) ue109 one25 rfl (hl109 _ (Chg.refl _ _).drew) zN (lw_tv 1 rfl (q_idx (v:=v66) 1 u37 ti25 rfl rfl hr66.slL rfl sD zN ?_))
            obtain ⟨ue110,hl110,hr110⟩:=RN.getL (w:=w66) g1 [] (k:=1) hr66 sD
            have hln110:=hr110.lenL
            unfold maxLen at hln110
            refine q_load (p:=eptr v66 1 1) (.inl rfl) ue110 one25 rfl (hl110 _ (Chg.refl _ _).drew) zN (lw_call 101 [] [] [ue109,ue110] rfl rfl cf101 zN (c_impl_reduced _ _ _ _ _ (hr109).rd (hr110).rd z92_5 (by have:=hK1.1; omega) z92_4 (by exact hK0.2) (by exact hK1.2)) ?_)
            rintro e111 w111 ⟨v111_0,rfl,hX111,hO111_0⟩
            refine ⟨_,rfl,hX111,?_⟩
            replace hX111:=hX111.of_drew
            have hzs111:=hX111.size
            have hE111:Chg [g] w w111:=hE66.ext hX111
            have hB66x111:=hB66.ext hX111
            have hF70x111:=hF70.ext hX111
            have hN112:=hr66.ext g2 hX111
            have hN113:=hr109.ext g1 hX111
            have hN114:=hr110.ext g1 hX111
            replace hO111_0:=hO111_0.low (B':=w66.heap.size) (Nat.le_refl _)
            refine lw_tvn 1 rfl (wp_ret (b_ret (t_ret ?_)))
            exact post_ret [6] rfl v111_0 rfl ⟨v111_0,redS (x66.getD 0 []) (x66.getD 1 []),s66,c66,rfl,hE111,hB66x111,(RN.of_fr1 hO111_0 (fun b hb=>by have:=hS b hb; omega)),z92_3,oM,oM,z92_0⟩
           ·
            refine q_eql false rfl rfl (decide_eq_false hc108) zN (lw_tvn 1 rfl (c_cond_f rfl (wp_seq (wp_plain _ [0,0] rfl ?_))))
            by_cases hc115:ex.kind = ((5 :Nat):Int)
            ·
             refine q_eql true rfl rfl (decide_eq_true hc115) zN (lw_tvn 1 rfl (c_cond_t rfl (wp_seq (wp_draw _ [0,0,1,0,0,1,3,0] mixed (by kernel_rfl) ?_))))
             have hwk:=wk_op2 hwf oM
             have hK0:=hK 0 oM
             have hK1:=hK 1 oM
             have hK1l:=hK1.1
             refine lw_tv 1 rfl (q_idx (v:=v66) 0 u37 ti25 rfl rfl hr66.slL rfl sD zN ?_)
             obtain ⟨ue116,hl116,hr116⟩:=RN.getL (w:=w66) g1 [] (k:=0) hr66 sD
             have hln116:=hr116.lenL
             unfold maxLen at hln116
             refine q_load (p:=eptr v66 0 1) (.inl rfl) ue116 one25 rfl (hl116 _ (Chg.refl _ _).drew) zN (lw_tv 1 rfl (q_idx (v:=v66) 1 u37 ti25 rfl rfl hr66.slL rfl sD zN ?_))
             obtain ⟨ue117,hl117,hr117⟩:=RN.getL (w:=w66) g1 [] (k:=1) hr66 sD
             have hln117:=hr117.lenL
             unfold maxLen at hln117
             refine q_load (p:=eptr v66 1 1) (.inl rfl) ue117 one25 rfl (hl117 _ (Chg.refl _ _).drew) zN (lw_call 102 [] [] [ue116,ue117] rfl rfl cf102 zN (c_impl_product _ _ _ _ _ (hr116).rd (hr117).rd z92_5 z92_4 (by exact hK0.2) (by exact hK1.2)) ?_)
             rintro e118 w118 ⟨v118_0,rfl,hX118,hO118_0⟩
             refine ⟨_,rfl,hX118,?_⟩
             replace hX118:=hX118.of_drew
             have hzs118:=hX118.size
             have hE118:Chg [g] w w118:=hE66.ext hX118
             have hB66x118:=hB66.ext hX118
             have hF70x118:=hF70.ext hX118
             have hN119:=hr66.ext g2 hX118
             have hN120:=hr116.ext g1 hX118
             have hN121:=hr117.ext g1 hX118
             replace hO118_0:=hO118_0.low (B':=w66.heap.size) (Nat.le_refl _)
             refine lw_tvn 1 rfl (wp_ret (b_ret (t_ret ?_)))
             exact post_ret [6] rfl v118_0 rfl ⟨v118_0,proS (x66.getD 0 []) (x66.getD 1 []),s66,c66,rfl,hE118,hB66x118,(RN.of_fr1 hO118_0 (fun b hb=>by have:=hS b hb; omega)),z92_3,oM,oM,z92_0⟩
            ·
             refine q_eql false rfl rfl (decide_eq_false hc115) zN (lw_tvn 1 rfl (c_cond_f rfl (wp_seq (wp_plain _ [0,0] rfl ?_))))
             by_cases hc122:ex.kind = ((7 :Nat):Int)
             ·
              refine q_eql true rfl rfl (decide_eq_true hc122) zN (lw_tvn 1 rfl (c_cond_t rfl (wp_seq (wp_plain _ [0,0,2,3,0] rfl ?_))))
              have hwk:=wk_neg hwf oM
              have hK0:=hK 0 oM
              refine lw_tv 1 rfl (q_idx (v:=v66) 0 u37 ti25 rfl rfl hr66.slL rfl sD zN ?_)
              obtain ⟨ue123,hl123,hr123⟩:=RN.getL (w:=w66) g1 [] (k:=0) hr66 sD
              have hln123:=hr123.lenL
              unfold maxLen at hln123
              refine q_load (p:=eptr v66 0 1) (.inr rfl) ue123 one25 rfl (hl123 _ (Chg.refl _ _)) zN (lw_call 103 [] [] [ue123,(.int .i64 ((1000002 :Nat):Int))] rfl rfl cf103 zN (c_impl_scaled _ _ _ _ (hr123).rd oM z92_5 (by exact hK0.2) oM) ?_)
              rintro e124 w124 ⟨v124_0,rfl,hX124,hO124_0⟩
              refine ⟨_,rfl,hX124,?_⟩
              have hzs124:=hX124.size
              have hE124:Chg [g] w w124:=hE66.ext hX124
              have hB66x124:=hB66.ext hX124
              have hF70x124:=hF70.ext hX124
              have hN125:=hr66.ext g2 hX124
              have hN126:=hr123.ext g1 hX124
              refine lw_tvn 1 rfl (wp_ret (b_ret (t_ret ?_)))
              exact post_ret [6] rfl v124_0 rfl ⟨v124_0,sclS (x66.getD 0 []) ((1000002 :Nat):Int),s66,c66,rfl,hE124,hB66x124,(RN.of_fr1 hO124_0 (fun b hb=>by have:=hS b hb; omega)),z92_3,oM,oM,z92_0⟩
             ·
              refine q_eql false rfl rfl (decide_eq_false hc122) zN (lw_tvn 1 rfl (c_cond_f rfl (wp_skip (wp_seq (wp_seq (wp_plain _ [0,0,2,0,2,0] rfl ?_))))))
              have hkd6:=wk_div hwf ⟨hkg,by omega⟩
              have hwk:=wk_op2 hwf (.inr (.inr (.inr hkd6)))
              have hK0:=hK 0 oM
              have hK1:=hK 1 oM
              have hK1l:=hK1.1
              refine lw_tv 1 rfl (q_idx (v:=v66) 1 u37 ti25 rfl rfl hr66.slL rfl sD zN ?_)
              obtain ⟨ue127,hl127,hr127⟩:=RN.getL (w:=w66) g1 [] (k:=1) hr66 sD
              have hln127:=hr127.lenL
              unfold maxLen at hln127
              refine q_load (p:=eptr v66 1 1) (.inr rfl) ue127 one25 rfl (hl127 _ (Chg.refl _ _)) zN (q_idx (v:=ue127) 0 u25 ti2 rfl rfl hr127.slL rfl sD zN ?_)
              have hg128:=RN.getI (w:=w66) (k:=0) hr127 sD
              refine q_load (p:=eptr ue127 0 1) (.inr rfl) (.int .i64 ((x66.getD 1 []).getD 0 0)) one2 rfl (hg128.1 _ (Chg.refl _ _)) zN ?_
              by_cases hc129:(x66.getD 1 []).getD 0 0 = ((0 :Nat):Int)
              ·
               refine q_eql true rfl rfl (decide_eq_true hc129) zN (lw_nil (c_cond_t rfl (wp_seq (wp_plain _ [0,0,0,4] rfl (lw_tv 1 rfl (q_nil rfl zN (q_fldP (p:=(.pointer (some ⟨g,0,none⟩))) (b:=g) (o:=0) 3 fd120_3 rfl rfl zN (e_setB (k:=3) (w:=w66) sz2 rfl rfl ⟨rfl,rfl⟩ hB66 sM zN fun w130 hC130 hz130 hB130=>?_))))))))
               replace hB130:BX w130.heap g [vp,(.int .i64 ((o :Nat):Int)),(.int .i64 ((s66 :Nat):Int)),(.int .i64 ((6 :Nat):Int))]:=hB130
               have hE130:Chg [g] w w130:=hE66.trans hC130
               have hzs130:=hC130.size
               have hF131:=hF70.chg hC130 (fun hm=>by have:=List.mem_singleton.1 hm; omega)
               have hN132:=hr66.run g2 hgS hC130
               have hN133:=hr127.run g1 hgS hC130
               refine lw_nil (wp_seq (wp_plain _ [0,3,0] rfl (lw_tv 1 rfl (lw_call 98 [] [] [(.pointer (some ⟨g,0,none⟩)),(.int .i64 ((0 :Nat):Int))] rfl rfl cf98 zN (c_impl_evaluation_constant _ S g vp dp (o) (s66) (((6 :Nat):Int)) (p) _ (fun b hb=>(by have:=hS b hb; omega:b < w130.heap.size)) hgS hB130 (hp.chg (good_rdS (good_rFn dp)) (hE130.sub (subS hgS))) oM oM oM oM) ?_))))
               rintro e134 w134 ⟨v134_0,rfl,hX134,hO134_0⟩
               refine ⟨_,rfl,hX134,?_⟩
               have hzs134:=hX134.size
               have hE134:Chg [g] w w134:=hE130.ext hX134
               have hB130x134:=hB130.ext hX134
               have hF131x134:=hF131.ext hX134
               have hN135:=hN132.ext g2 hX134
               have hN136:=hN133.ext g1 hX134
               refine lw_tvn 1 rfl (wp_ret (t_ret ?_))
               exact post_ret [6] rfl v134_0 rfl ⟨v134_0,cst (o + 1) ((0 :Nat):Int),s66,((6 :Nat):Int),rfl,hE134,hB130x134,(RN.of_fr1 hO134_0 (fun b hb=>by have:=hS b hb; omega)),z92_3,oM,oM,(by first | exact rel_code oM | exact rel_budget oM oM | exact rel_num hc00 hs1 oM | exact rel_var hc00 hs1 oM | exact rel_if0 hc00 hs1 oM oM ‹RelV (go c0 (evE _ _ (ex.kids.getD 0 _) _ _)) _ _ _› oM (by assumption) | exact rel_if1 hc00 hs1 oM oM ‹RelV (go c0 (evE _ _ (ex.kids.getD 0 _) _ _)) _ _ _› oM (by assumption) | exact rel_let hc00 hs1 oM oM ‹RelV (go c0 (evE _ _ (ex.kids.getD 0 _) _ _)) _ _ _› (by assumption) | exact rel_kidsE hc00 hs1 hkg.1 hkg.2.1 hkg.2.2.1 hkg.2.2.2 hKr oM | exact rel_call hc00 hs1 oM oM hKr oM (by assumption) | exact rel_loop hc00 hs1 oM oM hKr oM (rel_stop hrl9 oM oM) | exact rel_op hc00 hs1 hkg.1 hkg.2.1 hkg.2.2.1 hkg.2.2.2 oM oM hKr oM (by rw [show ((6 :Nat):Int) = 0 from by omega]; exact op_add oM) | exact rel_op hc00 hs1 hkg.1 hkg.2.1 hkg.2.2.1 hkg.2.2.2 oM oM hKr oM (by rw [show ((6 :Nat):Int) = 0 from by omega]; exact op_sub oM) | exact rel_op hc00 hs1 hkg.1 hkg.2.1 hkg.2.2.1 hkg.2.2.2 oM oM hKr oM (by rw [show ((6 :Nat):Int) = 0 from by omega]; exact op_mul oM) | exact rel_op hc00 hs1 hkg.1 hkg.2.1 hkg.2.2.1 hkg.2.2.2 oM oM hKr oM (by rw [show ((6 :Nat):Int) = 0 from by omega]; exact op_neg oM) | exact rel_op hc00 hs1 hkg.1 hkg.2.1 hkg.2.2.1 hkg.2.2.2 oM oM hKr oM (by rw [show ((6 :Nat):Int) = 0 from by omega]; exact op_div oM oM) | exact rel_op hc00 hs1 hkg.1 hkg.2.1 hkg.2.2.1 hkg.2.2.2 oM oM hKr oM (op_div0 oM oM))⟩
              ·
               refine q_eql false rfl rfl (decide_eq_false hc129) zN (lw_nil (c_cond_f rfl (wp_skip (wp_seq (wp_draw _ [0,0,1,0,0,1,3,0] mixed (by kernel_rfl) (lw_tv 1 rfl (q_idx (v:=v66) 0 u37 ti25 rfl rfl hr66.slL rfl sD zN ?_)))))))
               obtain ⟨ue137,hl137,hr137⟩:=RN.getL (w:=w66) g1 [] (k:=0) hr66 sD
               have hln137:=hr137.lenL
               unfold maxLen at hln137
               refine q_load (p:=eptr v66 0 1) (.inl rfl) ue137 one25 rfl (hl137 _ (Chg.refl _ _).drew) zN (lw_tv 1 rfl (q_idx (v:=v66) 1 u37 ti25 rfl rfl hr66.slL rfl sD zN ?_))
               obtain ⟨ue138,hl138,hr138⟩:=RN.getL (w:=w66) g1 [] (k:=1) hr66 sD
               have hln138:=hr138.lenL
               unfold maxLen at hln138
               refine q_load (p:=eptr v66 1 1) (.inl rfl) ue138 one25 rfl (hl138 _ (Chg.refl _ _).drew) zN (lw_call 104 [] [] [ue137,ue138] rfl rfl cf104 zN (c_impl_quotient _ _ _ _ _ (hr137).rd (hr138).rd z92_5 z92_4 (by have:=hK1.1; omega) (by exact hK0.2) (by exact hK1.2)) ?_)
               rintro e139 w139 ⟨v139_0,rfl,hX139,hO139_0⟩
               refine ⟨_,rfl,hX139,?_⟩
               replace hX139:=hX139.of_drew
               have hzs139:=hX139.size
               have hE139:Chg [g] w w139:=hE66.ext hX139
               have hB66x139:=hB66.ext hX139
               have hF70x139:=hF70.ext hX139
               have hN140:=hr66.ext g2 hX139
               have hN141:=hr127.ext g1 hX139
               have hN142:=hr137.ext g1 hX139
               have hN143:=hr138.ext g1 hX139
               replace hO139_0:=hO139_0.low (B':=w66.heap.size) (Nat.le_refl _)
               refine lw_tvn 1 rfl (wp_ret ?_)
               exact post_ret [6] rfl v139_0 rfl ⟨v139_0,quoS (x66.getD 0 []) (x66.getD 1 []),s66,c66,rfl,hE139,hB66x139,(RN.of_fr1 hO139_0 (fun b hb=>by have:=hS b hb; omega)),z92_3,oM,oM,z92_0⟩
end Go.Proofs.Ytemfgblmfahllaa
namespace Go.Proofs.Ytemfgblmfahllaa
open Go Go.RowKit
set_option linter.unusedVariables false
set_option linter.unusedSimpArgs false
set_option maxHeartbeats 4000000
set_option maxRecDepth 100000
attribute [local irreducible] LW
theorem c_value:∀ F d,PV F d:=by
 intro F
 induction F using Nat.strongRecOn with
 | _ F ihF =>
  intro d
  induction d using Nat.strongRecOn with
  | _ d ihd =>
   intro w S g vp dp o s0 c0 p ve ex vv env hS hgS hB0 hp ho hs0 hc0 hex henv hqenv hvp hF hwf hse hdp
   exact c_impl_evaluation_value w S F g vp dp o s0 c0 p d ve ex vv env hS hgS hB0 hp ho hs0 hc0 hex henv hqenv hvp hF hwf hse hdp ihF ihd
theorem c_alls (F d:Nat):PA F d:=c_all F d fun d' _=>c_value F d'
theorem c_impl_Program_evaluated (w:World) (dp:Nat) (vp:Value) (p:List Fn) (f:Int) (va:Value) (a:List (List Int)) (o:Nat) (hp:RP [] dp w.heap vp p) (_hf:-9223372036854775808≤f∧f≤9223372036854775807) (ha:RN [] (rdL (rdL rI)) w.heap va a) (hqa:CapS va) (hvp:VPr p) (hf:0≤f∧f < ((p.length :Nat):Int)) (hl:((a.length :Nat):Int) = (p.getD f.toNat Fn.zero).params) (hse:SrE (o + 1) a) (ho:o≤12) :
  Calls Try.prog 86 #[(.agg #[vp]),.int .i64 f,va,.int .i64 ((o :Nat):Int)] w (fun e w'=>∃ v0:Value,e = .returned (.tuple #[v0,.int .i64 ((evT p (o + 1) f.toNat a :Nat):Int),.int .i64 (evD p (o + 1) f.toNat a)])∧Ext w w'∧Fr (owL (owL rI 2) 25) w.heap.size w'.heap.size w'.heap v0 (evR p (o + 1) f.toNat a)∧EvP p (o + 1) f.toNat a):=by
 refine calls_mk [(.agg #[vp]),.int .i64 f,va,.int .i64 ((o :Nat):Int)] 56 Try.func86 rfl rfl sM ?_
 have hE0:Ext w w:=Ext.refl w
 have hl_vp:=hp.lenle
 unfold maxLen at hl_vp
 have hl_va:=ha.lenL
 unfold maxLen at hl_va
 refine wp_seq (wp_plain _ [3,0,0,0] rfl (r_boxA (cs:=#[vp]) rfl zN fun w1 hX1 hz1 hB1=>?_))
 have hzs1:=hX1.size
 have hE1:=hE0.trans hX1
 replace hB1:BX w1.heap w.heap.size [vp]:=hB1
 refine lw_tvn 3 rfl (wp_seq (wp_plain _ [2,0,0,3,0] rfl (q_loadA (p:=(.pointer (some ⟨w.heap.size,0,none⟩))) (.inr rfl) [vp] agg49 rfl (fun wq9 hw9=>LD.of_box (BX.ext (w:=w1) hB1 hw9)) rfl zN (lw_tv 1 rfl ?_))))
 have hbd2:∀ (vp:Value) (m2_0:Nat) (h2_0:isSl vp m2_0) (wq:World),(Instr.build 120 #[(0,(.agg #[vp])),(1,(.int .i64 ((o :Nat):Int)))]).run Try.prog wq = .ok (.agg #[vp,(.int .i64 ((o :Nat):Int)),(.int .i64 0),(.int .i64 0)]) wq:=by intro vp m2_0 h2_0 wq; obtain ⟨a2_0,c2_0,rfl,_⟩:=h2_0; kernel_rfl
 refine q_build (ps:=#[(0,(.agg #[vp])),(1,(.int .i64 ((o :Nat):Int)))]) (.agg #[vp,(.int .i64 ((o :Nat):Int)),(.int .i64 0),(.int .i64 0)]) (by simp only [List.map_toArray,List.map_cons,List.map_nil]; rfl) (fun wq=>hbd2 vp _ hp.isSl wq) zN ?_
 have hq4:=hB1.lt
 refine r_boxA (cs:=#[vp,(.int .i64 ((o :Nat):Int)),(.int .i64 0),(.int .i64 0)]) rfl zN fun w3 hX3 hz3 hB3=>?_
 have hzs3:=hX3.size
 have hE3:=hE1.trans hX3
 have hB1x3:=hB1.ext hX3
 replace hB3:BX w3.heap w1.heap.size [vp,(.int .i64 ((o :Nat):Int)),(.int .i64 0),(.int .i64 0)]:=hB3
 refine lw_tvn 1 rfl (wp_seq (wp_plain _ [0,0,2,0,0,0,2,0,4,0] rfl ?_))
 have hpr:=hvp.par f.toNat oM
 have hou:=hvp.outs f.toNat oM
 refine lw_tv 1 rfl (q_fldP (p:=(.pointer (some ⟨w.heap.size,0,none⟩))) (b:=w.heap.size) (o:=0) 0 fd49_0 rfl rfl zN (q_load (p:=(padd (.pointer (some ⟨w.heap.size,0,none⟩)) 0)) (.inr rfl) vp one47 rfl (hB1x3.ldp (i:=0) sM) zN (lw_tv 1 rfl (q_idx (v:=vp) ((f).toNat) u47 tiS46 rfl rfl hp.isSl oM sD zN ?_))))
 obtain ⟨cs5,hr5,hl5⟩:=hp.get (good_rFn dp) Fn.zero (k:=((f).toNat)) sD
 obtain ⟨ve5,rfl,hx5⟩:=RF.of hr5
 have hln5:=hx5.rn.lenle
 unfold maxLen at hln5
 refine q_fldL (p:=eptr vp ((f).toNat) 3) 2 fd46_2 rfl (hl5 _ (Chg.of_ext [] hE3)) zN (q_load (p:=(padd (eptr vp ((f).toNat) 3) 2)) (.inr rfl) ve5 one41 rfl ((hl5 _ (Chg.of_ext [] hE3)).ld (i:=2) (by simp [exC,fnC])) zN (lw_tv 1 rfl ?_))
 refine lw_callE 90 [] [] [(.pointer (some ⟨w1.heap.size,0,none⟩)),ve5,va] rfl rfl cf90 zN (c_alls (f.toNat) dp _ [w1.heap.size] w1.heap.size vp dp (o) (0) (0) (p) ve5 ((p.getD ((f).toNat) Fn.zero).outs) va (a) (fun b hb=>(by have:=List.mem_singleton.1 hb; omega:b < w3.heap.size)) (List.mem_singleton.2 rfl) hB3 ((hp.add (F:=[w1.heap.size]) (good_rdS (good_rFn dp)) (fun b hb=>by have:=List.mem_singleton.1 hb; omega)).ext (good_rdS (good_rFn dp)) hE3) oM oM oM ((hx5.rn.add (F:=[w1.heap.size]) (good_rdS (good_rEx dp)) (fun b hb=>by have:=List.mem_singleton.1 hb; omega)).ext (good_rdS (good_rEx dp)) hE3) ((ha.add (F:=[w1.heap.size]) g2 (fun b hb=>by have:=List.mem_singleton.1 hb; omega)).ext g2 hE3) hqa (by exact hvp) oM (by intro k hk; have h9:=hvp.wf f.toNat oM k hk; rw [hl]; exact h9) (by exact hse) (by intro k hk; have:=hvp.deep f.toNat oM k hk; omega) oM) ?_
 rintro e6 w6 ⟨v6,x6,s6,c6,rfl,hC6,hB6,hr6,hse6,hsb6,hcb6,hrl6⟩
 refine ⟨_,rfl,?_⟩
 have hzs6:=hC6.size
 have hE6:Ext w w6:=hC6.below hE3 (fun b hb=>by have:b = w1.heap.size:=(by simpa using hb); omega) hE3.size
 have hF9:=hB1x3.chg hC6 (fun hm=>by have:=List.mem_singleton.1 hm; omega)
 have hsn6:=hse6.2.1
 have hsr6:=hse6.2.2
 have hcp6:=hse6.1
 have hrt6:=hr6.rt g2
 have hRL:=hrl6
 have hCB:=hcb6
 have hEP:=EvP.mk' hRL hCB hsb6 hsn6 hsr6
 have hXS:=hsr6
 have hXL:=hsn6
 refine lw_tvn 1 rfl (wp_seq (wp_seq (wp_plain _ [0,0,0,2,0] rfl (lw_tv 1 rfl (q_nil rfl zN (q_fldP (p:=(.pointer (some ⟨w1.heap.size,0,none⟩))) (b:=w1.heap.size) (o:=0) 3 fd120_3 rfl rfl zN (q_load (p:=(padd (.pointer (some ⟨w1.heap.size,0,none⟩)) 3)) (.inr rfl) (.int .i64 c6) one2 rfl (hB6.ldp (i:=3) sM) zN ?_)))))))
 by_cases hc11:c6≠((0 :Nat):Int)
 ·
  exact q_neq true rfl rfl (decide_eq_true hc11) zN (lw_nil (c_cond_t rfl (wp_seq (wp_draw _ [0,0,0,1,0,0,0] mixed (by kernel_rfl) (lw_tv 1 rfl (q_nil rfl zN (q_fldP (p:=(.pointer (some ⟨w1.heap.size,0,none⟩))) (b:=w1.heap.size) (o:=0) 3 fd120_3 rfl rfl zN (q_load (p:=(padd (.pointer (some ⟨w1.heap.size,0,none⟩)) 3)) (.inl rfl) (.int .i64 c6) one2 rfl (hB6.ldp (i:=3) sM) zN (lw_tvn 3 rfl (wp_ret (t_ret (post_ret [8,9,10] rfl (.tuple #[(.slice none 0 0),(.int .i64 ((0 :Nat):Int)),(.int .i64 c6)]) rfl ⟨(.slice none 0 0),(by rw [evT_e (ev_err hRL oM),evD_e (ev_err hRL oM)] <;> rfl),hE6.drew,(by rw [evR_e (ev_err hRL oM)]; exact frNil _ _ _),hEP⟩))))))))))))
 ·
  refine q_neq false rfl rfl (decide_eq_false hc11) zN (lw_nil (c_cond_f rfl (wp_skip (wp_seq (wp_plain _ [3,0] rfl (r_nil (owL rI 2) o1 u37 ti25 zN fun v12 w12 hX12 hz12 hO12=>?_))))))
  have hzs12:=hX12.size
  have hE12:=hE6.trans hX12
  have hF9x12:=hF9.ext hX12
  have hB6x12:=hB6.ext hX12
  have hN13:=hrt6.ext g2 hX12
  refine lw_tvn 1 rfl (wp_seq (wp_seq (wp_plain _ [0,0,0] rfl (lw_tv 1 rfl (q_len (v:=v6) u37 rfl hN13.slL zN (lw_tvn 1 rfl (wp_block ?_)))))))
  refine c_loop (S:=Nat × Value) (fun (⟨k,vo⟩:Nat × Value)=>([(13,vo),(41,(.int .i64 ((k :Nat):Int))),(11,(.pointer (some ⟨w1.heap.size,0,none⟩))),(39,v6),(40,(.int .i64 ((x6.length :Nat):Int)))]:List (Nat × Value))) (fun (⟨k,vo⟩:Nat × Value) (W:World)=>Ext w W∧Fr (owL (owL rI 2) 25) w6.heap.size W.heap.size W.heap vo ((x6).take k)∧BX W.heap w1.heap.size [vp,(.int .i64 ((o :Nat):Int)),(.int .i64 ((s6 :Nat):Int)),(.int .i64 c6)]∧k≤(x6).length∧RT w6.heap.size (rdL (rdL rI)) W.heap v6 x6∧w6.heap.size≤W.heap.size∧w1.heap.size < w6.heap.size∧w6.heap.size≤w6.heap.size∧w6.heap.size≤W.heap.size) (fun (⟨k,vo⟩:Nat × Value)=>(x6).length - k) (0,v12) ⟨rfl,rfl,rfl,rfl,rfl,trivial⟩ ⟨hE12,hO12.up o2,hB6x12,sD,(by assumption),oM,oM,oM,oM⟩ ?_
  clear hE0 hz1 hX1 hzs1 hE1 hz3 hX3 hzs3 hE3 hln5 hC6 hF9 hO12 hz12 hX12 hzs12 hE12 hF9x12
  rintro ⟨k,vo⟩ ρ18 w18 ⟨hE18,hL18_0,hL18_1,hp18_0,hrk14,hkB15,hkg16,hkt17,hkB19⟩
  have hzs18:w.heap.size≤w18.heap.size:=hE18.size
  have hq20:=hL18_1.lt
  refine wp_seq (wp_plain _ [0] rfl ?_)
  by_cases hc21:((k :Nat):Int) < ((x6.length :Nat):Int)
  ·
   refine q_lss true rfl rfl (decide_eq_true hc21) zN (lw_nil (wp_seq (c_cond_t rfl (wp_skip (wp_seq (wp_block (wp_seq (wp_plain _ [0,2,0] rfl ?_))))))))
   have hkx:=hXS k oM
   have hkl:=hkx.1
   refine q_idx (v:=v6) k u37 ti25 rfl rfl hrk14.slL rfl sD zN ?_
   obtain ⟨ue22,hl22,hr22⟩:=RT.getL g1 [] (k:=k) hrk14 sD
   have hln22:=hr22.lenL
   unfold maxLen at hln22
   refine q_load (p:=eptr v6 k 1) (.inr rfl) ue22 one25 rfl hl22 zN (lw_tvn 1 rfl (wp_plain _ [0,0,3,3,4,0] rfl (lw_tv 2 rfl (lw_call 48 [] [] [ue22] rfl rfl cf48 zN (c_slices_Clone___int64_int64_ _ _ _ hr22.rd oM) ?_))))
   rintro e23 w23 ⟨v23_0,rfl,hX23,hO23_0⟩
   refine ⟨_,rfl,hX23,?_⟩
   have hzs23:=hX23.size
   have hE23:=hE18.trans hX23
   have hL18_0x23:=hL18_0.ext (o2) hX23
   have hL18_1x23:=hL18_1.ext hX23
   have hN24:=hrk14.ext g2 hX23
   have hN25:=hr22.ext g1 hX23
   refine r_one (u:=v23_0) (B:=w18.heap.size) o1 u37 ti25 rfl rfl hO23_0 (by first | exact Nat.le_refl _ | omega) zN fun v26 w26 hX26 hz26 hO26=>?_
   have hzs26:=hX26.size
   have hE26:=hE23.trans hX26
   have hL18_0x26:=hL18_0x23.ext (o2) hX26
   have hL18_1x26:=hL18_1x23.ext hX26
   have hN27:=hN24.ext g2 hX26
   have hN28:=hN25.ext g1 hX26
   refine e_appF o1 (v:=vo) (a:=v26) u37 ti25 rfl rfl rfl hL18_0x26 oM hO26 oM oM sD (by unfold maxLen; first | omega | assumption | (simp; done) | (simp; omega)) zN fun v29 w29 F29 hC29 hF29 hO29=>?_
   have hE29:Ext w w29:=hC29.below hE26 (fun c hc=>Nat.le_trans hE6.size (hF29 c hc).1) hE26.size
   have hzs29:=hC29.size
   have hN30:=hN27.chg g2 hC29 (fun c hc=>by have:=hF29 c hc; omega)
   have hN31:=hN28.chg g1 hC29 (fun c hc=>by have:=hF29 c hc; omega)
   have hF32:=hL18_1x26.chg hC29 (fun hm=>by have:=hF29 _ hm; omega)
   refine lw_tvn 1 rfl (wp_plain _ [0,0] rfl (q_add ((k + 1 :Nat):Int) rfl rfl (w64n oM sD) zN (lw_tvn 1 rfl ?_)))
   exact ⟨((k + 1),v29),_,rfl,⟨rfl,rfl,rfl,rfl,rfl,trivial⟩,⟨hE29,(by rw [take_snoc [] oM]; exact hO29.up o2),hF32,sD,(by assumption),oM,oM,oM,oM⟩,by first | omega | (dsimp only; omega)⟩
  ·
   refine q_lss false rfl rfl (decide_eq_false hc21) zN (lw_nil (wp_seq (c_cond_f rfl (wp_exit (t_exit (t_exit (c_exit_here (wp_seq (wp_draw _ [0,0,0,0,1,0,0,0] mixed (by kernel_rfl) (lw_tv 2 rfl (q_nil rfl zN (q_fldP (p:=(.pointer (some ⟨w1.heap.size,0,none⟩))) (b:=w1.heap.size) (o:=0) 2 fd120_2 rfl rfl zN (q_load (p:=(padd (.pointer (some ⟨w1.heap.size,0,none⟩)) 2)) (.inl rfl) (.int .i64 ((s6 :Nat):Int)) one2 rfl (hL18_1.ldp (i:=2) sM) zN (lw_tvn 3 rfl (wp_ret ?_)))))))))))))))
   exact post_ret [8,9,10] rfl (.tuple #[vo,(.int .i64 ((s6 :Nat):Int)),(.int .i64 ((0 :Nat):Int))]) rfl ⟨vo,(by rw [evT_o (ev_ok hRL oM),evD_o (ev_ok hRL oM)] <;> rfl),hE18.drew,(by have h:=(hL18_0.up o2).low hE6.size; rw [evR_o (ev_ok hRL oM)]; rwa [List.take_of_length_le oM] at h),hEP⟩
end Go.Proofs.Ytemfgblmfahllaa
namespace Go.Proofs.Ytemfgblmfahllaa
open Go Go.RowKit
set_option linter.unusedVariables false
set_option linter.unusedSimpArgs false
set_option maxHeartbeats 4000000
set_option maxRecDepth 100000
attribute [local irreducible] LW
theorem c_impl_ExprSize (w:World) (dex:Nat) (ve:Value) (ex:Ex) (hex:RX [] dex w.heap ve ex) (hs:ex.size≤1000000000) :
  Calls Try.prog 97 #[(.agg #[(.int .i64 ex.kind),(.int .i64 ex.num),(.int .i64 ex.pick),(.int .i64 ex.count),ve])] w (fun e w'=>e = .returned (.int .i64 ((ex.size :Nat):Int))∧Ext w w'):=by
 induction dex using Nat.strongRecOn generalizing w ve ex
 rename_i dex ih
 refine calls_mk [(.agg #[(.int .i64 ex.kind),(.int .i64 ex.num),(.int .i64 ex.pick),(.int .i64 ex.count),ve])] 19 Try.func97 rfl rfl sM ?_
 have hE0:Ext w w:=Ext.refl w
 have hl_ve:=hex.rn.lenle
 unfold maxLen at hl_ve
 have hsk:=size_kids ex
 refine wp_seq (wp_plain _ [3,0] rfl (r_boxA (cs:=#[(.int .i64 ex.kind),(.int .i64 ex.num),(.int .i64 ex.pick),(.int .i64 ex.count),ve]) rfl zN fun w1 hX1 hz1 hB1=>?_))
 have hzs1:=hX1.size
 have hE1:=hE0.trans hX1
 replace hB1:BX w1.heap w.heap.size [(.int .i64 ex.kind),(.int .i64 ex.num),(.int .i64 ex.pick),(.int .i64 ex.count),ve]:=hB1
 refine lw_tvn 1 rfl (wp_seq (wp_plain _ [0] rfl (lw_tvn 1 rfl (wp_seq (wp_seq (wp_plain _ [0,2,0,0] rfl (q_fldP (p:=(.pointer (some ⟨w.heap.size,0,none⟩))) (b:=w.heap.size) (o:=0) 4 fd43_4 rfl rfl zN (q_load (p:=(padd (.pointer (some ⟨w.heap.size,0,none⟩)) 4)) (.inr rfl) ve one41 rfl (hB1.ldp (i:=4) sM) zN (q_len (v:=ve) u41 rfl hex.rn.isSl zN (lw_tvn 1 rfl (wp_block ?_)))))))))))
 refine c_loop (S:=Nat × Nat) (fun (⟨k,sz⟩:Nat × Nat)=>([(3,(.int .i64 ((sz :Nat):Int))),(9,(.int .i64 ((k :Nat):Int))),(7,ve),(8,(.int .i64 ((ex.kids.length :Nat):Int)))]:List (Nat × Value))) (fun (⟨k,sz⟩:Nat × Nat) (W:World)=>Ext w W∧k≤ex.kids.length∧sz = 1 + Ex.sizes (ex.kids.take k)) (fun (⟨k,sz⟩:Nat × Nat)=>ex.kids.length - k) (0,1) ⟨rfl,rfl,rfl,rfl,trivial⟩ ⟨hE1,sD,(by rw [List.take_zero,sizes_nil])⟩ ?_
 clear hE0 hz1 hX1 hzs1 hE1
 rintro ⟨k,sz⟩ ρ2 w2 ⟨hE2,hp2_0,hsz⟩
 have hzs2:w.heap.size≤w2.heap.size:=hE2.size
 refine wp_seq (wp_plain _ [0] rfl ?_)
 by_cases hc3:((k :Nat):Int) < ((ex.kids.length :Nat):Int)
 ·
  refine q_lss true rfl rfl (decide_eq_true hc3) zN (lw_nil (wp_seq (c_cond_t rfl (wp_skip (wp_seq (wp_block (wp_seq (wp_plain _ [0,2,3,4] rfl ?_))))))))
  have hst:=sizes_step (l:=ex.kids) (k:=k) oM
  have hle:=sizes_take ex.kids (k + 1)
  have hdt:=deeps_step (l:=ex.kids) (k:=k) oM
  have hda:=deep_size (ex.kids.getD k Ex.zero)
  refine q_idx (v:=ve) k u41 tiS43 rfl rfl hex.rn.isSl rfl sD zN ?_
  obtain ⟨cs4,hr4,hl4⟩:=hex.rn.get (good_rEx dex) Ex.zero (k:=k) sD
  obtain ⟨dd4,ve4,hd4,rfl,hx4⟩:=RX.of hr4
  have hln4:=hx4.rn.lenle
  unfold maxLen at hln4
  refine q_loadA (p:=eptr ve k 5) (.inr rfl) [(.int .i64 ((ex.kids.getD k Ex.zero).kind)),(.int .i64 ((ex.kids.getD k Ex.zero).num)),(.int .i64 ((ex.kids.getD k Ex.zero).pick)),(.int .i64 ((ex.kids.getD k Ex.zero).count)),ve4] agg43 rfl (fun wq9 hw9=>hl4 wq9 (Chg.of_ext [] (hE2.trans hw9))) rfl zN (r_allocA (z:=.agg #[.int .i64 0,.int .i64 0,.int .i64 0,.int .i64 0,.slice none 0 0]) zr43 zN fun w5 hX5 hz5 hB5=>?_)
  have hzs5:=hX5.size
  have hE5:=hE2.trans hX5
  replace hB5:BX w5.heap w2.heap.size [(.int .i64 0),(.int .i64 0),(.int .i64 0),(.int .i64 0),(.slice none 0 0)]:=hB5
  refine e_setA (vs:=[(.int .i64 ((ex.kids.getD k Ex.zero).kind)),(.int .i64 ((ex.kids.getD k Ex.zero).num)),(.int .i64 ((ex.kids.getD k Ex.zero).pick)),(.int .i64 ((ex.kids.getD k Ex.zero).count)),ve4]) agg43 rfl rfl hx4.ones hB5 rfl rfl zN fun w6 hC6 hz6 hB6=>?_
  replace hB6:BX w6.heap w2.heap.size [(.int .i64 ((ex.kids.getD k Ex.zero).kind)),(.int .i64 ((ex.kids.getD k Ex.zero).num)),(.int .i64 ((ex.kids.getD k Ex.zero).pick)),(.int .i64 ((ex.kids.getD k Ex.zero).count)),ve4]:=hB6
  have hE6:Ext w w6:=hC6.below hE5 (fun c hc=>by have:=List.mem_singleton.1 hc; omega) hE5.size
  have hzs6:=hC6.size
  refine lw_nil (wp_plain _ [0,2,3,0,0] rfl (lw_tv 1 rfl (q_loadA (p:=(.pointer (some ⟨w2.heap.size,0,none⟩))) (.inr rfl) [(.int .i64 ((ex.kids.getD k Ex.zero).kind)),(.int .i64 ((ex.kids.getD k Ex.zero).num)),(.int .i64 ((ex.kids.getD k Ex.zero).pick)),(.int .i64 ((ex.kids.getD k Ex.zero).count)),ve4] agg43 rfl (fun wq9 hw9=>LD.of_box (BX.ext (w:=w6) hB6 hw9)) rfl zN (lw_call 97 [] [] [(.agg #[(.int .i64 ((ex.kids.getD k Ex.zero).kind)),(.int .i64 ((ex.kids.getD k Ex.zero).num)),(.int .i64 ((ex.kids.getD k Ex.zero).pick)),(.int .i64 ((ex.kids.getD k Ex.zero).count)),ve4])] rfl rfl cf97 zN (ih dd4 oM _ ve4 (ex.kids.getD k Ex.zero) (hx4.ext hE6) oM) ?_))))
  rintro e7 w7 ⟨rfl,hX7⟩
  refine ⟨_,rfl,hX7,?_⟩
  have hzs7:=hX7.size
  have hE7:=hE6.trans hX7
  refine q_add ((sz + (ex.kids.getD k Ex.zero).size :Nat):Int) rfl rfl (w64n oM oM) zN (lw_tvn 1 rfl (wp_plain _ [0,0] rfl (q_add ((k + 1 :Nat):Int) rfl rfl (w64n oM sD) zN (lw_tvn 1 rfl ?_))))
  exact ⟨((k + 1),(sz + (ex.kids.getD k Ex.zero).size)),_,rfl,⟨rfl,rfl,rfl,rfl,trivial⟩,⟨hE7,sD,oM⟩,by first | omega | (dsimp only; omega)⟩
 ·
  exact q_lss false rfl rfl (decide_eq_false hc3) zN (lw_nil (wp_seq (c_cond_f rfl (wp_exit (t_exit (t_exit (c_exit_here (wp_seq (wp_plain _ [0,0] rfl (lw_tvn 2 rfl (wp_ret (post_ret [2] rfl (.int .i64 ((sz :Nat):Int)) rfl ⟨(ret_int (by rw [hsz,sizes_all oM,hsk])),hE2⟩))))))))))))
theorem c_impl_ExprDepth (w:World) (dex:Nat) (ve:Value) (ex:Ex) (hex:RX [] dex w.heap ve ex) (hs:ex.size≤1000000000) :
  Calls Try.prog 107 #[(.agg #[(.int .i64 ex.kind),(.int .i64 ex.num),(.int .i64 ex.pick),(.int .i64 ex.count),ve])] w (fun e w'=>e = .returned (.int .i64 ((ex.deep :Nat):Int))∧Ext w w'):=by
 induction dex using Nat.strongRecOn generalizing w ve ex
 rename_i dex ih
 refine calls_mk [(.agg #[(.int .i64 ex.kind),(.int .i64 ex.num),(.int .i64 ex.pick),(.int .i64 ex.count),ve])] 20 Try.func107 rfl rfl sM ?_
 have hE0:Ext w w:=Ext.refl w
 have hl_ve:=hex.rn.lenle
 unfold maxLen at hl_ve
 have hsk:=size_kids ex
 have hdk:=deep_kids ex
 refine wp_seq (wp_plain _ [3,0] rfl (r_boxA (cs:=#[(.int .i64 ex.kind),(.int .i64 ex.num),(.int .i64 ex.pick),(.int .i64 ex.count),ve]) rfl zN fun w1 hX1 hz1 hB1=>?_))
 have hzs1:=hX1.size
 have hE1:=hE0.trans hX1
 replace hB1:BX w1.heap w.heap.size [(.int .i64 ex.kind),(.int .i64 ex.num),(.int .i64 ex.pick),(.int .i64 ex.count),ve]:=hB1
 refine lw_tvn 1 rfl (wp_seq (wp_plain _ [0] rfl (lw_tvn 1 rfl (wp_seq (wp_seq (wp_plain _ [0,2,0,0] rfl (q_fldP (p:=(.pointer (some ⟨w.heap.size,0,none⟩))) (b:=w.heap.size) (o:=0) 4 fd43_4 rfl rfl zN (q_load (p:=(padd (.pointer (some ⟨w.heap.size,0,none⟩)) 4)) (.inr rfl) ve one41 rfl (hB1.ldp (i:=4) sM) zN (q_len (v:=ve) u41 rfl hex.rn.isSl zN (lw_tvn 1 rfl (wp_block ?_)))))))))))
 refine c_loop (S:=Nat × Nat) (fun (⟨k,sz⟩:Nat × Nat)=>([(3,(.int .i64 ((sz :Nat):Int))),(9,(.int .i64 ((k :Nat):Int))),(7,ve),(8,(.int .i64 ((ex.kids.length :Nat):Int)))]:List (Nat × Value))) (fun (⟨k,sz⟩:Nat × Nat) (W:World)=>Ext w W∧k≤ex.kids.length∧sz = Ex.deeps (ex.kids.take k)) (fun (⟨k,sz⟩:Nat × Nat)=>ex.kids.length - k) (0,0) ⟨rfl,rfl,rfl,rfl,trivial⟩ ⟨hE1,sD,(by rw [List.take_zero,deeps_nil])⟩ ?_
 clear hE0 hz1 hX1 hzs1 hE1
 rintro ⟨k,sz⟩ ρ2 w2 ⟨hE2,hp2_0,hsz⟩
 have hzs2:w.heap.size≤w2.heap.size:=hE2.size
 refine wp_seq (wp_plain _ [0] rfl ?_)
 by_cases hc3:((k :Nat):Int) < ((ex.kids.length :Nat):Int)
 ·
  refine q_lss true rfl rfl (decide_eq_true hc3) zN (lw_nil (wp_seq (c_cond_t rfl (wp_skip (wp_seq (wp_block (wp_seq (wp_plain _ [0,2,3,4] rfl ?_))))))))
  have hst:=sizes_step (l:=ex.kids) (k:=k) oM
  have hle:=sizes_take ex.kids (k + 1)
  have hdt:=deeps_step (l:=ex.kids) (k:=k) oM
  have hda:=deep_size (ex.kids.getD k Ex.zero)
  refine q_idx (v:=ve) k u41 tiS43 rfl rfl hex.rn.isSl rfl sD zN ?_
  obtain ⟨cs4,hr4,hl4⟩:=hex.rn.get (good_rEx dex) Ex.zero (k:=k) sD
  obtain ⟨dd4,ve4,hd4,rfl,hx4⟩:=RX.of hr4
  have hln4:=hx4.rn.lenle
  unfold maxLen at hln4
  refine q_loadA (p:=eptr ve k 5) (.inr rfl) [(.int .i64 ((ex.kids.getD k Ex.zero).kind)),(.int .i64 ((ex.kids.getD k Ex.zero).num)),(.int .i64 ((ex.kids.getD k Ex.zero).pick)),(.int .i64 ((ex.kids.getD k Ex.zero).count)),ve4] agg43 rfl (fun wq9 hw9=>hl4 wq9 (Chg.of_ext [] (hE2.trans hw9))) rfl zN (r_allocA (z:=.agg #[.int .i64 0,.int .i64 0,.int .i64 0,.int .i64 0,.slice none 0 0]) zr43 zN fun w5 hX5 hz5 hB5=>?_)
  have hzs5:=hX5.size
  have hE5:=hE2.trans hX5
  replace hB5:BX w5.heap w2.heap.size [(.int .i64 0),(.int .i64 0),(.int .i64 0),(.int .i64 0),(.slice none 0 0)]:=hB5
  refine e_setA (vs:=[(.int .i64 ((ex.kids.getD k Ex.zero).kind)),(.int .i64 ((ex.kids.getD k Ex.zero).num)),(.int .i64 ((ex.kids.getD k Ex.zero).pick)),(.int .i64 ((ex.kids.getD k Ex.zero).count)),ve4]) agg43 rfl rfl hx4.ones hB5 rfl rfl zN fun w6 hC6 hz6 hB6=>?_
  replace hB6:BX w6.heap w2.heap.size [(.int .i64 ((ex.kids.getD k Ex.zero).kind)),(.int .i64 ((ex.kids.getD k Ex.zero).num)),(.int .i64 ((ex.kids.getD k Ex.zero).pick)),(.int .i64 ((ex.kids.getD k Ex.zero).count)),ve4]:=hB6
  have hE6:Ext w w6:=hC6.below hE5 (fun c hc=>by have:=List.mem_singleton.1 hc; omega) hE5.size
  have hzs6:=hC6.size
  refine lw_nil (wp_plain _ [0,2,3,0,0] rfl (lw_tv 1 rfl (q_loadA (p:=(.pointer (some ⟨w2.heap.size,0,none⟩))) (.inr rfl) [(.int .i64 ((ex.kids.getD k Ex.zero).kind)),(.int .i64 ((ex.kids.getD k Ex.zero).num)),(.int .i64 ((ex.kids.getD k Ex.zero).pick)),(.int .i64 ((ex.kids.getD k Ex.zero).count)),ve4] agg43 rfl (fun wq9 hw9=>LD.of_box (BX.ext (w:=w6) hB6 hw9)) rfl zN (lw_call 107 [] [] [(.agg #[(.int .i64 ((ex.kids.getD k Ex.zero).kind)),(.int .i64 ((ex.kids.getD k Ex.zero).num)),(.int .i64 ((ex.kids.getD k Ex.zero).pick)),(.int .i64 ((ex.kids.getD k Ex.zero).count)),ve4])] rfl rfl cf107 zN (ih dd4 oM _ ve4 (ex.kids.getD k Ex.zero) (hx4.ext hE6) oM) ?_))))
  rintro e7 w7 ⟨rfl,hX7⟩
  refine ⟨_,rfl,hX7,?_⟩
  have hzs7:=hX7.size
  have hE7:=hE6.trans hX7
  refine q_max ((max sz ((ex.kids.getD k Ex.zero).deep) :Nat):Int) oM rfl rfl zN (lw_tvn 1 rfl (wp_plain _ [0,0] rfl (q_add ((k + 1 :Nat):Int) rfl rfl (w64n oM sD) zN (lw_tvn 1 rfl ?_))))
  exact ⟨((k + 1),(max sz ((ex.kids.getD k Ex.zero).deep))),_,rfl,⟨rfl,rfl,rfl,rfl,trivial⟩,⟨hE7,sD,oM⟩,by first | omega | (dsimp only; omega)⟩
 ·
  refine q_lss false rfl rfl (decide_eq_false hc3) zN (lw_nil (wp_seq (c_cond_f rfl (wp_exit (t_exit (t_exit (c_exit_here (wp_seq (wp_plain _ [0,0,0] rfl ?_)))))))))
  have h8:=deeps_all (l:=ex.kids) (k:=k) oM
  have h9:=deep_size ex
  exact lw_tv 1 rfl (q_add ((sz + 1 :Nat):Int) rfl rfl (w64n oM oM) zN (lw_tvn 1 rfl (wp_ret (post_ret [2] rfl (.int .i64 ((sz + 1 :Nat):Int)) rfl ⟨(ret_int (by rw [hsz,deeps_all oM,hdk])),hE2⟩))))
end Go.Proofs.Ytemfgblmfahllaa
namespace Go.Proofs.Ytemfgblmfahllaa
open Go Go.RowKit
set_option linter.unusedVariables false
set_option linter.unusedSimpArgs false
set_option maxHeartbeats 4000000
set_option maxRecDepth 100000
attribute [local irreducible] LW
theorem not_f {b:Bool} (h:(!b) = false):b = true:=by cases b <;> simp_all
theorem not_t {b:Bool} (h:(!b) = true):b = false:=by cases b <;> simp_all
theorem wf_ret {p:List Fn} {funcs vars:Int} {e:Ex} {b:Bool} (h:e.kids.length = 0∨b = false) (hb:wfN p funcs vars e = b):Ending.returned (.bool b) = .returned (.bool (wf p funcs e vars)):=by
  rcases h with h | h
  · rw [wf_leaf h,hb]
  · subst h; rw [← wf_bad hb]
theorem z108_0 {p:Prop} (h:p:=by first | exact ret_bool (wf_good hwn fun j hj=>hall j oM) | exact ret_bool (wf_kid (k:=k) oM (by first | (rw [if_pos oM]) | (rw [if_neg oM])) (not_t ‹_›)) | exact wf_ret (by first | exact .inr rfl | (left; omega) | (left; simp_all <;> omega)) (by (have hp9:=hpl.symm; clear hpl; unfold wfN inB; first | (simp [*]; done) | (simp [*]; omega) | (simp [*] <;> intros <;> omega) | (simp_all <;> omega)))):p:=h
theorem z108_1 {p:Prop} (h:p:=by (have hp9:=hpl.symm; clear hpl; unfold wfN inB; first | (simp [*]; done) | (simp [*]; omega) | (simp [*] <;> intros <;> omega) | (simp_all <;> omega))):p:=h
theorem z108_2 {p:Prop} (h:p:=by intro j hj; by_cases e9:j = k; (rw [e9]; first | (rw [if_pos oM]; exact not_f ‹_›) | (rw [if_neg oM]; exact not_f ‹_›)); exact hall j oM):p:=h
theorem z108_3 {p:Prop} (h:p:=by unfold plainB; first | (simp [*]; done) | (simp [*]; intros; omega) | (simp [*]; omega)):p:=h
theorem z108_4 {p:Prop} (h:p:=by first | exact (decide_eq_true oM).symm | exact decide_eq_decide.2 oM):p:=h
theorem c_impl_checker_isFormed (w:World) (dp:Nat) (vp:Value) (p:List Fn) (funcs:Int) (dex:Nat) (ve:Value) (ex:Ex) (vars:Int) (hp:RP [] dp w.heap vp p) (_hfuncs:-9223372036854775808≤funcs∧funcs≤9223372036854775807) (hex:RX [] dex w.heap ve ex) (_hvars:-9223372036854775808≤vars∧vars≤9223372036854775807) (hs:0≤vars∧vars + (ex.deep:Int)≤2000000000) (hf:0≤funcs∧funcs≤(p.length:Int)) :
  Calls Try.prog 108 #[(.agg #[vp,(.int .i64 funcs)]),(.agg #[(.int .i64 ex.kind),(.int .i64 ex.num),(.int .i64 ex.pick),(.int .i64 ex.count),ve]),.int .i64 vars] w (fun e w'=>e = .returned (.bool (wf p funcs ex vars))∧Ext w w'):=by
 induction dex using Nat.strongRecOn generalizing w dp vp p funcs ve ex vars
 rename_i dex ih
 refine calls_mk [(.agg #[vp,(.int .i64 funcs)]),(.agg #[(.int .i64 ex.kind),(.int .i64 ex.num),(.int .i64 ex.pick),(.int .i64 ex.count),ve]),.int .i64 vars] 177 Try.func108 rfl rfl sM ?_
 have hE0:Ext w w:=Ext.refl w
 have hl_vp:=hp.lenle
 unfold maxLen at hl_vp
 have hl_ve:=hex.rn.lenle
 unfold maxLen at hl_ve
 have hdk:=deep_kids ex
 refine wp_seq (wp_plain _ [3,3,0] rfl (r_boxA (cs:=#[vp,(.int .i64 funcs)]) rfl zN fun w1 hX1 hz1 hB1=>?_))
 have hzs1:=hX1.size
 have hE1:=hE0.trans hX1
 replace hB1:BX w1.heap w.heap.size [vp,(.int .i64 funcs)]:=hB1
 have hq3:=hB1.lt
 refine r_boxA (cs:=#[(.int .i64 ex.kind),(.int .i64 ex.num),(.int .i64 ex.pick),(.int .i64 ex.count),ve]) rfl zN fun w2 hX2 hz2 hB2=>?_
 have hzs2:=hX2.size
 have hE2:=hE1.trans hX2
 have hB1x2:=hB1.ext hX2
 replace hB2:BX w2.heap w1.heap.size [(.int .i64 ex.kind),(.int .i64 ex.num),(.int .i64 ex.pick),(.int .i64 ex.count),ve]:=hB2
 refine lw_tvn 1 rfl (wp_seq (wp_plain _ [0,2,0,0] rfl (q_fldP (p:=(.pointer (some ⟨w1.heap.size,0,none⟩))) (b:=w1.heap.size) (o:=0) 4 fd43_4 rfl rfl zN (q_load (p:=(padd (.pointer (some ⟨w1.heap.size,0,none⟩)) 4)) (.inr rfl) ve one41 rfl (hB2.ldp (i:=4) sM) zN (q_len (v:=ve) u41 rfl hex.rn.isSl zN (lw_tvn 1 rfl (wp_seq (c_cut (S:=Bool) (fun (pl:Bool)=>([(8,(.bool pl)),(2,(.int .i64 vars)),(3,(.pointer (some ⟨w.heap.size,0,none⟩))),(4,(.pointer (some ⟨w1.heap.size,0,none⟩))),(7,(.int .i64 ((ex.kids.length :Nat):Int)))]:List (Nat × Value))) (fun (pl:Bool) (W:World)=>Ext w W∧BX W.heap w.heap.size [vp,(.int .i64 funcs)]∧BX W.heap w1.heap.size [(.int .i64 ex.kind),(.int .i64 ex.num),(.int .i64 ex.pick),(.int .i64 ex.count),ve]∧pl = plainB ex) ?_ ?_))))))))
 ·
  refine wp_plain _ [0,2,0,0,0,2,0,0,0] rfl (q_fldP (p:=(.pointer (some ⟨w1.heap.size,0,none⟩))) (b:=w1.heap.size) (o:=0) 2 fd43_2 rfl rfl zN (q_load (p:=(padd (.pointer (some ⟨w1.heap.size,0,none⟩)) 2)) (.inr rfl) (.int .i64 ex.pick) one2 rfl (hB2.ldp (i:=2) sM) zN ?_))
  by_cases hc5:ex.pick = ((0 :Nat):Int)
  ·
   exact q_eql true rfl rfl (decide_eq_true hc5) zN (lw_tv 1 rfl (q_fldP (p:=(.pointer (some ⟨w1.heap.size,0,none⟩))) (b:=w1.heap.size) (o:=0) 3 fd43_3 rfl rfl (zS (e:=19) rfl rfl rfl) (q_load (p:=(padd (.pointer (some ⟨w1.heap.size,0,none⟩)) 3)) (.inr rfl) (.int .i64 ex.count) one2 rfl (hB2.ldp (i:=3) sM) (zS (e:=19) rfl rfl rfl) (q_eql (decide (ex.count = ((0 :Nat):Int))) rfl rfl rfl (zS (e:=19) rfl rfl rfl) (lw_tvn 2 rfl ⟨(decide (ex.count = ((0 :Nat):Int))),_,rfl,⟨rfl,rfl,rfl,rfl,rfl,trivial⟩,⟨hE2,hB1x2,hB2,z108_3⟩⟩)))))
  ·
   exact q_eql false rfl rfl (decide_eq_false hc5) zN (lw_tvn 6 rfl ⟨false,_,rfl,⟨rfl,rfl,rfl,rfl,rfl,trivial⟩,⟨hE2,hB1x2,hB2,z108_3⟩⟩)
 ·
  clear hE0 hz1 hX1 hzs1 hE1 hz2 hX2 hzs2 hE2
  rintro pl ρ4 w4 ⟨hE4,hL4_0,hL4_1,hpl⟩
  have hzs4:w.heap.size≤w4.heap.size:=hE4.size
  have hq6:=hL4_0.lt
  have hq7:=hL4_1.lt
  refine wp_seq (c_cut (S:=Unit) (fun (u:Unit)=>([(2,(.int .i64 vars)),(3,(.pointer (some ⟨w.heap.size,0,none⟩))),(4,(.pointer (some ⟨w1.heap.size,0,none⟩)))]:List (Nat × Value))) (fun (u:Unit) (W:World)=>Ext w W∧BX W.heap w.heap.size [vp,(.int .i64 funcs)]∧BX W.heap w1.heap.size [(.int .i64 ex.kind),(.int .i64 ex.num),(.int .i64 ex.pick),(.int .i64 ex.count),ve]∧wfN p funcs vars ex = true) ?_ ?_)
  ·
   refine wp_seq (wp_plain _ [0,2] rfl (q_fldP (p:=(.pointer (some ⟨w1.heap.size,0,none⟩))) (b:=w1.heap.size) (o:=0) 0 fd43_0 rfl rfl zN (q_load (p:=(padd (.pointer (some ⟨w1.heap.size,0,none⟩)) 0)) (.inr rfl) (.int .i64 ex.kind) one2 rfl (hL4_1.ldp (i:=0) sM) zN (lw_nil (wp_block (wp_seq (wp_plain _ [0,0] rfl ?_)))))))
   by_cases hc9:ex.kind = ((1 :Nat):Int)
   ·
    refine q_eql true rfl rfl (decide_eq_true hc9) zN (lw_tvn 1 rfl (c_cond_t rfl (wp_seq (wp_plain _ [0,0,0,0,0,0,0,2,0,0,0] rfl (lw_tv 2 rfl ?_)))))
    cases hb10:pl
    ·
     exact lw_tvn 9 rfl (wp_ret (b_ret (t_ret (post_ret [6] rfl (.bool false) rfl ⟨z108_0,hE4⟩))))
    ·
     refine lw_tv 1 rfl ?_
     by_cases hc11:((ex.kids.length :Nat):Int) = ((0 :Nat):Int)
     ·
      refine q_eql true rfl rfl (decide_eq_true hc11) (zS (e:=29) rfl rfl rfl) (lw_tv 2 rfl (q_fldP (p:=(.pointer (some ⟨w1.heap.size,0,none⟩))) (b:=w1.heap.size) (o:=0) 1 fd43_1 rfl rfl (zS (e:=33) rfl rfl rfl) (q_load (p:=(padd (.pointer (some ⟨w1.heap.size,0,none⟩)) 1)) (.inr rfl) (.int .i64 ex.num) one2 rfl (hL4_1.ldp (i:=1) sM) (zS (e:=33) rfl rfl rfl) (lw_callq 76 [] [] [(.int .i64 ex.num)] rfl rfl cf76 (zS (e:=33) rfl rfl rfl) (.bool (isN ex.num)) (fun wq=>c_impl_isNumber wq _ hex.rng.num) (lw_tvn 2 rfl (wp_ret (b_ret (t_ret ?_))))))))
      exact post_ret [6] rfl (.bool (isN ex.num)) rfl ⟨z108_0,hE4⟩
     ·
      exact q_eql false rfl rfl (decide_eq_false hc11) (zS (e:=29) rfl rfl rfl) (lw_tvn 7 rfl (wp_ret (b_ret (t_ret (post_ret [6] rfl (.bool false) rfl ⟨z108_0,hE4⟩)))))
   ·
    refine q_eql false rfl rfl (decide_eq_false hc9) zN (lw_tvn 1 rfl (c_cond_f rfl (wp_seq (wp_plain _ [0,0] rfl ?_))))
    by_cases hc13:ex.kind = ((2 :Nat):Int)
    ·
     refine q_eql true rfl rfl (decide_eq_true hc13) zN (lw_tvn 1 rfl (c_cond_t rfl (wp_seq (wp_plain _ [0,0,0,0,0,0,0,2,0,0,0,0,0] rfl (lw_tv 2 rfl ?_)))))
     cases hb14:pl
     ·
      exact lw_tvn 11 rfl (wp_ret (b_ret (t_ret (post_ret [6] rfl (.bool false) rfl ⟨z108_0,hE4⟩))))
     ·
      refine lw_tv 1 rfl ?_
      by_cases hc15:((ex.kids.length :Nat):Int) = ((0 :Nat):Int)
      ·
       refine q_eql true rfl rfl (decide_eq_true hc15) (zS (e:=41) rfl rfl rfl) (lw_tv 2 rfl (q_fldP (p:=(.pointer (some ⟨w1.heap.size,0,none⟩))) (b:=w1.heap.size) (o:=0) 1 fd43_1 rfl rfl (zS (e:=45) rfl rfl rfl) (q_load (p:=(padd (.pointer (some ⟨w1.heap.size,0,none⟩)) 1)) (.inr rfl) (.int .i64 ex.num) one2 rfl (hL4_1.ldp (i:=1) sM) (zS (e:=45) rfl rfl rfl) (lw_tv 1 rfl (q_sub (vars - 1) rfl rfl (w64 oM oM) (zS (e:=45) rfl rfl rfl) (lw_callq 71 [] [] [(.int .i64 ex.num),(.int .i64 ((0 :Nat):Int)),(.int .i64 (vars - 1))] rfl rfl cf71 (zS (e:=45) rfl rfl rfl) (.bool (decide (((0 :Nat):Int)≤ex.num) && decide (ex.num≤(vars - 1)))) (fun wq=>c_impl_within wq _ _ _ hex.rng.num oM oM) (lw_tvn 2 rfl (wp_ret (b_ret ?_)))))))))
       exact t_ret (post_ret [6] rfl (.bool (decide (((0 :Nat):Int)≤ex.num) && decide (ex.num≤(vars - 1)))) rfl ⟨z108_0,hE4⟩)
      ·
       exact q_eql false rfl rfl (decide_eq_false hc15) (zS (e:=41) rfl rfl rfl) (lw_tvn 9 rfl (wp_ret (b_ret (t_ret (post_ret [6] rfl (.bool false) rfl ⟨z108_0,hE4⟩)))))
    ·
     refine q_eql false rfl rfl (decide_eq_false hc13) zN (lw_tvn 1 rfl (c_cond_f rfl (wp_seq (c_cut (S:=Bool) (fun (b5:Bool)=>([(52,(.bool b5)),(2,(.int .i64 vars)),(3,(.pointer (some ⟨w.heap.size,0,none⟩))),(4,(.pointer (some ⟨w1.heap.size,0,none⟩))),(7,(.int .i64 ((ex.kids.length :Nat):Int))),(8,(.bool pl)),(25,(.int .i64 ex.kind))]:List (Nat × Value))) (fun (b5:Bool) (W:World)=>Ext w W∧BX W.heap w.heap.size [vp,(.int .i64 funcs)]∧BX W.heap w1.heap.size [(.int .i64 ex.kind),(.int .i64 ex.num),(.int .i64 ex.pick),(.int .i64 ex.count),ve]∧b5 = decide (ex.kind = 3∨ex.kind = 4∨ex.kind = 5∨ex.kind = 6∨ex.kind = 9)) ?_ ?_))))
     ·
      refine wp_seq (wp_plain _ [0,0] rfl ?_)
      by_cases hc18:ex.kind = ((3 :Nat):Int)
      ·
       exact q_eql true rfl rfl (decide_eq_true hc18) zN (lw_tvn 1 rfl (c_cond_t rfl (wp_skip ⟨true,_,rfl,⟨rfl,rfl,rfl,rfl,rfl,rfl,rfl,trivial⟩,⟨hE4,hL4_0,hL4_1,z108_4⟩⟩)))
      ·
       refine q_eql false rfl rfl (decide_eq_false hc18) zN (lw_tvn 1 rfl (c_cond_f rfl (wp_seq (wp_plain _ [0,0] rfl ?_))))
       by_cases hc19:ex.kind = ((4 :Nat):Int)
       ·
        exact q_eql true rfl rfl (decide_eq_true hc19) zN (lw_tvn 1 rfl (c_cond_t rfl (wp_skip ⟨true,_,rfl,⟨rfl,rfl,rfl,rfl,rfl,rfl,rfl,trivial⟩,⟨hE4,hL4_0,hL4_1,z108_4⟩⟩)))
       ·
        refine q_eql false rfl rfl (decide_eq_false hc19) zN (lw_tvn 1 rfl (c_cond_f rfl (wp_seq (wp_plain _ [0,0] rfl ?_))))
        by_cases hc20:ex.kind = ((5 :Nat):Int)
        ·
         exact q_eql true rfl rfl (decide_eq_true hc20) zN (lw_tvn 1 rfl (c_cond_t rfl (wp_skip ⟨true,_,rfl,⟨rfl,rfl,rfl,rfl,rfl,rfl,rfl,trivial⟩,⟨hE4,hL4_0,hL4_1,z108_4⟩⟩)))
        ·
         refine q_eql false rfl rfl (decide_eq_false hc20) zN (lw_tvn 1 rfl (c_cond_f rfl (wp_seq (wp_plain _ [0,0] rfl ?_))))
         by_cases hc21:ex.kind = ((6 :Nat):Int)
         ·
          exact q_eql true rfl rfl (decide_eq_true hc21) zN (lw_tvn 1 rfl (c_cond_t rfl (wp_skip ⟨true,_,rfl,⟨rfl,rfl,rfl,rfl,rfl,rfl,rfl,trivial⟩,⟨hE4,hL4_0,hL4_1,z108_4⟩⟩)))
         ·
          exact q_eql false rfl rfl (decide_eq_false hc21) zN (lw_tvn 1 rfl (c_cond_f rfl (wp_plain _ [0,0] rfl (q_eql (decide (ex.kind = ((9 :Nat):Int))) rfl rfl rfl zN (lw_tvn 1 rfl ⟨(decide (ex.kind = ((9 :Nat):Int))),_,rfl,⟨rfl,rfl,rfl,rfl,rfl,rfl,rfl,trivial⟩,⟨hE4,hL4_0,hL4_1,z108_4⟩⟩)))))
     ·
      clear hL4_1 hL4_0 hE4 hzs4
      rintro b5 ρ17 w17 ⟨hE17,hL17_0,hL17_1,h5b⟩
      have hzs17:w.heap.size≤w17.heap.size:=hE17.size
      have hq22:=hL17_0.lt
      have hq23:=hL17_1.lt
      cases hb24:b5
      ·
       refine c_cond_f (by first | rfl | (show Value.bool _ = _; rw [hb24])) (wp_seq (wp_plain _ [0,0] rfl ?_))
       have h5n:=of_decide_eq_false (h5b.symm.trans ‹_›)
       clear h5b
       by_cases hc25:ex.kind = ((7 :Nat):Int)
       ·
        refine q_eql true rfl rfl (decide_eq_true hc25) zN (lw_tvn 1 rfl (c_cond_t rfl (wp_seq (wp_plain _ [0,0,0,0,2,0,0,0,0,0,0] rfl (lw_tv 1 rfl (q_not (!pl) rfl rfl zN (lw_tv 1 rfl ?_)))))))
        cases hb26:(!pl)
        ·
         refine q_fldP (p:=(.pointer (some ⟨w1.heap.size,0,none⟩))) (b:=w1.heap.size) (o:=0) 1 fd43_1 rfl rfl (zS (e:=73) rfl rfl rfl) (q_load (p:=(padd (.pointer (some ⟨w1.heap.size,0,none⟩)) 1)) (.inr rfl) (.int .i64 ex.num) one2 rfl (hL17_1.ldp (i:=1) sM) (zS (e:=73) rfl rfl rfl) ?_)
         by_cases hc27:ex.num≠((0 :Nat):Int)
         ·
          exact q_neq true rfl rfl (decide_eq_true hc27) (zS (e:=73) rfl rfl rfl) (lw_tvn 5 rfl (c_cond_t rfl (wp_seq (wp_plain _ [0] rfl (lw_tvn 1 rfl (wp_ret (b_ret (t_ret (post_ret [6] rfl (.bool false) rfl ⟨z108_0,hE17⟩)))))))))
         ·
          refine q_neq false rfl rfl (decide_eq_false hc27) (zS (e:=73) rfl rfl rfl) (lw_tv 3 rfl ?_)
          by_cases hc28:((ex.kids.length :Nat):Int)≠((1 :Nat):Int)
          ·
           exact q_neq true rfl rfl (decide_eq_true hc28) (zS (e:=78) rfl rfl rfl) (lw_tvn 1 rfl (c_cond_t rfl (wp_seq (wp_plain _ [0] rfl (lw_tvn 1 rfl (wp_ret (b_ret (t_ret (post_ret [6] rfl (.bool false) rfl ⟨z108_0,hE17⟩)))))))))
          ·
           exact q_neq false rfl rfl (decide_eq_false hc28) (zS (e:=78) rfl rfl rfl) (lw_tvn 1 rfl (c_cond_f rfl (wp_skip ⟨(),_,rfl,⟨rfl,rfl,rfl,trivial⟩,⟨hE17,hL17_0,hL17_1,z108_1⟩⟩)))
        ·
         exact lw_tvn 8 rfl (c_cond_t rfl (wp_seq (wp_plain _ [0] rfl (lw_tvn 1 rfl (wp_ret (b_ret (t_ret (post_ret [6] rfl (.bool false) rfl ⟨z108_0,hE17⟩))))))))
       ·
        refine q_eql false rfl rfl (decide_eq_false hc25) zN (lw_tvn 1 rfl (c_cond_f rfl (wp_seq (wp_plain _ [0,0] rfl ?_))))
        by_cases hc29:ex.kind = ((8 :Nat):Int)
        ·
         refine q_eql true rfl rfl (decide_eq_true hc29) zN (lw_tvn 1 rfl (c_cond_t rfl (wp_seq (wp_plain _ [0,0,0,0,2,0,0,0,0,0,0] rfl (lw_tv 1 rfl (q_not (!pl) rfl rfl zN (lw_tv 1 rfl ?_)))))))
         cases hb30:(!pl)
         ·
          refine q_fldP (p:=(.pointer (some ⟨w1.heap.size,0,none⟩))) (b:=w1.heap.size) (o:=0) 1 fd43_1 rfl rfl (zS (e:=86) rfl rfl rfl) (q_load (p:=(padd (.pointer (some ⟨w1.heap.size,0,none⟩)) 1)) (.inr rfl) (.int .i64 ex.num) one2 rfl (hL17_1.ldp (i:=1) sM) (zS (e:=86) rfl rfl rfl) ?_)
          by_cases hc31:ex.num≠((0 :Nat):Int)
          ·
           exact q_neq true rfl rfl (decide_eq_true hc31) (zS (e:=86) rfl rfl rfl) (lw_tvn 5 rfl (c_cond_t rfl (wp_seq (wp_plain _ [0] rfl (lw_tvn 1 rfl (wp_ret (b_ret (t_ret (post_ret [6] rfl (.bool false) rfl ⟨z108_0,hE17⟩)))))))))
          ·
           refine q_neq false rfl rfl (decide_eq_false hc31) (zS (e:=86) rfl rfl rfl) (lw_tv 3 rfl ?_)
           by_cases hc32:((ex.kids.length :Nat):Int)≠((3 :Nat):Int)
           ·
            exact q_neq true rfl rfl (decide_eq_true hc32) (zS (e:=91) rfl rfl rfl) (lw_tvn 1 rfl (c_cond_t rfl (wp_seq (wp_plain _ [0] rfl (lw_tvn 1 rfl (wp_ret (b_ret (t_ret (post_ret [6] rfl (.bool false) rfl ⟨z108_0,hE17⟩)))))))))
           ·
            exact q_neq false rfl rfl (decide_eq_false hc32) (zS (e:=91) rfl rfl rfl) (lw_tvn 1 rfl (c_cond_f rfl (wp_skip ⟨(),_,rfl,⟨rfl,rfl,rfl,trivial⟩,⟨hE17,hL17_0,hL17_1,z108_1⟩⟩)))
         ·
          exact lw_tvn 8 rfl (c_cond_t rfl (wp_seq (wp_plain _ [0] rfl (lw_tvn 1 rfl (wp_ret (b_ret (t_ret (post_ret [6] rfl (.bool false) rfl ⟨z108_0,hE17⟩))))))))
        ·
         refine q_eql false rfl rfl (decide_eq_false hc29) zN (lw_tvn 1 rfl (c_cond_f rfl (wp_seq (c_cut (S:=Bool) (fun (b10:Bool)=>([(95,(.bool b10)),(2,(.int .i64 vars)),(3,(.pointer (some ⟨w.heap.size,0,none⟩))),(4,(.pointer (some ⟨w1.heap.size,0,none⟩))),(7,(.int .i64 ((ex.kids.length :Nat):Int)))]:List (Nat × Value))) (fun (b10:Bool) (W:World)=>Ext w W∧BX W.heap w.heap.size [vp,(.int .i64 funcs)]∧BX W.heap w1.heap.size [(.int .i64 ex.kind),(.int .i64 ex.num),(.int .i64 ex.pick),(.int .i64 ex.count),ve]∧b10 = decide (ex.kind = 10∨ex.kind = 11)) ?_ ?_))))
         ·
          refine wp_seq (wp_plain _ [0,0] rfl ?_)
          by_cases hc34:ex.kind = ((10 :Nat):Int)
          ·
           exact q_eql true rfl rfl (decide_eq_true hc34) zN (lw_tvn 1 rfl (c_cond_t rfl (wp_skip ⟨true,_,rfl,⟨rfl,rfl,rfl,rfl,rfl,trivial⟩,⟨hE17,hL17_0,hL17_1,z108_4⟩⟩)))
          ·
           exact q_eql false rfl rfl (decide_eq_false hc34) zN (lw_tvn 1 rfl (c_cond_f rfl (wp_plain _ [0,0] rfl (q_eql (decide (ex.kind = ((11 :Nat):Int))) rfl rfl rfl zN (lw_tvn 1 rfl ⟨(decide (ex.kind = ((11 :Nat):Int))),_,rfl,⟨rfl,rfl,rfl,rfl,rfl,trivial⟩,⟨hE17,hL17_0,hL17_1,z108_4⟩⟩)))))
         ·
          clear hL17_1 hL17_0 hE17 hzs17
          rintro b10 ρ33 w33 ⟨hE33,hL33_0,hL33_1,h10b⟩
          have hzs33:w.heap.size≤w33.heap.size:=hE33.size
          have hq35:=hL33_0.lt
          have hq36:=hL33_1.lt
          cases hb37:b10
          ·
           refine c_cond_f (by first | rfl | (show Value.bool _ = _; rw [hb37])) (wp_seq (wp_plain _ [0] rfl ?_))
           have h10n:=of_decide_eq_false (h10b.symm.trans ‹_›)
           clear h10b
           exact lw_tvn 1 rfl (wp_ret (b_ret (t_ret (post_ret [6] rfl (.bool false) rfl ⟨z108_0,hE33⟩))))
          ·
           refine c_cond_t (by first | rfl | (show Value.bool _ = _; rw [hb37])) (wp_seq (wp_seq (wp_plain _ [0,2,0,2,0,0,0] rfl ?_)))
           have h5k:=of_decide_eq_true (h10b.symm.trans ‹_›)
           clear h10b
           refine q_fldP (p:=(.pointer (some ⟨w1.heap.size,0,none⟩))) (b:=w1.heap.size) (o:=0) 1 fd43_1 rfl rfl zN (q_load (p:=(padd (.pointer (some ⟨w1.heap.size,0,none⟩)) 1)) (.inr rfl) (.int .i64 ex.num) one2 rfl (hL33_1.ldp (i:=1) sM) zN (q_fldP (p:=(.pointer (some ⟨w.heap.size,0,none⟩))) (b:=w.heap.size) (o:=0) 1 fd134_1 rfl rfl zN (q_load (p:=(padd (.pointer (some ⟨w.heap.size,0,none⟩)) 1)) (.inr rfl) (.int .i64 funcs) one2 rfl (hL33_0.ldp (i:=1) sM) zN (q_sub (funcs - 1) rfl rfl (w64 oM oM) zN (lw_callq 71 [] [] [(.int .i64 ex.num),(.int .i64 ((0 :Nat):Int)),(.int .i64 (funcs - 1))] rfl rfl cf71 zN (.bool (decide (((0 :Nat):Int)≤ex.num) && decide (ex.num≤(funcs - 1)))) (fun wq=>c_impl_within wq _ _ _ hex.rng.num oM oM) ?_)))))
           refine q_not (!(decide (((0 :Nat):Int)≤ex.num) && decide (ex.num≤(funcs - 1)))) rfl rfl zN (lw_nil ?_)
           cases hb39:(!(decide (((0 :Nat):Int)≤ex.num) && decide (ex.num≤(funcs - 1))))
           ·
            refine c_cond_f (by first | rfl | (show Value.bool _ = _; rw [hb39])) (wp_skip (wp_seq (wp_plain _ [0,0,2,0,2,0,2,3,4] rfl ?_)))
            have hnr:0≤ex.num∧ex.num≤funcs - 1:=by have h9:=‹(!(decide (((0 :Nat):Int)≤ex.num) && decide (ex.num≤funcs - 1))) = false›; simpa using h9
            refine q_fldP (p:=(.pointer (some ⟨w.heap.size,0,none⟩))) (b:=w.heap.size) (o:=0) 0 fd134_0 rfl rfl zN (q_fldP (p:=(padd (.pointer (some ⟨w.heap.size,0,none⟩)) 0)) (b:=w.heap.size) (o:=0) 0 fd49_0 rfl rfl zN (q_load (p:=(padd (padd (.pointer (some ⟨w.heap.size,0,none⟩)) 0) 0)) (.inr rfl) vp one47 rfl (hL33_0.ldp (i:=0) sM) zN (q_fldP (p:=(.pointer (some ⟨w1.heap.size,0,none⟩))) (b:=w1.heap.size) (o:=0) 1 fd43_1 rfl rfl zN (q_load (p:=(padd (.pointer (some ⟨w1.heap.size,0,none⟩)) 1)) (.inr rfl) (.int .i64 ex.num) one2 rfl (hL33_1.ldp (i:=1) sM) zN ?_))))
            refine q_idx (v:=vp) ((ex.num).toNat) u47 tiS46 rfl rfl hp.isSl oM sD zN ?_
            obtain ⟨cs40,hr40,hl40⟩:=hp.get (good_rFn dp) Fn.zero (k:=((ex.num).toNat)) sD
            obtain ⟨ve40,rfl,hx40⟩:=RF.of hr40
            have hln40:=hx40.rn.lenle
            unfold maxLen at hln40
            refine q_loadA (p:=eptr vp ((ex.num).toNat) 3) (.inr rfl) [(.string ((p.getD ((ex.num).toNat) Fn.zero).name)),(.int .i64 ((p.getD ((ex.num).toNat) Fn.zero).params)),ve40] agg46 rfl (fun wq9 hw9=>hl40 wq9 (Chg.of_ext [] (hE33.trans hw9))) rfl zN ?_
            have hq42:=hL33_0.lt
            have hq43:=hL33_1.lt
            refine r_allocA (z:=.agg #[.string ByteArray.empty,.int .i64 0,.slice none 0 0]) zr46 zN fun w41 hX41 hz41 hB41=>?_
            have hzs41:=hX41.size
            have hE41:=hE33.trans hX41
            have hL33_0x41:=hL33_0.ext hX41
            have hL33_1x41:=hL33_1.ext hX41
            replace hB41:BX w41.heap w33.heap.size [(.string ByteArray.empty),(.int .i64 0),(.slice none 0 0)]:=hB41
            refine e_setA (vs:=[(.string ((p.getD ((ex.num).toNat) Fn.zero).name)),(.int .i64 ((p.getD ((ex.num).toNat) Fn.zero).params)),ve40]) agg46 rfl rfl hx40.ones hB41 rfl rfl zN fun w44 hC44 hz44 hB44=>?_
            replace hB44:BX w44.heap w33.heap.size [(.string ((p.getD ((ex.num).toNat) Fn.zero).name)),(.int .i64 ((p.getD ((ex.num).toNat) Fn.zero).params)),ve40]:=hB44
            have hE44:Ext w w44:=hC44.below hE41 (fun c hc=>by have:=List.mem_singleton.1 hc; omega) hE41.size
            have hzs44:=hC44.size
            have hF45:=hL33_0x41.chg hC44 (fun hm=>by have:=List.mem_singleton.1 hm; omega)
            have hF46:=hL33_1x41.chg hC44 (fun hm=>by have:=List.mem_singleton.1 hm; omega)
            refine lw_nil (wp_seq (wp_seq (wp_plain _ [0,0,2,0,0,0,2,0,2,0,0,0,0,0] rfl (lw_tv 1 rfl (q_fldP (p:=(.pointer (some ⟨w33.heap.size,0,none⟩))) (b:=w33.heap.size) (o:=0) 1 fd46_1 rfl rfl zN (q_load (p:=(padd (.pointer (some ⟨w33.heap.size,0,none⟩)) 1)) (.inr rfl) (.int .i64 ((p.getD ((ex.num).toNat) Fn.zero).params)) one2 rfl (hB44.ldp (i:=1) sM) zN ?_))))))
            by_cases hc47:((ex.kids.length :Nat):Int)≠(p.getD ((ex.num).toNat) Fn.zero).params
            ·
             exact q_neq true rfl rfl (decide_eq_true hc47) zN (lw_tvn 10 rfl (c_cond_t rfl (wp_seq (wp_plain _ [0] rfl (lw_tvn 1 rfl (wp_ret (t_ret (b_ret (t_ret (post_ret [6] rfl (.bool false) rfl ⟨z108_0,hE44⟩))))))))))
            ·
             refine q_neq false rfl rfl (decide_eq_false hc47) zN (lw_tv 1 rfl (q_fldP (p:=(.pointer (some ⟨w1.heap.size,0,none⟩))) (b:=w1.heap.size) (o:=0) 2 fd43_2 rfl rfl (zS (e:=116) rfl rfl rfl) (q_load (p:=(padd (.pointer (some ⟨w1.heap.size,0,none⟩)) 2)) (.inr rfl) (.int .i64 ex.pick) one2 rfl (hF46.ldp (i:=2) sM) (zS (e:=116) rfl rfl rfl) (q_fldP (p:=(.pointer (some ⟨w33.heap.size,0,none⟩))) (b:=w33.heap.size) (o:=0) 2 fd46_2 rfl rfl (zS (e:=116) rfl rfl rfl) (q_load (p:=(padd (.pointer (some ⟨w33.heap.size,0,none⟩)) 2)) (.inr rfl) ve40 one41 rfl (hB44.ldp (i:=2) sM) (zS (e:=116) rfl rfl rfl) (q_len (v:=ve40) u41 rfl hx40.rn.isSl (zS (e:=116) rfl rfl rfl) ?_))))))
             refine q_sub (((p.getD (ex.num).toNat Fn.zero).outs.length:Int) - 1) rfl rfl (w64 oM oM) (zS (e:=116) rfl rfl rfl) (lw_callq 71 [] [] [(.int .i64 ex.pick),(.int .i64 ((0 :Nat):Int)),(.int .i64 (((p.getD (ex.num).toNat Fn.zero).outs.length:Int) - 1))] rfl rfl cf71 (zS (e:=116) rfl rfl rfl) (.bool (decide (((0 :Nat):Int)≤ex.pick) && decide (ex.pick≤(((p.getD (ex.num).toNat Fn.zero).outs.length:Int) - 1)))) (fun wq=>c_impl_within wq _ _ _ hex.rng.pick oM oM) (q_not (!(decide (((0 :Nat):Int)≤ex.pick) && decide (ex.pick≤(((p.getD (ex.num).toNat Fn.zero).outs.length:Int) - 1)))) rfl rfl (zS (e:=116) rfl rfl rfl) (lw_tvn 1 rfl ?_)))
             cases hb49:(!(decide (((0 :Nat):Int)≤ex.pick) && decide (ex.pick≤(((p.getD (ex.num).toNat Fn.zero).outs.length:Int) - 1))))
             ·
              refine c_cond_f (by first | rfl | (show Value.bool _ = _; rw [hb49])) (wp_skip (wp_seq (wp_plain _ [0,2,0,0,0,2,0,0,0,0,2,0,0,0,2,0,0,2,0,0,0,2,0,0,0,0,0] rfl (q_fldP (p:=(.pointer (some ⟨w1.heap.size,0,none⟩))) (b:=w1.heap.size) (o:=0) 0 fd43_0 rfl rfl zN (q_load (p:=(padd (.pointer (some ⟨w1.heap.size,0,none⟩)) 0)) (.inr rfl) (.int .i64 ex.kind) one2 rfl (hF46.ldp (i:=0) sM) zN ?_)))))
              by_cases hc50:ex.kind = ((10 :Nat):Int)
              ·
               refine q_eql true rfl rfl (decide_eq_true hc50) zN (lw_tv 1 rfl (q_fldP (p:=(.pointer (some ⟨w1.heap.size,0,none⟩))) (b:=w1.heap.size) (o:=0) 3 fd43_3 rfl rfl (zS (e:=129) rfl rfl rfl) (q_load (p:=(padd (.pointer (some ⟨w1.heap.size,0,none⟩)) 3)) (.inr rfl) (.int .i64 ex.count) one2 rfl (hF46.ldp (i:=3) sM) (zS (e:=129) rfl rfl rfl) ?_)))
               by_cases hc51:ex.count≠((0 :Nat):Int)
               ·
                exact q_neq true rfl rfl (decide_eq_true hc51) (zS (e:=129) rfl rfl rfl) (lw_tvn 20 rfl (c_cond_t rfl (wp_seq (wp_plain _ [0] rfl (lw_tvn 1 rfl (wp_ret (b_ret (t_ret (post_ret [6] rfl (.bool false) rfl ⟨z108_0,hE44⟩)))))))))
               ·
                refine q_neq false rfl rfl (decide_eq_false hc51) (zS (e:=129) rfl rfl rfl) (lw_tv 2 rfl (q_fldP (p:=(.pointer (some ⟨w1.heap.size,0,none⟩))) (b:=w1.heap.size) (o:=0) 0 fd43_0 rfl rfl (zS (e:=134) rfl rfl rfl) (q_load (p:=(padd (.pointer (some ⟨w1.heap.size,0,none⟩)) 0)) (.inr rfl) (.int .i64 ex.kind) one2 rfl (hF46.ldp (i:=0) sM) (zS (e:=134) rfl rfl rfl) ?_)))
                by_cases hc52:ex.kind = ((11 :Nat):Int)
                ·
                 refine q_eql true rfl rfl (decide_eq_true hc52) (zS (e:=134) rfl rfl rfl) (lw_tv 1 rfl (q_fldP (p:=(.pointer (some ⟨w33.heap.size,0,none⟩))) (b:=w33.heap.size) (o:=0) 2 fd46_2 rfl rfl (zS (e:=138) rfl rfl rfl) (q_load (p:=(padd (.pointer (some ⟨w33.heap.size,0,none⟩)) 2)) (.inr rfl) ve40 one41 rfl (hB44.ldp (i:=2) sM) (zS (e:=138) rfl rfl rfl) (q_len (v:=ve40) u41 rfl hx40.rn.isSl (zS (e:=138) rfl rfl rfl) (q_fldP (p:=(.pointer (some ⟨w33.heap.size,0,none⟩))) (b:=w33.heap.size) (o:=0) 1 fd46_1 rfl rfl (zS (e:=138) rfl rfl rfl) (q_load (p:=(padd (.pointer (some ⟨w33.heap.size,0,none⟩)) 1)) (.inr rfl) (.int .i64 ((p.getD ((ex.num).toNat) Fn.zero).params)) one2 rfl (hB44.ldp (i:=1) sM) (zS (e:=138) rfl rfl rfl) ?_))))))
                 by_cases hc53:((((p.getD ((ex.num).toNat) Fn.zero).outs).length :Nat):Int)≠(p.getD ((ex.num).toNat) Fn.zero).params
                 ·
                  exact q_neq true rfl rfl (decide_eq_true hc53) (zS (e:=138) rfl rfl rfl) (lw_tvn 8 rfl (c_cond_t rfl (wp_seq (wp_plain _ [0] rfl (lw_tvn 1 rfl (wp_ret (b_ret (t_ret (post_ret [6] rfl (.bool false) rfl ⟨z108_0,hE44⟩)))))))))
                 ·
                  refine q_neq false rfl rfl (decide_eq_false hc53) (zS (e:=138) rfl rfl rfl) (lw_tv 1 rfl (q_fldP (p:=(.pointer (some ⟨w1.heap.size,0,none⟩))) (b:=w1.heap.size) (o:=0) 3 fd43_3 rfl rfl (zS (e:=145) rfl rfl rfl) (q_load (p:=(padd (.pointer (some ⟨w1.heap.size,0,none⟩)) 3)) (.inr rfl) (.int .i64 ex.count) one2 rfl (hF46.ldp (i:=3) sM) (zS (e:=145) rfl rfl rfl) (lw_callq 71 [] [] [(.int .i64 ex.count),(.int .i64 ((0 :Nat):Int)),(.int .i64 ((8 :Nat):Int))] rfl rfl cf71 (zS (e:=145) rfl rfl rfl) (.bool (decide (((0 :Nat):Int)≤ex.count) && decide (ex.count≤((8 :Nat):Int)))) (fun wq=>c_impl_within wq _ _ _ hex.rng.count oM oM) (q_not (!(decide (((0 :Nat):Int)≤ex.count) && decide (ex.count≤((8 :Nat):Int)))) rfl rfl (zS (e:=145) rfl rfl rfl) ?_)))))
                  refine lw_tvn 3 rfl ?_
                  cases hb55:(!(decide (((0 :Nat):Int)≤ex.count) && decide (ex.count≤((8 :Nat):Int))))
                  ·
                   exact c_cond_f (by first | rfl | (show Value.bool _ = _; rw [hb55])) (wp_skip ⟨(),_,rfl,⟨rfl,rfl,rfl,trivial⟩,⟨hE44,hF45,hF46,z108_1⟩⟩)
                  ·
                   exact c_cond_t (by first | rfl | (show Value.bool _ = _; rw [hb55])) (wp_seq (wp_plain _ [0] rfl (lw_tvn 1 rfl (wp_ret (b_ret (t_ret (post_ret [6] rfl (.bool false) rfl ⟨z108_0,hE44⟩)))))))
                ·
                 exact q_eql false rfl rfl (decide_eq_false hc52) (zS (e:=134) rfl rfl rfl) (lw_tvn 15 rfl (c_cond_f rfl (wp_skip ⟨(),_,rfl,⟨rfl,rfl,rfl,trivial⟩,⟨hE44,hF45,hF46,z108_1⟩⟩)))
              ·
               refine q_eql false rfl rfl (decide_eq_false hc50) zN (lw_tv 6 rfl (q_fldP (p:=(.pointer (some ⟨w1.heap.size,0,none⟩))) (b:=w1.heap.size) (o:=0) 0 fd43_0 rfl rfl (zS (e:=134) rfl rfl rfl) (q_load (p:=(padd (.pointer (some ⟨w1.heap.size,0,none⟩)) 0)) (.inr rfl) (.int .i64 ex.kind) one2 rfl (hF46.ldp (i:=0) sM) (zS (e:=134) rfl rfl rfl) ?_)))
               by_cases hc56:ex.kind = ((11 :Nat):Int)
               ·
                refine q_eql true rfl rfl (decide_eq_true hc56) (zS (e:=134) rfl rfl rfl) (lw_tv 1 rfl (q_fldP (p:=(.pointer (some ⟨w33.heap.size,0,none⟩))) (b:=w33.heap.size) (o:=0) 2 fd46_2 rfl rfl (zS (e:=138) rfl rfl rfl) (q_load (p:=(padd (.pointer (some ⟨w33.heap.size,0,none⟩)) 2)) (.inr rfl) ve40 one41 rfl (hB44.ldp (i:=2) sM) (zS (e:=138) rfl rfl rfl) (q_len (v:=ve40) u41 rfl hx40.rn.isSl (zS (e:=138) rfl rfl rfl) (q_fldP (p:=(.pointer (some ⟨w33.heap.size,0,none⟩))) (b:=w33.heap.size) (o:=0) 1 fd46_1 rfl rfl (zS (e:=138) rfl rfl rfl) (q_load (p:=(padd (.pointer (some ⟨w33.heap.size,0,none⟩)) 1)) (.inr rfl) (.int .i64 ((p.getD ((ex.num).toNat) Fn.zero).params)) one2 rfl (hB44.ldp (i:=1) sM) (zS (e:=138) rfl rfl rfl) ?_))))))
                by_cases hc57:((((p.getD ((ex.num).toNat) Fn.zero).outs).length :Nat):Int)≠(p.getD ((ex.num).toNat) Fn.zero).params
                ·
                 exact q_neq true rfl rfl (decide_eq_true hc57) (zS (e:=138) rfl rfl rfl) (lw_tvn 8 rfl (c_cond_t rfl (wp_seq (wp_plain _ [0] rfl (lw_tvn 1 rfl (wp_ret (b_ret (t_ret (post_ret [6] rfl (.bool false) rfl ⟨z108_0,hE44⟩)))))))))
                ·
                 refine q_neq false rfl rfl (decide_eq_false hc57) (zS (e:=138) rfl rfl rfl) (lw_tv 1 rfl (q_fldP (p:=(.pointer (some ⟨w1.heap.size,0,none⟩))) (b:=w1.heap.size) (o:=0) 3 fd43_3 rfl rfl (zS (e:=145) rfl rfl rfl) (q_load (p:=(padd (.pointer (some ⟨w1.heap.size,0,none⟩)) 3)) (.inr rfl) (.int .i64 ex.count) one2 rfl (hF46.ldp (i:=3) sM) (zS (e:=145) rfl rfl rfl) (lw_callq 71 [] [] [(.int .i64 ex.count),(.int .i64 ((0 :Nat):Int)),(.int .i64 ((8 :Nat):Int))] rfl rfl cf71 (zS (e:=145) rfl rfl rfl) (.bool (decide (((0 :Nat):Int)≤ex.count) && decide (ex.count≤((8 :Nat):Int)))) (fun wq=>c_impl_within wq _ _ _ hex.rng.count oM oM) (q_not (!(decide (((0 :Nat):Int)≤ex.count) && decide (ex.count≤((8 :Nat):Int)))) rfl rfl (zS (e:=145) rfl rfl rfl) ?_)))))
                 refine lw_tvn 3 rfl ?_
                 cases hb59:(!(decide (((0 :Nat):Int)≤ex.count) && decide (ex.count≤((8 :Nat):Int))))
                 ·
                  exact c_cond_f (by first | rfl | (show Value.bool _ = _; rw [hb59])) (wp_skip ⟨(),_,rfl,⟨rfl,rfl,rfl,trivial⟩,⟨hE44,hF45,hF46,z108_1⟩⟩)
                 ·
                  exact c_cond_t (by first | rfl | (show Value.bool _ = _; rw [hb59])) (wp_seq (wp_plain _ [0] rfl (lw_tvn 1 rfl (wp_ret (b_ret (t_ret (post_ret [6] rfl (.bool false) rfl ⟨z108_0,hE44⟩)))))))
               ·
                exact q_eql false rfl rfl (decide_eq_false hc56) (zS (e:=134) rfl rfl rfl) (lw_tvn 15 rfl (c_cond_f rfl (wp_skip ⟨(),_,rfl,⟨rfl,rfl,rfl,trivial⟩,⟨hE44,hF45,hF46,z108_1⟩⟩)))
             ·
              exact c_cond_t (by first | rfl | (show Value.bool _ = _; rw [hb49])) (wp_seq (wp_plain _ [0] rfl (lw_tvn 1 rfl (wp_ret (t_ret (b_ret (t_ret (post_ret [6] rfl (.bool false) rfl ⟨z108_0,hE44⟩))))))))
           ·
            exact c_cond_t (by first | rfl | (show Value.bool _ = _; rw [hb39])) (wp_seq (wp_plain _ [0] rfl (lw_tvn 1 rfl (wp_ret (t_ret (b_ret (t_ret (post_ret [6] rfl (.bool false) rfl ⟨z108_0,hE33⟩))))))))
      ·
       refine c_cond_t (by first | rfl | (show Value.bool _ = _; rw [hb24])) (wp_seq (wp_plain _ [0,0,0,0,2,0,0,0,0,0,0] rfl ?_))
       have h5k:=of_decide_eq_true (h5b.symm.trans ‹_›)
       clear h5b
       refine lw_tv 1 rfl (q_not (!pl) rfl rfl zN (lw_tv 1 rfl ?_))
       cases hb60:(!pl)
       ·
        refine q_fldP (p:=(.pointer (some ⟨w1.heap.size,0,none⟩))) (b:=w1.heap.size) (o:=0) 1 fd43_1 rfl rfl (zS (e:=60) rfl rfl rfl) (q_load (p:=(padd (.pointer (some ⟨w1.heap.size,0,none⟩)) 1)) (.inr rfl) (.int .i64 ex.num) one2 rfl (hL17_1.ldp (i:=1) sM) (zS (e:=60) rfl rfl rfl) ?_)
        by_cases hc61:ex.num≠((0 :Nat):Int)
        ·
         exact q_neq true rfl rfl (decide_eq_true hc61) (zS (e:=60) rfl rfl rfl) (lw_tvn 5 rfl (c_cond_t rfl (wp_seq (wp_plain _ [0] rfl (lw_tvn 1 rfl (wp_ret (b_ret (t_ret (post_ret [6] rfl (.bool false) rfl ⟨z108_0,hE17⟩)))))))))
        ·
         refine q_neq false rfl rfl (decide_eq_false hc61) (zS (e:=60) rfl rfl rfl) (lw_tv 3 rfl ?_)
         by_cases hc62:((ex.kids.length :Nat):Int)≠((2 :Nat):Int)
         ·
          exact q_neq true rfl rfl (decide_eq_true hc62) (zS (e:=65) rfl rfl rfl) (lw_tvn 1 rfl (c_cond_t rfl (wp_seq (wp_plain _ [0] rfl (lw_tvn 1 rfl (wp_ret (b_ret (t_ret (post_ret [6] rfl (.bool false) rfl ⟨z108_0,hE17⟩)))))))))
         ·
          exact q_neq false rfl rfl (decide_eq_false hc62) (zS (e:=65) rfl rfl rfl) (lw_tvn 1 rfl (c_cond_f rfl (wp_skip ⟨(),_,rfl,⟨rfl,rfl,rfl,trivial⟩,⟨hE17,hL17_0,hL17_1,z108_1⟩⟩)))
       ·
        exact lw_tvn 8 rfl (c_cond_t rfl (wp_seq (wp_plain _ [0] rfl (lw_tvn 1 rfl (wp_ret (b_ret (t_ret (post_ret [6] rfl (.bool false) rfl ⟨z108_0,hE17⟩))))))))
  ·
   clear hL4_1 hL4_0 hE4 hzs4
   rintro u ρ8 w8 ⟨hE8,hL8_0,hL8_1,hwn⟩
   have hzs8:w.heap.size≤w8.heap.size:=hE8.size
   have hq63:=hL8_0.lt
   have hq64:=hL8_1.lt
   refine wp_seq (wp_seq (wp_plain _ [0,2,0,0] rfl (q_fldP (p:=(.pointer (some ⟨w1.heap.size,0,none⟩))) (b:=w1.heap.size) (o:=0) 4 fd43_4 rfl rfl zN (q_load (p:=(padd (.pointer (some ⟨w1.heap.size,0,none⟩)) 4)) (.inr rfl) ve one41 rfl (hL8_1.ldp (i:=4) sM) zN (q_len (v:=ve) u41 rfl hex.rn.isSl zN (lw_tvn 1 rfl (wp_block ?_)))))))
   refine c_loop (S:=Nat) (fun (k:Nat)=>([(156,(.int .i64 ((k :Nat):Int))),(2,(.int .i64 vars)),(3,(.pointer (some ⟨w.heap.size,0,none⟩))),(4,(.pointer (some ⟨w1.heap.size,0,none⟩))),(154,ve),(155,(.int .i64 ((ex.kids.length :Nat):Int)))]:List (Nat × Value))) (fun (k:Nat) (W:World)=>Ext w W∧BX W.heap w.heap.size [vp,(.int .i64 funcs)]∧BX W.heap w1.heap.size [(.int .i64 ex.kind),(.int .i64 ex.num),(.int .i64 ex.pick),(.int .i64 ex.count),ve]∧k≤ex.kids.length∧(∀ j,j < k→wf p funcs (ex.kids.getD j Ex.zero) (if ex.kind = 9∧j = 1 then vars + 1 else vars) = true)) (fun (k:Nat)=>ex.kids.length - k) 0 ⟨rfl,rfl,rfl,rfl,rfl,rfl,trivial⟩ ⟨hE8,hL8_0,hL8_1,sD,(by intro j hj; omega)⟩ ?_
   clear hL8_1 hL8_0 hE8 hzs8
   rintro k ρ65 w65 ⟨hE65,hL65_0,hL65_1,hp65_0,hall⟩
   have hzs65:w.heap.size≤w65.heap.size:=hE65.size
   have hq66:=hL65_0.lt
   have hq67:=hL65_1.lt
   refine wp_seq (wp_plain _ [0] rfl ?_)
   by_cases hc68:((k :Nat):Int) < ((ex.kids.length :Nat):Int)
   ·
    refine q_lss true rfl rfl (decide_eq_true hc68) zN (lw_nil (wp_seq (c_cond_t rfl (wp_skip (wp_seq (wp_block (wp_seq (wp_plain _ [0,0,2,3,0,4] rfl ?_))))))))
    have hkd:=kd_at (l:=ex.kids) (k:=k) oM
    refine lw_tv 1 rfl (q_idx (v:=ve) k u41 tiS43 rfl rfl hex.rn.isSl rfl sD zN ?_)
    obtain ⟨cs69,hr69,hl69⟩:=hex.rn.get (good_rEx dex) Ex.zero (k:=k) sD
    obtain ⟨dd69,ve69,hd69,rfl,hx69⟩:=RX.of hr69
    have hln69:=hx69.rn.lenle
    unfold maxLen at hln69
    refine q_loadA (p:=eptr ve k 5) (.inr rfl) [(.int .i64 ((ex.kids.getD k Ex.zero).kind)),(.int .i64 ((ex.kids.getD k Ex.zero).num)),(.int .i64 ((ex.kids.getD k Ex.zero).pick)),(.int .i64 ((ex.kids.getD k Ex.zero).count)),ve69] agg43 rfl (fun wq9 hw9=>hl69 wq9 (Chg.of_ext [] (hE65.trans hw9))) rfl zN ?_
    have hq71:=hL65_0.lt
    have hq72:=hL65_1.lt
    refine r_allocA (z:=.agg #[.int .i64 0,.int .i64 0,.int .i64 0,.int .i64 0,.slice none 0 0]) zr43 zN fun w70 hX70 hz70 hB70=>?_
    have hzs70:=hX70.size
    have hE70:=hE65.trans hX70
    have hL65_0x70:=hL65_0.ext hX70
    have hL65_1x70:=hL65_1.ext hX70
    replace hB70:BX w70.heap w65.heap.size [(.int .i64 0),(.int .i64 0),(.int .i64 0),(.int .i64 0),(.slice none 0 0)]:=hB70
    refine lw_tv 1 rfl (e_setA (vs:=[(.int .i64 ((ex.kids.getD k Ex.zero).kind)),(.int .i64 ((ex.kids.getD k Ex.zero).num)),(.int .i64 ((ex.kids.getD k Ex.zero).pick)),(.int .i64 ((ex.kids.getD k Ex.zero).count)),ve69]) agg43 rfl rfl hx69.ones hB70 rfl rfl zN fun w73 hC73 hz73 hB73=>?_)
    replace hB73:BX w73.heap w65.heap.size [(.int .i64 ((ex.kids.getD k Ex.zero).kind)),(.int .i64 ((ex.kids.getD k Ex.zero).num)),(.int .i64 ((ex.kids.getD k Ex.zero).pick)),(.int .i64 ((ex.kids.getD k Ex.zero).count)),ve69]:=hB73
    have hE73:Ext w w73:=hC73.below hE70 (fun c hc=>by have:=List.mem_singleton.1 hc; omega) hE70.size
    have hzs73:=hC73.size
    have hF74:=hL65_0x70.chg hC73 (fun hm=>by have:=List.mem_singleton.1 hm; omega)
    have hF75:=hL65_1x70.chg hC73 (fun hm=>by have:=List.mem_singleton.1 hm; omega)
    refine lw_nil (wp_seq (wp_plain _ [0,0] rfl (lw_tvn 2 rfl (wp_seq (wp_seq (wp_plain _ [0,2,0,0,0,0,0] rfl (q_fldP (p:=(.pointer (some ⟨w1.heap.size,0,none⟩))) (b:=w1.heap.size) (o:=0) 0 fd43_0 rfl rfl zN (q_load (p:=(padd (.pointer (some ⟨w1.heap.size,0,none⟩)) 0)) (.inr rfl) (.int .i64 ex.kind) one2 rfl (hF75.ldp (i:=0) sM) zN ?_))))))))
    by_cases hc76:ex.kind = ((9 :Nat):Int)
    ·
     refine q_eql true rfl rfl (decide_eq_true hc76) zN (lw_tv 2 rfl ?_)
     by_cases hc77:((k :Nat):Int) = ((1 :Nat):Int)
     ·
      refine q_eql true rfl rfl (decide_eq_true hc77) (zS (e:=165) rfl rfl rfl) (lw_tvn 1 rfl (c_cond_t rfl (wp_plain _ [0,0,0] rfl (lw_tv 1 rfl (q_add (vars + 1) rfl rfl (w64 oM oM) zN (lw_tvn 1 rfl (wp_seq (wp_plain _ [2,2,0,3,0] rfl (q_loadA (p:=(.pointer (some ⟨w.heap.size,0,none⟩))) (.inr rfl) [vp,(.int .i64 funcs)] agg134 rfl (fun wq9 hw9=>LD.of_box (BX.ext (w:=w73) hF74 hw9)) rfl zN (q_loadA (p:=(.pointer (some ⟨w65.heap.size,0,none⟩))) (.inr rfl) [(.int .i64 ((ex.kids.getD k Ex.zero).kind)),(.int .i64 ((ex.kids.getD k Ex.zero).num)),(.int .i64 ((ex.kids.getD k Ex.zero).pick)),(.int .i64 ((ex.kids.getD k Ex.zero).count)),ve69] agg43 rfl (fun wq9 hw9=>LD.of_box (BX.ext (w:=w73) hB73 hw9)) rfl zN (lw_tv 1 rfl ?_)))))))))))
      refine lw_call 108 [] [] [(.agg #[vp,(.int .i64 funcs)]),(.agg #[(.int .i64 ((ex.kids.getD k Ex.zero).kind)),(.int .i64 ((ex.kids.getD k Ex.zero).num)),(.int .i64 ((ex.kids.getD k Ex.zero).pick)),(.int .i64 ((ex.kids.getD k Ex.zero).count)),ve69]),(.int .i64 (vars + 1))] rfl rfl cf108 zN (ih dd69 oM _ dp vp (p) (funcs) ve69 (ex.kids.getD k Ex.zero) _ (hp.ext (good_rdS (good_rFn dp)) hE73) _hfuncs (hx69.ext hE73) oM oM oM) ?_
      rintro e78 w78 ⟨rfl,hX78⟩
      refine ⟨_,rfl,hX78,?_⟩
      have hzs78:=hX78.size
      have hE78:=hE73.trans hX78
      have hF74x78:=hF74.ext hX78
      have hF75x78:=hF75.ext hX78
      refine q_not (!(wf p funcs (ex.kids.getD k Ex.zero) (vars + 1))) rfl rfl zN (lw_nil ?_)
      cases hb79:(!(wf p funcs (ex.kids.getD k Ex.zero) (vars + 1)))
      ·
       refine c_cond_f (by first | rfl | (show Value.bool _ = _; rw [hb79])) (wp_skip (wp_plain _ [0,0] rfl (q_add ((k + 1 :Nat):Int) rfl rfl (w64n oM sD) zN (lw_tvn 1 rfl ?_))))
       exact ⟨(k + 1),_,rfl,⟨rfl,rfl,rfl,rfl,rfl,rfl,trivial⟩,⟨hE78,hF74x78,hF75x78,sD,z108_2⟩,by first | omega | (dsimp only; omega)⟩
      ·
       exact c_cond_t (by first | rfl | (show Value.bool _ = _; rw [hb79])) (wp_seq (wp_plain _ [0] rfl (lw_tvn 1 rfl (wp_ret (b_ret (t_ret (t_ret (b_ret (t_ret (post_ret [6] rfl (.bool false) rfl ⟨z108_0,hE78⟩))))))))))
     ·
      refine q_eql false rfl rfl (decide_eq_false hc77) (zS (e:=165) rfl rfl rfl) (lw_tvn 1 rfl (c_cond_f rfl (wp_skip (wp_seq (wp_plain _ [2,2,0,3,0] rfl (q_loadA (p:=(.pointer (some ⟨w.heap.size,0,none⟩))) (.inr rfl) [vp,(.int .i64 funcs)] agg134 rfl (fun wq9 hw9=>LD.of_box (BX.ext (w:=w73) hF74 hw9)) rfl zN (q_loadA (p:=(.pointer (some ⟨w65.heap.size,0,none⟩))) (.inr rfl) [(.int .i64 ((ex.kids.getD k Ex.zero).kind)),(.int .i64 ((ex.kids.getD k Ex.zero).num)),(.int .i64 ((ex.kids.getD k Ex.zero).pick)),(.int .i64 ((ex.kids.getD k Ex.zero).count)),ve69] agg43 rfl (fun wq9 hw9=>LD.of_box (BX.ext (w:=w73) hB73 hw9)) rfl zN (lw_tv 1 rfl ?_))))))))
      refine lw_call 108 [] [] [(.agg #[vp,(.int .i64 funcs)]),(.agg #[(.int .i64 ((ex.kids.getD k Ex.zero).kind)),(.int .i64 ((ex.kids.getD k Ex.zero).num)),(.int .i64 ((ex.kids.getD k Ex.zero).pick)),(.int .i64 ((ex.kids.getD k Ex.zero).count)),ve69]),(.int .i64 vars)] rfl rfl cf108 zN (ih dd69 oM _ dp vp (p) (funcs) ve69 (ex.kids.getD k Ex.zero) _ (hp.ext (good_rdS (good_rFn dp)) hE73) _hfuncs (hx69.ext hE73) _hvars oM oM) ?_
      rintro e80 w80 ⟨rfl,hX80⟩
      refine ⟨_,rfl,hX80,?_⟩
      have hzs80:=hX80.size
      have hE80:=hE73.trans hX80
      have hF74x80:=hF74.ext hX80
      have hF75x80:=hF75.ext hX80
      refine q_not (!(wf p funcs (ex.kids.getD k Ex.zero) vars)) rfl rfl zN (lw_nil ?_)
      cases hb81:(!(wf p funcs (ex.kids.getD k Ex.zero) vars))
      ·
       refine c_cond_f (by first | rfl | (show Value.bool _ = _; rw [hb81])) (wp_skip (wp_plain _ [0,0] rfl (q_add ((k + 1 :Nat):Int) rfl rfl (w64n oM sD) zN (lw_tvn 1 rfl ?_))))
       exact ⟨(k + 1),_,rfl,⟨rfl,rfl,rfl,rfl,rfl,rfl,trivial⟩,⟨hE80,hF74x80,hF75x80,sD,z108_2⟩,by first | omega | (dsimp only; omega)⟩
      ·
       exact c_cond_t (by first | rfl | (show Value.bool _ = _; rw [hb81])) (wp_seq (wp_plain _ [0] rfl (lw_tvn 1 rfl (wp_ret (b_ret (t_ret (t_ret (b_ret (t_ret (post_ret [6] rfl (.bool false) rfl ⟨z108_0,hE80⟩))))))))))
    ·
     refine q_eql false rfl rfl (decide_eq_false hc76) zN (lw_tvn 4 rfl (c_cond_f rfl (wp_skip (wp_seq (wp_plain _ [2,2,0,3,0] rfl (q_loadA (p:=(.pointer (some ⟨w.heap.size,0,none⟩))) (.inr rfl) [vp,(.int .i64 funcs)] agg134 rfl (fun wq9 hw9=>LD.of_box (BX.ext (w:=w73) hF74 hw9)) rfl zN (q_loadA (p:=(.pointer (some ⟨w65.heap.size,0,none⟩))) (.inr rfl) [(.int .i64 ((ex.kids.getD k Ex.zero).kind)),(.int .i64 ((ex.kids.getD k Ex.zero).num)),(.int .i64 ((ex.kids.getD k Ex.zero).pick)),(.int .i64 ((ex.kids.getD k Ex.zero).count)),ve69] agg43 rfl (fun wq9 hw9=>LD.of_box (BX.ext (w:=w73) hB73 hw9)) rfl zN (lw_tv 1 rfl ?_))))))))
     refine lw_call 108 [] [] [(.agg #[vp,(.int .i64 funcs)]),(.agg #[(.int .i64 ((ex.kids.getD k Ex.zero).kind)),(.int .i64 ((ex.kids.getD k Ex.zero).num)),(.int .i64 ((ex.kids.getD k Ex.zero).pick)),(.int .i64 ((ex.kids.getD k Ex.zero).count)),ve69]),(.int .i64 vars)] rfl rfl cf108 zN (ih dd69 oM _ dp vp (p) (funcs) ve69 (ex.kids.getD k Ex.zero) _ (hp.ext (good_rdS (good_rFn dp)) hE73) _hfuncs (hx69.ext hE73) _hvars oM oM) ?_
     rintro e82 w82 ⟨rfl,hX82⟩
     refine ⟨_,rfl,hX82,?_⟩
     have hzs82:=hX82.size
     have hE82:=hE73.trans hX82
     have hF74x82:=hF74.ext hX82
     have hF75x82:=hF75.ext hX82
     refine q_not (!(wf p funcs (ex.kids.getD k Ex.zero) vars)) rfl rfl zN (lw_nil ?_)
     cases hb83:(!(wf p funcs (ex.kids.getD k Ex.zero) vars))
     ·
      refine c_cond_f (by first | rfl | (show Value.bool _ = _; rw [hb83])) (wp_skip (wp_plain _ [0,0] rfl (q_add ((k + 1 :Nat):Int) rfl rfl (w64n oM sD) zN (lw_tvn 1 rfl ?_))))
      exact ⟨(k + 1),_,rfl,⟨rfl,rfl,rfl,rfl,rfl,rfl,trivial⟩,⟨hE82,hF74x82,hF75x82,sD,z108_2⟩,by first | omega | (dsimp only; omega)⟩
     ·
      exact c_cond_t (by first | rfl | (show Value.bool _ = _; rw [hb83])) (wp_seq (wp_plain _ [0] rfl (lw_tvn 1 rfl (wp_ret (b_ret (t_ret (t_ret (b_ret (t_ret (post_ret [6] rfl (.bool false) rfl ⟨z108_0,hE82⟩))))))))))
   ·
    exact q_lss false rfl rfl (decide_eq_false hc68) zN (lw_nil (wp_seq (c_cond_f rfl (wp_exit (t_exit (t_exit (c_exit_here (wp_seq (wp_plain _ [0] rfl (lw_tvn 1 rfl (wp_ret (post_ret [6] rfl (.bool true) rfl ⟨z108_0,hE65⟩))))))))))))
end Go.Proofs.Ytemfgblmfahllaa
namespace Go.Proofs.Ytemfgblmfahllaa
open Go Go.RowKit
set_option linter.unusedVariables false
set_option linter.unusedSimpArgs false
set_option maxHeartbeats 4000000
set_option maxRecDepth 100000
attribute [local irreducible] LW
theorem nm_bad {s:ByteArray} {k:Nat} (hk:k < s.size) (h:(sAt s k < 97∨122 < sAt s k)∧(k = 0∨sAt s k < 48∨57 < sAt s k)):false = nmB s:=by
  have hc:chB s k = false:=by
    unfold chB
    rcases h with ⟨h1 | h1,h2 | h2 | h2⟩ <;> simp <;> omega
  unfold nmB
  rw [allR_fail hk hc,Bool.and_false]
theorem ch_ok {s:ByteArray} {k:Nat} (h:(97≤sAt s k∧sAt s k≤122)∨(k≠0∧48≤sAt s k∧sAt s k≤57)):chB s k = true:=by
  unfold chB
  rcases h with h | h <;> simp <;> omega
theorem nm_end {s:ByteArray} {k:Nat} {b:Bool} (h:(List.range k).all (chB s) = true) (hk:k = s.size) (hb:b = (decide (1≤s.size) && decide (s.size≤12))):b = nmB s:=by
  subst hk
  unfold nmB
  rw [h,Bool.and_true,hb]
theorem z93_0 {p:Prop} (h:p:=by first | exact ret_bool (nm_bad (k:=k) oM oM) | exact ret_bool (nm_end hq oM (by first | (rw [decide_eq_true (show 1≤s.size by omega),Bool.true_and]; exact decide_eq_decide.2 oM) | (rw [decide_eq_false (show ¬ 1≤s.size by omega)]; rfl)))):p:=h
theorem c_impl_IsName (w:World) (s:ByteArray)  (hl:s.size≤1000000000) :
  Calls Try.prog 93 #[.string s] w (fun e w'=>e = .returned (.bool (nmB s))∧w' = w):=by
 refine calls_mk [.string s] 44 Try.func93 rfl rfl sM ?_
 have hE0:w = w:=rfl
 refine wp_seq (wp_plain _ [0] rfl (lw_tvn 1 rfl (wp_seq (wp_seq (wp_plain _ [0,0,0] rfl (lw_tv 1 rfl (q_lens (s:=s) u9 rfl zN (lw_tvn 1 rfl (wp_block ?_)))))))))
 refine c_loop (S:=Nat) (fun (k:Nat)=>([(6,(.int .i64 ((k :Nat):Int))),(0,(.string s)),(5,(.int .i64 ((s.size :Nat):Int)))]:List (Nat × Value))) (fun (k:Nat) (W:World)=>W = w∧k≤s.size∧(List.range k).all (chB s) = true) (fun (k:Nat)=>s.size - k) 0 ⟨rfl,rfl,rfl,trivial⟩ ⟨hE0,sD,(by rfl)⟩ ?_
 clear hE0
 rintro k ρ1 w1 ⟨hE1,hp1_0,hq⟩
 refine wp_seq (wp_plain _ [0] rfl ?_)
 by_cases hc2:((k :Nat):Int) < ((s.size :Nat):Int)
 ·
  refine q_lss true rfl rfl (decide_eq_true hc2) zN (lw_nil (wp_seq (c_cond_t rfl (wp_skip (wp_seq (wp_block (wp_seq (wp_plain _ [0,0] rfl (lw_tvn 2 rfl (wp_seq (wp_plain _ [0,0,0,0,0,0,0,0,0,0,0,0,0,0,0,0,0,0,0,0,0,0,0,0,0,0] rfl (lw_tv 2 rfl (q_index (s:=s) k u9 rfl rfl rfl sD zN ?_)))))))))))))
  by_cases hc3:((sAt s k :Nat):Int) < 97
  ·
   refine q_lss true rfl rfl (decide_eq_true hc3) zN (lw_tv 8 rfl ?_)
   by_cases hc4:((k :Nat):Int) = ((0 :Nat):Int)
   ·
    exact q_eql true rfl rfl (decide_eq_true hc4) (zS (e:=19) rfl rfl rfl) (lw_tvn 13 rfl (c_cond_t rfl (wp_seq (wp_plain _ [0] rfl (lw_tvn 1 rfl (wp_ret (b_ret (t_ret (t_ret (b_ret (t_ret (post_ret [2] rfl (.bool false) rfl ⟨z93_0,hE1⟩))))))))))))
   ·
    refine q_eql false rfl rfl (decide_eq_false hc4) (zS (e:=19) rfl rfl rfl) (lw_tv 3 rfl (q_index (s:=s) k u9 rfl rfl rfl sD (zS (e:=22) rfl rfl rfl) ?_))
    by_cases hc5:((sAt s k :Nat):Int) < 48
    ·
     exact q_lss true rfl rfl (decide_eq_true hc5) (zS (e:=22) rfl rfl rfl) (lw_tvn 8 rfl (c_cond_t rfl (wp_seq (wp_plain _ [0] rfl (lw_tvn 1 rfl (wp_ret (b_ret (t_ret (t_ret (b_ret (t_ret (post_ret [2] rfl (.bool false) rfl ⟨z93_0,hE1⟩))))))))))))
    ·
     refine q_lss false rfl rfl (decide_eq_false hc5) (zS (e:=22) rfl rfl rfl) (lw_tv 4 rfl (q_index (s:=s) k u9 rfl rfl rfl sD (zS (e:=28) rfl rfl rfl) ?_))
     by_cases hc6:57 < ((sAt s k :Nat):Int)
     ·
      exact q_gtr true rfl rfl (decide_eq_true hc6) (zS (e:=28) rfl rfl rfl) (lw_tvn 2 rfl (c_cond_t rfl (wp_seq (wp_plain _ [0] rfl (lw_tvn 1 rfl (wp_ret (b_ret (t_ret (t_ret (b_ret (t_ret (post_ret [2] rfl (.bool false) rfl ⟨z93_0,hE1⟩))))))))))))
     ·
      refine q_gtr false rfl rfl (decide_eq_false hc6) (zS (e:=28) rfl rfl rfl) (lw_tvn 2 rfl (c_cond_f rfl (wp_skip (wp_plain _ [0,0] rfl (q_add ((k + 1 :Nat):Int) rfl rfl (w64n oM sD) zN (lw_tvn 1 rfl ?_))))))
      exact ⟨(k + 1),_,rfl,⟨rfl,rfl,rfl,trivial⟩,⟨hE1,sD,(by exact allR_succ hq (ch_ok oM))⟩,by first | omega | (dsimp only; omega)⟩
  ·
   refine q_lss false rfl rfl (decide_eq_false hc3) zN (lw_tv 3 rfl (q_index (s:=s) k u9 rfl rfl rfl sD (zS (e:=13) rfl rfl rfl) ?_))
   by_cases hc7:122 < ((sAt s k :Nat):Int)
   ·
    refine q_gtr true rfl rfl (decide_eq_true hc7) (zS (e:=13) rfl rfl rfl) (lw_tv 3 rfl ?_)
    by_cases hc8:((k :Nat):Int) = ((0 :Nat):Int)
    ·
     exact q_eql true rfl rfl (decide_eq_true hc8) (zS (e:=19) rfl rfl rfl) (lw_tvn 13 rfl (c_cond_t rfl (wp_seq (wp_plain _ [0] rfl (lw_tvn 1 rfl (wp_ret (b_ret (t_ret (t_ret (b_ret (t_ret (post_ret [2] rfl (.bool false) rfl ⟨z93_0,hE1⟩))))))))))))
    ·
     refine q_eql false rfl rfl (decide_eq_false hc8) (zS (e:=19) rfl rfl rfl) (lw_tv 3 rfl (q_index (s:=s) k u9 rfl rfl rfl sD (zS (e:=22) rfl rfl rfl) ?_))
     by_cases hc9:((sAt s k :Nat):Int) < 48
     ·
      exact q_lss true rfl rfl (decide_eq_true hc9) (zS (e:=22) rfl rfl rfl) (lw_tvn 8 rfl (c_cond_t rfl (wp_seq (wp_plain _ [0] rfl (lw_tvn 1 rfl (wp_ret (b_ret (t_ret (t_ret (b_ret (t_ret (post_ret [2] rfl (.bool false) rfl ⟨z93_0,hE1⟩))))))))))))
     ·
      refine q_lss false rfl rfl (decide_eq_false hc9) (zS (e:=22) rfl rfl rfl) (lw_tv 4 rfl (q_index (s:=s) k u9 rfl rfl rfl sD (zS (e:=28) rfl rfl rfl) ?_))
      by_cases hc10:57 < ((sAt s k :Nat):Int)
      ·
       exact q_gtr true rfl rfl (decide_eq_true hc10) (zS (e:=28) rfl rfl rfl) (lw_tvn 2 rfl (c_cond_t rfl (wp_seq (wp_plain _ [0] rfl (lw_tvn 1 rfl (wp_ret (b_ret (t_ret (t_ret (b_ret (t_ret (post_ret [2] rfl (.bool false) rfl ⟨z93_0,hE1⟩))))))))))))
      ·
       refine q_gtr false rfl rfl (decide_eq_false hc10) (zS (e:=28) rfl rfl rfl) (lw_tvn 2 rfl (c_cond_f rfl (wp_skip (wp_plain _ [0,0] rfl (q_add ((k + 1 :Nat):Int) rfl rfl (w64n oM sD) zN (lw_tvn 1 rfl ?_))))))
       exact ⟨(k + 1),_,rfl,⟨rfl,rfl,rfl,trivial⟩,⟨hE1,sD,(by exact allR_succ hq (ch_ok oM))⟩,by first | omega | (dsimp only; omega)⟩
   ·
    refine q_gtr false rfl rfl (decide_eq_false hc7) (zS (e:=13) rfl rfl rfl) (lw_tvn 17 rfl (c_cond_f rfl (wp_skip (wp_plain _ [0,0] rfl (q_add ((k + 1 :Nat):Int) rfl rfl (w64n oM sD) zN (lw_tvn 1 rfl ?_))))))
    exact ⟨(k + 1),_,rfl,⟨rfl,rfl,rfl,trivial⟩,⟨hE1,sD,(by exact allR_succ hq (ch_ok oM))⟩,by first | omega | (dsimp only; omega)⟩
 ·
  refine q_lss false rfl rfl (decide_eq_false hc2) zN (lw_nil (wp_seq (c_cond_f rfl (wp_exit (t_exit (t_exit (c_exit_here (wp_seq (wp_plain _ [0,0,0,0,0,0,0,0,0] rfl (lw_tv 1 rfl (q_lens (s:=s) u9 rfl zN ?_)))))))))))
  by_cases hc11:((1 :Nat):Int)≤((s.size :Nat):Int)
  ·
   exact q_geq true rfl rfl (decide_eq_true hc11) zN (lw_tv 2 rfl (q_lens (s:=s) u9 rfl (zS (e:=39) rfl rfl rfl) (q_leq (decide (((s.size :Nat):Int)≤((12 :Nat):Int))) rfl rfl rfl (zS (e:=39) rfl rfl rfl) (lw_tvn 2 rfl (wp_ret (post_ret [2] rfl (.bool (decide (((s.size :Nat):Int)≤((12 :Nat):Int)))) rfl ⟨z93_0,hE1⟩))))))
  ·
   exact q_geq false rfl rfl (decide_eq_false hc11) zN (lw_tvn 6 rfl (wp_ret (post_ret [2] rfl (.bool false) rfl ⟨z93_0,hE1⟩)))
theorem c_impl_ValidProgram_1 (w:World) (dx:Nat) (vo:Value) (x:Fn) (bf:Nat) (vf:Value) (f:Fn) (hx:RF [] dx w.heap vo x) (hBf:BX w.heap bf [.string f.name,.int .i64 f.params,vf])  :
  Calls Try.prog 95 #[(.agg #[(.string x.name),(.int .i64 x.params),vo]),.pointer (some ⟨bf,0,none⟩)] w (fun e w'=>e = .returned (.bool (strE x.name f.name))∧Ext w w'):=by
 refine calls_mk [(.agg #[(.string x.name),(.int .i64 x.params),vo]),.pointer (some ⟨bf,0,none⟩)] 9 Try.func95 rfl rfl sM ?_
 have hE0:Ext w w:=Ext.refl w
 have hl_vo:=hx.rn.lenle
 unfold maxLen at hl_vo
 refine wp_seq (wp_plain _ [3,0] rfl ?_)
 have hq2:=hBf.lt
 refine r_boxA (cs:=#[(.string x.name),(.int .i64 x.params),vo]) rfl zN fun w1 hX1 hz1 hB1=>?_
 have hzs1:=hX1.size
 have hE1:=hE0.trans hX1
 have hBfx1:=hBf.ext hX1
 replace hB1:BX w1.heap w.heap.size [(.string x.name),(.int .i64 x.params),vo]:=hB1
 exact lw_tvn 1 rfl (wp_seq (wp_plain _ [0,2,0,2,0,0] rfl (q_fldP (p:=(.pointer (some ⟨w.heap.size,0,none⟩))) (b:=w.heap.size) (o:=0) 0 fd46_0 rfl rfl zN (q_load (p:=(padd (.pointer (some ⟨w.heap.size,0,none⟩)) 0)) (.inr rfl) (.string x.name) one9 rfl (hB1.ldp (i:=0) sM) zN (q_fldP (p:=(.pointer (some ⟨bf,0,none⟩))) (b:=bf) (o:=0) 0 fd46_0 rfl rfl zN (q_load (p:=(padd (.pointer (some ⟨bf,0,none⟩)) 0)) (.inr rfl) (.string f.name) one9 rfl (hBfx1.ldp (i:=0) sM) zN (q_eqls (strE x.name f.name) u9 rfl rfl rfl zN (lw_tvn 1 rfl (wp_ret (post_ret [3] rfl (.bool (strE x.name f.name)) rfl ⟨rfl,hE1⟩))))))))))
theorem c_slices_IndexFunc___impl_Func_impl_Func_ (w:World) (da:Nat) (va:Value) (a:List Fn) (q:Nat) (qf qc:List Value) (pr:Fn→Bool) (ha:RP [] da w.heap va a) (hcf_q:((Try.prog.funcs[q]?).map fun fn=>(fn.name != "runtime.NumGoroutine") && fn.body.isSome) = some true) (hpr:∀ (d9:Nat) (u:Value) (x:Fn) w1,RF [] d9 w1.heap u x→Ext w w1→Calls Try.prog q (qf++[Value.agg #[Value.string x.name,Value.int .i64 x.params,u]]++qc).toArray w1 (fun e w2=>e = .returned (.bool (pr x))∧Ext w1 w2))  :
  Calls Try.prog 105 #[va,.func (.func q) qf.toArray qc.toArray] w (fun e w'=>e = .returned (.int .i64 (ixF pr a))∧Ext w w'):=by
 refine calls_mk [va,.func (.func q) qf.toArray qc.toArray] 19 Try.func105 rfl rfl sM ?_
 have hE0:Ext w w:=Ext.refl w
 have hl_va:=ha.lenle
 unfold maxLen at hl_va
 refine wp_seq (wp_plain _ [0] rfl (lw_tvn 1 rfl (wp_seq (wp_seq (wp_plain _ [0,0,0] rfl (lw_tv 1 rfl (q_len (v:=va) u47 rfl ha.isSl zN (lw_tvn 1 rfl (wp_block ?_)))))))))
 refine c_loop (S:=Nat) (fun (k:Nat)=>([(8,(.int .i64 ((k :Nat):Int))),(0,va),(1,(.func (.func q) qf.toArray qc.toArray)),(7,(.int .i64 ((a.length :Nat):Int)))]:List (Nat × Value))) (fun (k:Nat) (W:World)=>Ext w W∧k≤a.length∧(∀ j,j < k→pr (a.getD j Fn.zero) = false)) (fun (k:Nat)=>a.length - k) 0 ⟨rfl,rfl,rfl,rfl,trivial⟩ ⟨hE0,sD,(by intro j hj; omega)⟩ ?_
 clear hE0
 rintro k ρ1 w1 ⟨hE1,hp1_0,hq⟩
 have hzs1:w.heap.size≤w1.heap.size:=hE1.size
 refine wp_seq (wp_plain _ [0] rfl ?_)
 by_cases hc2:((k :Nat):Int) < ((a.length :Nat):Int)
 ·
  refine q_lss true rfl rfl (decide_eq_true hc2) zN (lw_nil (wp_seq (c_cond_t rfl (wp_skip (wp_seq (wp_block (wp_seq (wp_plain _ [0,0] rfl (lw_tvn 2 rfl (wp_seq (wp_plain _ [0,0,0,0,2,3] rfl (lw_tv 3 rfl (q_idx (v:=va) k u47 tiS46 rfl rfl ha.isSl rfl sD zN ?_)))))))))))))
  obtain ⟨cs3,hr3,hl3⟩:=ha.get (good_rFn da) Fn.zero (k:=k) sD
  obtain ⟨ve3,rfl,hx3⟩:=RF.of hr3
  have hln3:=hx3.rn.lenle
  unfold maxLen at hln3
  refine q_loadA (p:=eptr va k 3) (.inr rfl) [(.string ((a.getD k Fn.zero).name)),(.int .i64 ((a.getD k Fn.zero).params)),ve3] agg46 rfl (fun wq9 hw9=>hl3 wq9 (Chg.of_ext [] (hE1.trans hw9))) rfl zN ?_
  have hcall4:=hpr da ve3 (a.getD k Fn.zero) w1 ⟨hx3.rng,(hx3.rn.ext (good_rdS (good_rEx da)) hE1)⟩ hE1
  refine lw_call q qf qc _ rfl rfl hcf_q zN hcall4 ?_
  rintro e4 w4 ⟨rfl,hX4⟩
  refine ⟨_,rfl,hX4,?_⟩
  have hzs4:=hX4.size
  have hE4:=hE1.trans hX4
  cases hc4:pr (a.getD k Fn.zero)
  ·
   refine lw_nil (c_cond_f rfl (wp_skip (wp_plain _ [0,0] rfl (q_add ((k + 1 :Nat):Int) rfl rfl (w64n oM sD) zN (lw_tvn 1 rfl ?_)))))
   exact ⟨(k + 1),_,rfl,⟨rfl,rfl,rfl,rfl,trivial⟩,⟨hE4,sD,(by exact ix_step hq (by assumption))⟩,by first | omega | (dsimp only; omega)⟩
  ·
   exact lw_nil (c_cond_t rfl (wp_seq (wp_plain _ [0,0] rfl (lw_tvn 2 rfl (wp_ret (b_ret (t_ret (t_ret (b_ret (t_ret (post_ret [4] rfl (.int .i64 ((k :Nat):Int)) rfl ⟨(ret_int (ix_yes Fn.zero hq oM (by assumption))),hE4⟩)))))))))))
 ·
  exact q_lss false rfl rfl (decide_eq_false hc2) zN (lw_nil (wp_seq (c_cond_f rfl (wp_exit (t_exit (t_exit (c_exit_here (wp_seq (wp_plain _ [0] rfl (lw_tvn 1 rfl (wp_ret (post_ret [4] rfl (.int .i64 (-1)) rfl ⟨(ret_int (ix_no Fn.zero hq oM)),hE1⟩))))))))))))
theorem c_slices_ContainsFunc___impl_Func_impl_Func_ (w:World) (da:Nat) (va:Value) (a:List Fn) (q:Nat) (qf qc:List Value) (pr:Fn→Bool) (ha:RP [] da w.heap va a) (hcf_q:((Try.prog.funcs[q]?).map fun fn=>(fn.name != "runtime.NumGoroutine") && fn.body.isSome) = some true) (hpr:∀ (d9:Nat) (u:Value) (x:Fn) w1,RF [] d9 w1.heap u x→Ext w w1→Calls Try.prog q (qf++[Value.agg #[Value.string x.name,Value.int .i64 x.params,u]]++qc).toArray w1 (fun e w2=>e = .returned (.bool (pr x))∧Ext w1 w2))  :
  Calls Try.prog 94 #[va,.func (.func q) qf.toArray qc.toArray] w (fun e w'=>e = .returned (.bool (a.any pr))∧Ext w w'):=by
 refine calls_mk [va,.func (.func q) qf.toArray qc.toArray] 9 Try.func94 rfl rfl sM ?_
 have hE0:Ext w w:=Ext.refl w
 have hl_va:=ha.lenle
 unfold maxLen at hl_va
 refine wp_seq (wp_plain _ [0] rfl (lw_tvn 1 rfl (wp_seq (wp_plain _ [0,0,3,0,0] rfl (lw_tv 2 rfl (lw_call 105 [] [] [va,(.func (.func q) qf.toArray qc.toArray)] rfl rfl cf105 zN (c_slices_IndexFunc___impl_Func_impl_Func_ _ da va (a) q qf qc pr (ha.ext (good_rdS (good_rFn da)) hE0) hcf_q (fun d9 u x w1 hx hw=>hpr d9 u x w1 hx (hE0.trans hw))) ?_))))))
 rintro e1 w1 ⟨rfl,hX1⟩
 refine ⟨_,rfl,hX1,?_⟩
 have hzs1:=hX1.size
 have hE1:=hE0.trans hX1
 exact q_geq (decide (((0 :Nat):Int)≤ixF pr a)) rfl rfl rfl zN (lw_tvn 1 rfl (wp_ret (post_ret [4] rfl (.bool (decide (((0 :Nat):Int)≤ixF pr a))) rfl ⟨(ret_bool (ix_ge pr a)),hE1⟩)))
theorem c_impl_areVars (w:World) (vars:Int) (_hvars:-9223372036854775808≤vars∧vars≤9223372036854775807)  :
  Calls Try.prog 106 #[.int .i64 vars] w (fun e w'=>e = .returned (.bool (inB vars 0 412))∧w' = w):=by
 refine calls_mk [.int .i64 vars] 5 Try.func106 rfl rfl sM ?_
 have hE0:w = w:=rfl
 exact wp_seq (wp_plain _ [0] rfl (lw_tvn 1 rfl (wp_seq (wp_plain _ [0,0,0] rfl (lw_tv 1 rfl (lw_callq 71 [] [] [(.int .i64 vars),(.int .i64 ((0 :Nat):Int)),(.int .i64 ((412 :Nat):Int))] rfl rfl cf71 zN (.bool (decide (((0 :Nat):Int)≤vars) && decide (vars≤((412 :Nat):Int)))) (fun wq=>c_impl_within wq _ _ _ _hvars oM oM) (lw_tvn 1 rfl (wp_ret (post_ret [2] rfl (.bool (decide (((0 :Nat):Int)≤vars) && decide (vars≤((412 :Nat):Int)))) rfl ⟨rfl,hE0⟩)))))))))
theorem exB_t {p:List Fn} {e:Ex} {vars funcs:Int} (h:(0≤vars∧vars≤412)∧(0≤funcs∧funcs≤((p.length:Nat):Int))∧e.size≤400∧e.deep≤60):wf p funcs e vars = exB p e vars funcs:=by
  unfold exB
  rw [inB_iff.2 h.1,inB_iff.2 h.2.1,decide_eq_true h.2.2.1,decide_eq_true h.2.2.2]; rfl
theorem exB_f {p:List Fn} {e:Ex} {vars funcs:Int} (h:¬ ((0≤vars∧vars≤412)∧(0≤funcs∧funcs≤((p.length:Nat):Int))∧e.size≤400∧e.deep≤60)):false = exB p e vars funcs:=by
  cases hh:exB p e vars funcs with
  | false=>rfl
  | true =>
    unfold exB at hh
    simp only [Bool.and_eq_true,decide_eq_true_eq,inB_iff] at hh
    exact absurd ⟨hh.1,hh.2.1,hh.2.2.1,hh.2.2.2.1⟩ h
theorem exB_w {p:List Fn} {e:Ex} {vars funcs:Int} (h:wf p funcs e vars = false):false = exB p e vars funcs:=by
  unfold exB; rw [h]; simp
theorem inB_f {x a b:Int} (h:inB x a b = false):¬ (a≤x∧x≤b):=fun hh=>by rw [inB_iff.2 hh] at h; cases h
theorem inB_d {x a b:Int} (h:(decide (a≤x) && decide (x≤b)) = false):¬ (a≤x∧x≤b):=inB_f h
theorem inB_e {x a b:Int} (h:(decide (a≤x) && decide (x≤b)) = true):a≤x∧x≤b:=inB_iff.1 h
theorem z96_0 {p:Prop} (h:p:=by first | exact ret_bool (exB_w (by assumption)) | exact ret_bool (exB_t ⟨inB_iff.1 (by assumption),inB_e (by assumption),by omega,by omega⟩) | exact ret_bool ((by assumption:wf p funcs ex vars = true).symm.trans (exB_t ⟨inB_iff.1 (by assumption),inB_e (by assumption),by omega,by omega⟩)) | exact ret_bool (exB_f fun hh=>inB_f (by assumption) hh.1) | exact ret_bool (exB_f fun hh=>inB_d (by assumption) hh.2.1) | exact ret_bool (exB_f oM)):p:=h
theorem c_impl_ValidExpr (w:World) (dp:Nat) (vp:Value) (p:List Fn) (dex:Nat) (ve:Value) (ex:Ex) (vars:Int) (funcs:Int) (hp:RP [] dp w.heap vp p) (hex:RX [] dex w.heap ve ex) (_hvars:-9223372036854775808≤vars∧vars≤9223372036854775807) (_hfuncs:-9223372036854775808≤funcs∧funcs≤9223372036854775807) (hs:ex.size≤1000000000) :
  Calls Try.prog 96 #[(.agg #[vp]),(.agg #[(.int .i64 ex.kind),(.int .i64 ex.num),(.int .i64 ex.pick),(.int .i64 ex.count),ve]),.int .i64 vars,.int .i64 funcs] w (fun e w'=>e = .returned (.bool (exB p ex vars funcs))∧Ext w w'):=by
 refine calls_mk [(.agg #[vp]),(.agg #[(.int .i64 ex.kind),(.int .i64 ex.num),(.int .i64 ex.pick),(.int .i64 ex.count),ve]),.int .i64 vars,.int .i64 funcs] 36 Try.func96 rfl rfl sM ?_
 have hE0:Ext w w:=Ext.refl w
 have hl_vp:=hp.lenle
 unfold maxLen at hl_vp
 have hl_ve:=hex.rn.lenle
 unfold maxLen at hl_ve
 refine wp_seq (wp_plain _ [3,3,0] rfl (r_boxA (cs:=#[vp]) rfl zN fun w1 hX1 hz1 hB1=>?_))
 have hzs1:=hX1.size
 have hE1:=hE0.trans hX1
 replace hB1:BX w1.heap w.heap.size [vp]:=hB1
 have hq3:=hB1.lt
 refine r_boxA (cs:=#[(.int .i64 ex.kind),(.int .i64 ex.num),(.int .i64 ex.pick),(.int .i64 ex.count),ve]) rfl zN fun w2 hX2 hz2 hB2=>?_
 have hzs2:=hX2.size
 have hE2:=hE1.trans hX2
 have hB1x2:=hB1.ext hX2
 replace hB2:BX w2.heap w1.heap.size [(.int .i64 ex.kind),(.int .i64 ex.num),(.int .i64 ex.pick),(.int .i64 ex.count),ve]:=hB2
 refine lw_tvn 1 rfl (wp_seq (wp_plain _ [0,0,0,0,0,2,0,0,0,0,2,3,0,0,0,2,3,0,0,0,2,0,0,2,0,3,0,0] rfl (lw_tv 1 rfl (lw_callq 106 [] [] [(.int .i64 vars)] rfl rfl cf106 zN (.bool (inB vars 0 412)) (fun wq=>c_impl_areVars wq _ _hvars) (lw_tv 1 rfl ?_)))))
 cases hb5:(inB vars 0 412)
 ·
  exact lw_tvn 25 rfl (wp_ret (post_ret [8] rfl (.bool false) rfl ⟨z96_0,hE2⟩))
 ·
  refine lw_tv 1 rfl (q_fldP (p:=(.pointer (some ⟨w.heap.size,0,none⟩))) (b:=w.heap.size) (o:=0) 0 fd49_0 rfl rfl (zS (e:=11) rfl rfl rfl) (q_load (p:=(padd (.pointer (some ⟨w.heap.size,0,none⟩)) 0)) (.inr rfl) vp one47 rfl (hB1x2.ldp (i:=0) sM) (zS (e:=11) rfl rfl rfl) (q_len (v:=vp) u47 rfl hp.isSl (zS (e:=11) rfl rfl rfl) (lw_callq 71 [] [] [(.int .i64 funcs),(.int .i64 ((0 :Nat):Int)),(.int .i64 ((p.length :Nat):Int))] rfl rfl cf71 (zS (e:=11) rfl rfl rfl) (.bool (decide (((0 :Nat):Int)≤funcs) && decide (funcs≤((p.length :Nat):Int)))) (fun wq=>c_impl_within wq _ _ _ _hfuncs oM oM) (lw_tv 2 rfl ?_)))))
  cases hb7:(decide (((0 :Nat):Int)≤funcs) && decide (funcs≤((p.length :Nat):Int)))
  ·
   exact lw_tvn 18 rfl (wp_ret (post_ret [8] rfl (.bool false) rfl ⟨z96_0,hE2⟩))
  ·
   refine q_loadA (p:=(.pointer (some ⟨w1.heap.size,0,none⟩))) (.inr rfl) [(.int .i64 ex.kind),(.int .i64 ex.num),(.int .i64 ex.pick),(.int .i64 ex.count),ve] agg43 rfl (fun wq9 hw9=>LD.of_box (BX.ext (w:=w2) hB2 hw9)) rfl (zS (e:=18) rfl rfl rfl) (lw_call 97 [] [] [(.agg #[(.int .i64 ex.kind),(.int .i64 ex.num),(.int .i64 ex.pick),(.int .i64 ex.count),ve])] rfl rfl cf97 (zS (e:=18) rfl rfl rfl) (c_impl_ExprSize _ dex ve (ex) (hex.ext hE2) oM) ?_)
   rintro e8 w8 ⟨rfl,hX8⟩
   refine ⟨_,rfl,hX8,?_⟩
   have hzs8:=hX8.size
   have hE8:=hE2.trans hX8
   have hB1x8:=hB1x2.ext hX8
   have hB2x8:=hB2.ext hX8
   by_cases hc9:((ex.size :Nat):Int)≤((400 :Nat):Int)
   ·
    refine q_leq true rfl rfl (decide_eq_true hc9) (zS (e:=18) rfl rfl rfl) (lw_tv 2 rfl (q_loadA (p:=(.pointer (some ⟨w1.heap.size,0,none⟩))) (.inr rfl) [(.int .i64 ex.kind),(.int .i64 ex.num),(.int .i64 ex.pick),(.int .i64 ex.count),ve] agg43 rfl (fun wq9 hw9=>LD.of_box (BX.ext (w:=w8) hB2x8 hw9)) rfl (zS (e:=23) rfl rfl rfl) (lw_call 107 [] [] [(.agg #[(.int .i64 ex.kind),(.int .i64 ex.num),(.int .i64 ex.pick),(.int .i64 ex.count),ve])] rfl rfl cf107 (zS (e:=23) rfl rfl rfl) (c_impl_ExprDepth _ dex ve (ex) (hex.ext hE8) oM) ?_)))
    rintro e10 w10 ⟨rfl,hX10⟩
    refine ⟨_,rfl,hX10,?_⟩
    have hzs10:=hX10.size
    have hE10:=hE8.trans hX10
    have hB1x10:=hB1x8.ext hX10
    have hB2x10:=hB2x8.ext hX10
    by_cases hc11:((ex.deep :Nat):Int)≤((60 :Nat):Int)
    ·
     refine q_leq true rfl rfl (decide_eq_true hc11) (zS (e:=23) rfl rfl rfl) (lw_tv 2 rfl (q_loadA (p:=(.pointer (some ⟨w.heap.size,0,none⟩))) (.inr rfl) [vp] agg49 rfl (fun wq9 hw9=>LD.of_box (BX.ext (w:=w10) hB1x10 hw9)) rfl (zS (e:=28) rfl rfl rfl) (lw_tv 1 rfl ?_)))
     have hbd12:∀ (vp:Value) (m12_0:Nat) (h12_0:isSl vp m12_0) (wq:World),(Instr.build 134 #[(0,(.agg #[vp])),(1,(.int .i64 funcs))]).run Try.prog wq = .ok (.agg #[vp,(.int .i64 funcs)]) wq:=by intro vp m12_0 h12_0 wq; obtain ⟨a12_0,c12_0,rfl,_⟩:=h12_0; kernel_rfl
     refine q_build (ps:=#[(0,(.agg #[vp])),(1,(.int .i64 funcs))]) (.agg #[vp,(.int .i64 funcs)]) (by simp only [List.map_toArray,List.map_cons,List.map_nil]; rfl) (fun wq=>hbd12 vp _ hp.isSl wq) (zS (e:=28) rfl rfl rfl) (q_loadA (p:=(.pointer (some ⟨w1.heap.size,0,none⟩))) (.inr rfl) [(.int .i64 ex.kind),(.int .i64 ex.num),(.int .i64 ex.pick),(.int .i64 ex.count),ve] agg43 rfl (fun wq9 hw9=>LD.of_box (BX.ext (w:=w10) hB2x10 hw9)) rfl (zS (e:=28) rfl rfl rfl) (lw_tv 1 rfl ?_))
     refine lw_call 108 [] [] [(.agg #[vp,(.int .i64 funcs)]),(.agg #[(.int .i64 ex.kind),(.int .i64 ex.num),(.int .i64 ex.pick),(.int .i64 ex.count),ve]),(.int .i64 vars)] rfl rfl cf108 (zS (e:=28) rfl rfl rfl) (c_impl_checker_isFormed _ dp vp (p) (funcs) dex ve (ex) _ (hp.ext (good_rdS (good_rFn dp)) hE10) _hfuncs (hex.ext hE10) _hvars (by have h1:=inB_iff.1 (by assumption:inB vars 0 412 = true); omega) (by have h2:=inB_e (by assumption:(decide (((0 :Nat):Int)≤funcs) && decide (funcs≤((p.length :Nat):Int))) = true); omega)) ?_
     rintro e13 w13 ⟨rfl,hX13⟩
     refine ⟨_,rfl,hX13,?_⟩
     have hzs13:=hX13.size
     have hE13:=hE10.trans hX13
     exact lw_tvn 2 rfl (wp_ret (post_ret [8] rfl (.bool (wf p funcs ex vars)) rfl ⟨z96_0,hE13⟩))
    ·
     exact q_leq false rfl rfl (decide_eq_false hc11) (zS (e:=23) rfl rfl rfl) (lw_tvn 10 rfl (wp_ret (post_ret [8] rfl (.bool false) rfl ⟨z96_0,hE10⟩)))
   ·
    exact q_leq false rfl rfl (decide_eq_false hc9) (zS (e:=18) rfl rfl rfl) (lw_tvn 15 rfl (wp_ret (post_ret [8] rfl (.bool false) rfl ⟨z96_0,hE8⟩)))
theorem ok_big {p:List Fn} (h:¬ p.length≤16):false = okP p:=by unfold okP; rw [decide_eq_false h]; rfl
theorem ok_bad {p:List Fn} {k:Nat} (hk:k < p.length) (h:fnB p k = false):false = okP p:=by unfold okP; rw [allR_fail hk h,Bool.and_false]
theorem ok_end {p:List Fn} {k:Nat} (hl:p.length≤16) (hk:p.length≤k) (hk2:k≤p.length) (h:(List.range k).all (fnB p) = true):true = okP p:=by
  have:k = p.length:=by omega
  subst this; unfold okP; rw [h,decide_eq_true hl]; rfl
section
variable {p:List Fn} {k:Nat}
theorem fn_1 (h:nmB (p.getD k Fn.zero).name = false):fnB p k = false:=by unfold fnB; rw [h]; rfl
theorem fn_2 (h:(p.take k).any (fun g=>strE g.name (p.getD k Fn.zero).name) = true):fnB p k = false:=by unfold fnB newB; rw [h]; simp
theorem fn_3 (h:(decide (((0:Nat):Int)≤(p.getD k Fn.zero).params) && decide ((p.getD k Fn.zero).params≤((12:Nat):Int))) = false):fnB p k = false:=by
  have h':inB (p.getD k Fn.zero).params 0 12 = false:=h
  unfold fnB; rw [h']; simp
theorem fn_4 (h:(decide (((1:Nat):Int)≤(((p.getD k Fn.zero).outs.length:Nat):Int)) && decide ((((p.getD k Fn.zero).outs.length:Nat):Int)≤((12:Nat):Int))) = false):fnB p k = false:=by
  have h':inB (((p.getD k Fn.zero).outs.length:Nat):Int) 1 12 = false:=h
  unfold fnB; rw [h']; simp
theorem fn_5 {j:Nat} (hj:j < (p.getD k Fn.zero).outs.length) (h:exB p ((p.getD k Fn.zero).outs.getD j Ex.zero) (p.getD k Fn.zero).params ((k:Nat):Int) = false):fnB p k = false:=by
  unfold fnB
  rw [allR_fail hj h]; simp
theorem fn_6 (h:¬ Ex.sizes (p.getD k Fn.zero).outs≤400):fnB p k = false:=by
  unfold fnB; rw [decide_eq_false h]; simp
theorem fn_ok {j:Nat} (h1:nmB (p.getD k Fn.zero).name = true) (h2:(p.take k).any (fun g=>strE g.name (p.getD k Fn.zero).name) = false) (h3:(decide (((0:Nat):Int)≤(p.getD k Fn.zero).params) && decide ((p.getD k Fn.zero).params≤((12:Nat):Int))) = true) (h4:(decide (((1:Nat):Int)≤(((p.getD k Fn.zero).outs.length:Nat):Int)) && decide ((((p.getD k Fn.zero).outs.length:Nat):Int)≤((12:Nat):Int))) = true) (h5:(List.range j).all (fun j=>exB p ((p.getD k Fn.zero).outs.getD j Ex.zero) (p.getD k Fn.zero).params ((k:Nat):Int)) = true) (hj:j = (p.getD k Fn.zero).outs.length) (h6:Ex.sizes (p.getD k Fn.zero).outs≤400):fnB p k = true:=by
  have h3':inB (p.getD k Fn.zero).params 0 12 = true:=h3
  have h4':inB (((p.getD k Fn.zero).outs.length:Nat):Int) 1 12 = true:=h4
  subst hj
  unfold fnB newB
  rw [h1,h2,h3',h4',h5,decide_eq_true h6]; rfl
end
theorem bn_f {b:Bool} (h:(!b) = false):b = true:=by cases b <;> simp_all
theorem bn_t {b:Bool} (h:(!b) = true):b = false:=by cases b <;> simp_all
theorem z91_0 {p:Prop} (h:p:=by first | exact ret_bool (ok_big oM) | exact ret_bool (ok_end oM oM oM hq) | exact ret_bool (ok_bad (k:=k) oM (fn_1 (bn_t (by assumption)))) | exact ret_bool (ok_bad (k:=k) oM (fn_2 (by assumption))) | exact ret_bool (ok_bad (k:=k) oM (fn_3 (bn_t (by assumption)))) | exact ret_bool (ok_bad (k:=k) oM (fn_4 (bn_t (by assumption)))) | exact ret_bool (ok_bad (k:=k) oM (fn_5 (j:=j) oM (bn_t (by assumption)))) | exact ret_bool (ok_bad (k:=k) oM (fn_6 oM))):p:=h
theorem c_impl_ValidProgram (w:World) (dp:Nat) (vp:Value) (p:List Fn) (hp:RP [] dp w.heap vp p) (hz:SzP p) :
  Calls Try.prog 91 #[(.agg #[vp])] w (fun e w'=>e = .returned (.bool (okP p))∧Ext w w'):=by
 refine calls_mk [(.agg #[vp])] 65 Try.func91 rfl rfl sM ?_
 have hE0:Ext w w:=Ext.refl w
 have hl_vp:=hp.lenle
 unfold maxLen at hl_vp
 refine wp_seq (wp_plain _ [3,0] rfl (r_boxA (cs:=#[vp]) rfl zN fun w1 hX1 hz1 hB1=>?_))
 have hzs1:=hX1.size
 have hE1:=hE0.trans hX1
 replace hB1:BX w1.heap w.heap.size [vp]:=hB1
 refine lw_tvn 1 rfl (wp_seq (wp_seq (wp_plain _ [0,2,0,0] rfl (q_fldP (p:=(.pointer (some ⟨w.heap.size,0,none⟩))) (b:=w.heap.size) (o:=0) 0 fd49_0 rfl rfl zN (q_load (p:=(padd (.pointer (some ⟨w.heap.size,0,none⟩)) 0)) (.inr rfl) vp one47 rfl (hB1.ldp (i:=0) sM) zN (q_len (v:=vp) u47 rfl hp.isSl zN ?_))))))
 by_cases hc2:((16 :Nat):Int) < ((p.length :Nat):Int)
 ·
  exact q_gtr true rfl rfl (decide_eq_true hc2) zN (lw_nil (c_cond_t rfl (wp_seq (wp_plain _ [0] rfl (lw_tvn 1 rfl (wp_ret (t_ret (post_ret [2] rfl (.bool false) rfl ⟨z91_0,hE1⟩))))))))
 ·
  refine q_gtr false rfl rfl (decide_eq_false hc2) zN (lw_nil (c_cond_f rfl (wp_skip (wp_seq (wp_seq (wp_plain _ [0,2,0,0] rfl (q_fldP (p:=(.pointer (some ⟨w.heap.size,0,none⟩))) (b:=w.heap.size) (o:=0) 0 fd49_0 rfl rfl zN (q_load (p:=(padd (.pointer (some ⟨w.heap.size,0,none⟩)) 0)) (.inr rfl) vp one47 rfl (hB1.ldp (i:=0) sM) zN (q_len (v:=vp) u47 rfl hp.isSl zN (lw_tvn 1 rfl (wp_block ?_)))))))))))
  refine c_loop (S:=Nat) (fun (k:Nat)=>([(15,(.int .i64 ((k :Nat):Int))),(1,(.pointer (some ⟨w.heap.size,0,none⟩))),(13,vp),(14,(.int .i64 ((p.length :Nat):Int)))]:List (Nat × Value))) (fun (k:Nat) (W:World)=>Ext w W∧BX W.heap w.heap.size [vp]∧k≤p.length∧(List.range k).all (fnB p) = true) (fun (k:Nat)=>p.length - k) 0 ⟨rfl,rfl,rfl,rfl,trivial⟩ ⟨hE1,hB1,sD,(by rfl)⟩ ?_
  clear hE0 hz1 hX1 hzs1 hE1
  rintro k ρ3 w3 ⟨hE3,hL3_0,hp3_0,hq⟩
  have hzs3:w.heap.size≤w3.heap.size:=hE3.size
  have hq4:=hL3_0.lt
  refine wp_seq (wp_plain _ [0] rfl ?_)
  by_cases hc5:((k :Nat):Int) < ((p.length :Nat):Int)
  ·
   refine q_lss true rfl rfl (decide_eq_true hc5) zN (lw_nil (wp_seq (c_cond_t rfl (wp_skip (wp_seq (wp_block (wp_seq (wp_plain _ [0,0,2,3,0,4] rfl (lw_tv 1 rfl (q_idx (v:=vp) k u47 tiS46 rfl rfl hp.isSl rfl sD zN ?_))))))))))
   obtain ⟨cs6,hr6,hl6⟩:=hp.get (good_rFn dp) Fn.zero (k:=k) sD
   obtain ⟨ve6,rfl,hx6⟩:=RF.of hr6
   have hln6:=hx6.rn.lenle
   unfold maxLen at hln6
   refine q_loadA (p:=eptr vp k 3) (.inr rfl) [(.string ((p.getD k Fn.zero).name)),(.int .i64 ((p.getD k Fn.zero).params)),ve6] agg46 rfl (fun wq9 hw9=>hl6 wq9 (Chg.of_ext [] (hE3.trans hw9))) rfl zN ?_
   have hq8:=hL3_0.lt
   refine r_allocA (z:=.agg #[.string ByteArray.empty,.int .i64 0,.slice none 0 0]) zr46 zN fun w7 hX7 hz7 hB7=>?_
   have hzs7:=hX7.size
   have hE7:=hE3.trans hX7
   have hL3_0x7:=hL3_0.ext hX7
   replace hB7:BX w7.heap w3.heap.size [(.string ByteArray.empty),(.int .i64 0),(.slice none 0 0)]:=hB7
   refine lw_tv 1 rfl (e_setA (vs:=[(.string ((p.getD k Fn.zero).name)),(.int .i64 ((p.getD k Fn.zero).params)),ve6]) agg46 rfl rfl hx6.ones hB7 rfl rfl zN fun w9 hC9 hz9 hB9=>?_)
   replace hB9:BX w9.heap w3.heap.size [(.string ((p.getD k Fn.zero).name)),(.int .i64 ((p.getD k Fn.zero).params)),ve6]:=hB9
   have hE9:Ext w w9:=hC9.below hE7 (fun c hc=>by have:=List.mem_singleton.1 hc; omega) hE7.size
   have hzs9:=hC9.size
   have hF10:=hL3_0x7.chg hC9 (fun hm=>by have:=List.mem_singleton.1 hm; omega)
   refine lw_nil (wp_seq (wp_seq (wp_plain _ [0,2,0,0,0,0,2,0,0,0,3,0] rfl ?_)))
   have hzk:=hz k oM
   refine q_fldP (p:=(.pointer (some ⟨w3.heap.size,0,none⟩))) (b:=w3.heap.size) (o:=0) 0 fd46_0 rfl rfl zN (q_load (p:=(padd (.pointer (some ⟨w3.heap.size,0,none⟩)) 0)) (.inr rfl) (.string ((p.getD k Fn.zero).name)) one9 rfl (hB9.ldp (i:=0) sM) zN (lw_callq 93 [] [] [(.string ((p.getD k Fn.zero).name))] rfl rfl cf93 zN (.bool (nmB ((p.getD k Fn.zero).name))) (fun wq=>c_impl_IsName wq ((p.getD k Fn.zero).name) oM) (q_not (!(nmB ((p.getD k Fn.zero).name))) rfl rfl zN (lw_tv 1 rfl ?_))))
   cases hb12:(!(nmB ((p.getD k Fn.zero).name)))
   ·
    refine q_fldP (p:=(.pointer (some ⟨w.heap.size,0,none⟩))) (b:=w.heap.size) (o:=0) 0 fd49_0 rfl rfl (zS (e:=24) rfl rfl rfl) (q_load (p:=(padd (.pointer (some ⟨w.heap.size,0,none⟩)) 0)) (.inr rfl) vp one47 rfl (hF10.ldp (i:=0) sM) (zS (e:=24) rfl rfl rfl) (lw_tv 1 rfl (q_pref (v:=vp) (k:=k) u47 tiS46 rfl hp.isSl hp.capS rfl sD (zS (e:=24) rfl rfl rfl) ?_)))
    have hpf13:=RN.pref (good_rFn dp) (k:=k) hp sD
    refine q_func [] [(.pointer (some ⟨w3.heap.size,0,none⟩))] rfl rfl (zS (e:=24) rfl rfl rfl) (lw_call 94 [] [] [(prefV vp k),(.func (.func 95) #[] #[(.pointer (some ⟨w3.heap.size,0,none⟩))])] rfl rfl cf94 (zS (e:=24) rfl rfl rfl) (c_slices_ContainsFunc___impl_Func_impl_Func_ _ dp (prefV vp k) (p.take k) 95 [] [(.pointer (some ⟨w3.heap.size,0,none⟩))] (fun g=>strE g.name (p.getD k Fn.zero).name) (hpf13.ext (good_rdS (good_rFn dp)) hE9) cf95 (fun d9 u x w1 hx hw=>c_impl_ValidProgram_1 w1 d9 u x w3.heap.size ve6 (p.getD k Fn.zero) hx (hB9.ext hw))) ?_)
    rintro e14 w14 ⟨rfl,hX14⟩
    refine ⟨_,rfl,hX14,?_⟩
    have hzs14:=hX14.size
    have hE14:=hE9.trans hX14
    have hF10x14:=hF10.ext hX14
    have hB9x14:=hB9.ext hX14
    refine lw_tvn 1 rfl ?_
    cases hb15:((p.take k).any (fun g=>strE g.name (p.getD k Fn.zero).name))
    ·
     refine c_cond_f (by first | rfl | (show Value.bool _ = _; rw [hb15])) (wp_skip (wp_seq (wp_seq (wp_plain _ [0,2,0,0,0,0,2,0,0,0,0] rfl (q_fldP (p:=(.pointer (some ⟨w3.heap.size,0,none⟩))) (b:=w3.heap.size) (o:=0) 1 fd46_1 rfl rfl zN (q_load (p:=(padd (.pointer (some ⟨w3.heap.size,0,none⟩)) 1)) (.inr rfl) (.int .i64 ((p.getD k Fn.zero).params)) one2 rfl (hB9x14.ldp (i:=1) sM) zN (lw_callq 71 [] [] [(.int .i64 ((p.getD k Fn.zero).params)),(.int .i64 ((0 :Nat):Int)),(.int .i64 ((12 :Nat):Int))] rfl rfl cf71 zN (.bool (decide (((0 :Nat):Int)≤((p.getD k Fn.zero).params)) && decide (((p.getD k Fn.zero).params)≤((12 :Nat):Int)))) (fun wq=>c_impl_within wq _ _ _ hx6.rng oM oM) ?_)))))))
     refine q_not (!(decide (((0 :Nat):Int)≤((p.getD k Fn.zero).params)) && decide (((p.getD k Fn.zero).params)≤((12 :Nat):Int)))) rfl rfl zN (lw_tv 1 rfl ?_)
     cases hb17:(!(decide (((0 :Nat):Int)≤((p.getD k Fn.zero).params)) && decide (((p.getD k Fn.zero).params)≤((12 :Nat):Int))))
     ·
      refine q_fldP (p:=(.pointer (some ⟨w3.heap.size,0,none⟩))) (b:=w3.heap.size) (o:=0) 2 fd46_2 rfl rfl (zS (e:=36) rfl rfl rfl) (q_load (p:=(padd (.pointer (some ⟨w3.heap.size,0,none⟩)) 2)) (.inr rfl) ve6 one41 rfl (hB9x14.ldp (i:=2) sM) (zS (e:=36) rfl rfl rfl) (q_len (v:=ve6) u41 rfl hx6.rn.isSl (zS (e:=36) rfl rfl rfl) (lw_callq 71 [] [] [(.int .i64 ((((p.getD k Fn.zero).outs).length :Nat):Int)),(.int .i64 ((1 :Nat):Int)),(.int .i64 ((12 :Nat):Int))] rfl rfl cf71 (zS (e:=36) rfl rfl rfl) (.bool (decide (((1 :Nat):Int)≤((((p.getD k Fn.zero).outs).length :Nat):Int)) && decide (((((p.getD k Fn.zero).outs).length :Nat):Int)≤((12 :Nat):Int)))) (fun wq=>c_impl_within wq _ _ _ oM oM oM) ?_)))
      refine q_not (!(decide (((1 :Nat):Int)≤((((p.getD k Fn.zero).outs).length :Nat):Int)) && decide (((((p.getD k Fn.zero).outs).length :Nat):Int)≤((12 :Nat):Int)))) rfl rfl (zS (e:=36) rfl rfl rfl) (lw_tvn 1 rfl ?_)
      cases hb19:(!(decide (((1 :Nat):Int)≤((((p.getD k Fn.zero).outs).length :Nat):Int)) && decide (((((p.getD k Fn.zero).outs).length :Nat):Int)≤((12 :Nat):Int))))
      ·
       refine c_cond_f (by first | rfl | (show Value.bool _ = _; rw [hb19])) (wp_skip (wp_seq (wp_plain _ [0] rfl (lw_tvn 1 rfl (wp_seq (wp_seq (wp_plain _ [0,2,0,0] rfl (q_fldP (p:=(.pointer (some ⟨w3.heap.size,0,none⟩))) (b:=w3.heap.size) (o:=0) 2 fd46_2 rfl rfl zN (q_load (p:=(padd (.pointer (some ⟨w3.heap.size,0,none⟩)) 2)) (.inr rfl) ve6 one41 rfl (hB9x14.ldp (i:=2) sM) zN (q_len (v:=ve6) u41 rfl hx6.rn.isSl zN (lw_tvn 1 rfl (wp_block ?_))))))))))))
       refine c_loop (S:=Nat × Nat) (fun (⟨j,sz⟩:Nat × Nat)=>([(5,(.int .i64 ((sz :Nat):Int))),(46,(.int .i64 ((j :Nat):Int))),(1,(.pointer (some ⟨w.heap.size,0,none⟩))),(3,(.int .i64 ((k :Nat):Int))),(4,(.pointer (some ⟨w3.heap.size,0,none⟩))),(13,vp),(14,(.int .i64 ((p.length :Nat):Int))),(15,(.int .i64 ((k :Nat):Int))),(44,ve6),(45,(.int .i64 ((((p.getD k Fn.zero).outs).length :Nat):Int)))]:List (Nat × Value))) (fun (⟨j,sz⟩:Nat × Nat) (W:World)=>Ext w W∧BX W.heap w.heap.size [vp]∧BX W.heap w3.heap.size [(.string ((p.getD k Fn.zero).name)),(.int .i64 ((p.getD k Fn.zero).params)),ve6]∧j≤(p.getD k Fn.zero).outs.length∧sz = Ex.sizes ((p.getD k Fn.zero).outs.take j)∧(List.range j).all (fun j=>exB p ((p.getD k Fn.zero).outs.getD j Ex.zero) (p.getD k Fn.zero).params ((k :Nat):Int)) = true) (fun (⟨j,sz⟩:Nat × Nat)=>(p.getD k Fn.zero).outs.length - j) (0,0) ⟨rfl,rfl,rfl,rfl,rfl,rfl,rfl,rfl,rfl,rfl,trivial⟩ ⟨hE14,hF10x14,hB9x14,sD,(by rw [List.take_zero,sizes_nil]),(by rfl)⟩ ?_
       clear hL3_0 hE3 hzs3 hln6 hz7 hX7 hzs7 hE7 hL3_0x7 hz9 hC9 hE9 hzs9 hF10 hX14 hzs14 hE14 hF10x14
       rintro ⟨j,sz⟩ ρ20 w20 ⟨hE20,hL20_0,hL20_1,hp20_0,hsz,hqe⟩
       have hzs20:w.heap.size≤w20.heap.size:=hE20.size
       have hq21:=hL20_0.lt
       have hq22:=hL20_1.lt
       refine wp_seq (wp_plain _ [0] rfl ?_)
       by_cases hc23:((j :Nat):Int) < ((((p.getD k Fn.zero).outs).length :Nat):Int)
       ·
        refine q_lss true rfl rfl (decide_eq_true hc23) zN (lw_nil (wp_seq (c_cond_t rfl (wp_skip (wp_seq (wp_block (wp_seq (wp_plain _ [0,2,3,4] rfl (q_idx (v:=ve6) j u41 tiS43 rfl rfl hx6.rn.isSl rfl sD zN ?_)))))))))
        obtain ⟨cs24,hr24,hl24⟩:=hx6.rn.get (good_rEx dp) Ex.zero (k:=j) sD
        obtain ⟨dd24,ve24,hd24,rfl,hx24⟩:=RX.of hr24
        have hln24:=hx24.rn.lenle
        unfold maxLen at hln24
        refine q_loadA (p:=eptr ve6 j 5) (.inr rfl) [(.int .i64 ((((p.getD k Fn.zero).outs).getD j Ex.zero).kind)),(.int .i64 ((((p.getD k Fn.zero).outs).getD j Ex.zero).num)),(.int .i64 ((((p.getD k Fn.zero).outs).getD j Ex.zero).pick)),(.int .i64 ((((p.getD k Fn.zero).outs).getD j Ex.zero).count)),ve24] agg43 rfl (fun wq9 hw9=>hl24 wq9 (Chg.of_ext [] (hE20.trans hw9))) rfl zN ?_
        have hq26:=hL20_0.lt
        have hq27:=hL20_1.lt
        refine r_allocA (z:=.agg #[.int .i64 0,.int .i64 0,.int .i64 0,.int .i64 0,.slice none 0 0]) zr43 zN fun w25 hX25 hz25 hB25=>?_
        have hzs25:=hX25.size
        have hE25:=hE20.trans hX25
        have hL20_0x25:=hL20_0.ext hX25
        have hL20_1x25:=hL20_1.ext hX25
        replace hB25:BX w25.heap w20.heap.size [(.int .i64 0),(.int .i64 0),(.int .i64 0),(.int .i64 0),(.slice none 0 0)]:=hB25
        refine e_setA (vs:=[(.int .i64 ((((p.getD k Fn.zero).outs).getD j Ex.zero).kind)),(.int .i64 ((((p.getD k Fn.zero).outs).getD j Ex.zero).num)),(.int .i64 ((((p.getD k Fn.zero).outs).getD j Ex.zero).pick)),(.int .i64 ((((p.getD k Fn.zero).outs).getD j Ex.zero).count)),ve24]) agg43 rfl rfl hx24.ones hB25 rfl rfl zN fun w28 hC28 hz28 hB28=>?_
        replace hB28:BX w28.heap w20.heap.size [(.int .i64 ((((p.getD k Fn.zero).outs).getD j Ex.zero).kind)),(.int .i64 ((((p.getD k Fn.zero).outs).getD j Ex.zero).num)),(.int .i64 ((((p.getD k Fn.zero).outs).getD j Ex.zero).pick)),(.int .i64 ((((p.getD k Fn.zero).outs).getD j Ex.zero).count)),ve24]:=hB28
        have hE28:Ext w w28:=hC28.below hE25 (fun c hc=>by have:=List.mem_singleton.1 hc; omega) hE25.size
        have hzs28:=hC28.size
        have hF29:=hL20_0x25.chg hC28 (fun hm=>by have:=List.mem_singleton.1 hm; omega)
        have hF30:=hL20_1x25.chg hC28 (fun hm=>by have:=List.mem_singleton.1 hm; omega)
        refine lw_nil (wp_seq (wp_seq (wp_plain _ [2,2,0,2,0,3,0] rfl ?_)))
        have hst:=sizes_step (l:=(p.getD k Fn.zero).outs) (k:=j) oM
        have hle:=sizes_take (p.getD k Fn.zero).outs (j + 1)
        refine q_loadA (p:=(.pointer (some ⟨w.heap.size,0,none⟩))) (.inr rfl) [vp] agg49 rfl (fun wq9 hw9=>LD.of_box (BX.ext (w:=w28) hF29 hw9)) rfl zN (q_loadA (p:=(.pointer (some ⟨w20.heap.size,0,none⟩))) (.inr rfl) [(.int .i64 ((((p.getD k Fn.zero).outs).getD j Ex.zero).kind)),(.int .i64 ((((p.getD k Fn.zero).outs).getD j Ex.zero).num)),(.int .i64 ((((p.getD k Fn.zero).outs).getD j Ex.zero).pick)),(.int .i64 ((((p.getD k Fn.zero).outs).getD j Ex.zero).count)),ve24] agg43 rfl (fun wq9 hw9=>LD.of_box (BX.ext (w:=w28) hB28 hw9)) rfl zN (q_fldP (p:=(.pointer (some ⟨w3.heap.size,0,none⟩))) (b:=w3.heap.size) (o:=0) 1 fd46_1 rfl rfl zN (q_load (p:=(padd (.pointer (some ⟨w3.heap.size,0,none⟩)) 1)) (.inr rfl) (.int .i64 ((p.getD k Fn.zero).params)) one2 rfl (hF30.ldp (i:=1) sM) zN (lw_tv 1 rfl ?_))))
        refine lw_call 96 [] [] [(.agg #[vp]),(.agg #[(.int .i64 ((((p.getD k Fn.zero).outs).getD j Ex.zero).kind)),(.int .i64 ((((p.getD k Fn.zero).outs).getD j Ex.zero).num)),(.int .i64 ((((p.getD k Fn.zero).outs).getD j Ex.zero).pick)),(.int .i64 ((((p.getD k Fn.zero).outs).getD j Ex.zero).count)),ve24]),(.int .i64 ((p.getD k Fn.zero).params)),(.int .i64 ((k :Nat):Int))] rfl rfl cf96 zN (c_impl_ValidExpr _ dp vp (p) dd24 ve24 (((p.getD k Fn.zero).outs).getD j Ex.zero) _ _ (hp.ext (good_rdS (good_rFn dp)) hE28) (hx24.ext hE28) hx6.rng oM oM) ?_
        rintro e31 w31 ⟨rfl,hX31⟩
        refine ⟨_,rfl,hX31,?_⟩
        have hzs31:=hX31.size
        have hE31:=hE28.trans hX31
        have hF29x31:=hF29.ext hX31
        have hF30x31:=hF30.ext hX31
        have hB28x31:=hB28.ext hX31
        refine q_not (!(exB p (((p.getD k Fn.zero).outs).getD j Ex.zero) ((p.getD k Fn.zero).params) ((k :Nat):Int))) rfl rfl zN (lw_nil ?_)
        cases hb32:(!(exB p (((p.getD k Fn.zero).outs).getD j Ex.zero) ((p.getD k Fn.zero).params) ((k :Nat):Int)))
        ·
         refine c_cond_f (by first | rfl | (show Value.bool _ = _; rw [hb32])) (wp_skip (wp_plain _ [0,2,3,0,0] rfl (lw_tv 1 rfl (q_loadA (p:=(.pointer (some ⟨w20.heap.size,0,none⟩))) (.inr rfl) [(.int .i64 ((((p.getD k Fn.zero).outs).getD j Ex.zero).kind)),(.int .i64 ((((p.getD k Fn.zero).outs).getD j Ex.zero).num)),(.int .i64 ((((p.getD k Fn.zero).outs).getD j Ex.zero).pick)),(.int .i64 ((((p.getD k Fn.zero).outs).getD j Ex.zero).count)),ve24] agg43 rfl (fun wq9 hw9=>LD.of_box (BX.ext (w:=w31) hB28x31 hw9)) rfl zN ?_))))
         refine lw_call 97 [] [] [(.agg #[(.int .i64 ((((p.getD k Fn.zero).outs).getD j Ex.zero).kind)),(.int .i64 ((((p.getD k Fn.zero).outs).getD j Ex.zero).num)),(.int .i64 ((((p.getD k Fn.zero).outs).getD j Ex.zero).pick)),(.int .i64 ((((p.getD k Fn.zero).outs).getD j Ex.zero).count)),ve24])] rfl rfl cf97 zN (c_impl_ExprSize _ dd24 ve24 (((p.getD k Fn.zero).outs).getD j Ex.zero) (hx24.ext hE31) oM) ?_
         rintro e33 w33 ⟨rfl,hX33⟩
         refine ⟨_,rfl,hX33,?_⟩
         have hzs33:=hX33.size
         have hE33:=hE31.trans hX33
         have hF29x33:=hF29x31.ext hX33
         have hF30x33:=hF30x31.ext hX33
         have hB28x33:=hB28x31.ext hX33
         refine q_add ((sz + ((p.getD k Fn.zero).outs.getD j Ex.zero).size :Nat):Int) rfl rfl (w64n oM oM) zN (lw_tvn 1 rfl (wp_plain _ [0,0] rfl (q_add ((j + 1 :Nat):Int) rfl rfl (w64n oM sD) zN (lw_tvn 1 rfl ?_))))
         exact ⟨((j + 1),(sz + ((p.getD k Fn.zero).outs.getD j Ex.zero).size)),_,rfl,⟨rfl,rfl,rfl,rfl,rfl,rfl,rfl,rfl,rfl,rfl,trivial⟩,⟨hE33,hF29x33,hF30x33,sD,oM,(by exact allR_succ hqe (bn_f (by assumption)))⟩,by first | omega | (dsimp only; omega)⟩
        ·
         refine c_cond_t (by first | rfl | (show Value.bool _ = _; rw [hb32])) (wp_seq (wp_plain _ [0] rfl (lw_tvn 1 rfl (wp_ret (t_ret (b_ret (t_ret (t_ret (b_ret (t_ret (b_ret (t_ret (t_ret (b_ret (t_ret ?_)))))))))))))))
         exact post_ret [2] rfl (.bool false) rfl ⟨z91_0,hE31⟩
       ·
        refine q_lss false rfl rfl (decide_eq_false hc23) zN (lw_nil (wp_seq (c_cond_f rfl (wp_exit (t_exit (t_exit (c_exit_here (wp_seq (wp_plain _ [0,0] rfl ?_)))))))))
        have hal:=sizes_all (l:=(p.getD k Fn.zero).outs) (k:=j) oM
        refine lw_tv 1 rfl ?_
        by_cases hc34:((400 :Nat):Int) < ((sz :Nat):Int)
        ·
         exact q_gtr true rfl rfl (decide_eq_true hc34) zN (lw_nil (c_cond_t rfl (wp_seq (wp_plain _ [0] rfl (lw_tvn 1 rfl (wp_ret (b_ret (t_ret (t_ret (b_ret (t_ret (post_ret [2] rfl (.bool false) rfl ⟨z91_0,hE20⟩))))))))))))
        ·
         refine q_gtr false rfl rfl (decide_eq_false hc34) zN (lw_nil (c_cond_f rfl (wp_skip (wp_plain _ [0,0] rfl (q_add ((k + 1 :Nat):Int) rfl rfl (w64n oM sD) zN (lw_tvn 1 rfl ?_))))))
         exact ⟨(k + 1),_,rfl,⟨rfl,rfl,rfl,rfl,trivial⟩,⟨hE20,hL20_0,sD,(by exact allR_succ hq (fn_ok (bn_f (by assumption)) (by assumption) (bn_f (by assumption)) (bn_f (by assumption)) hqe oM oM))⟩,by first | omega | (dsimp only; omega)⟩
      ·
       exact c_cond_t (by first | rfl | (show Value.bool _ = _; rw [hb19])) (wp_seq (wp_plain _ [0] rfl (lw_tvn 1 rfl (wp_ret (t_ret (b_ret (t_ret (t_ret (b_ret (t_ret (post_ret [2] rfl (.bool false) rfl ⟨z91_0,hE14⟩)))))))))))
     ·
      exact lw_tvn 6 rfl (c_cond_t rfl (wp_seq (wp_plain _ [0] rfl (lw_tvn 1 rfl (wp_ret (t_ret (b_ret (t_ret (t_ret (b_ret (t_ret (post_ret [2] rfl (.bool false) rfl ⟨z91_0,hE14⟩))))))))))))
    ·
     exact c_cond_t (by first | rfl | (show Value.bool _ = _; rw [hb15])) (wp_seq (wp_plain _ [0] rfl (lw_tvn 1 rfl (wp_ret (t_ret (b_ret (t_ret (t_ret (b_ret (t_ret (post_ret [2] rfl (.bool false) rfl ⟨z91_0,hE14⟩)))))))))))
   ·
    exact lw_tvn 7 rfl (c_cond_t rfl (wp_seq (wp_plain _ [0] rfl (lw_tvn 1 rfl (wp_ret (t_ret (b_ret (t_ret (t_ret (b_ret (t_ret (post_ret [2] rfl (.bool false) rfl ⟨z91_0,hE9⟩))))))))))))
  ·
   exact q_lss false rfl rfl (decide_eq_false hc5) zN (lw_nil (wp_seq (c_cond_f rfl (wp_exit (t_exit (t_exit (c_exit_here (wp_seq (wp_plain _ [0] rfl (lw_tvn 1 rfl (wp_ret (post_ret [2] rfl (.bool true) rfl ⟨z91_0,hE3⟩))))))))))))
end Go.Proofs.Ytemfgblmfahllaa
namespace Go.Proofs.Ytemfgblmfahllaa
open Go Go.RowKit
set_option linter.unusedVariables false
set_option linter.unusedSimpArgs false
set_option maxHeartbeats 4000000
set_option maxRecDepth 100000
attribute [local irreducible] LW
theorem isF_1 {p:List Fn} {f:Int} (h:okP p = false):1 = isF p f:=by unfold isF; rw [h]; rfl
theorem isF_2 {p:List Fn} {f:Int} (h:okP p = true) (h2:¬ (0≤f∧f≤((p.length:Nat):Int) - 1)):2 = isF p f:=by unfold isF; rw [if_pos h,if_neg h2]
theorem isF_3 {p:List Fn} {f:Int} (h:okP p = true) (h2:0≤f∧f≤((p.length:Nat):Int) - 1):0 = isF p f:=by unfold isF; rw [if_pos h,if_pos h2]
theorem z89_0 {p:Prop} (h:p:=by first | exact ret_int (isF_1 (bn_t (by assumption))) | exact ret_int (isF_2 (bn_f (by assumption)) (inB_d (bn_t (by assumption)))) | exact ret_int (isF_3 (bn_f (by assumption)) (inB_e (bn_f (by assumption))))):p:=h
theorem c_impl_isFunc (w:World) (dp:Nat) (vp:Value) (p:List Fn) (f:Int) (hp:RP [] dp w.heap vp p) (_hf:-9223372036854775808≤f∧f≤9223372036854775807) (hz:SzP p) :
  Calls Try.prog 89 #[(.agg #[vp]),.int .i64 f] w (fun e w'=>e = .returned (.int .i64 (isF p f))∧Ext w w'):=by
 refine calls_mk [(.agg #[vp]),.int .i64 f] 17 Try.func89 rfl rfl sM ?_
 have hE0:Ext w w:=Ext.refl w
 have hl_vp:=hp.lenle
 unfold maxLen at hl_vp
 refine wp_seq (wp_plain _ [3,0] rfl (r_boxA (cs:=#[vp]) rfl zN fun w1 hX1 hz1 hB1=>?_))
 have hzs1:=hX1.size
 have hE1:=hE0.trans hX1
 replace hB1:BX w1.heap w.heap.size [vp]:=hB1
 refine lw_tvn 1 rfl (wp_seq (wp_block (wp_seq (wp_plain _ [2,3,0,0] rfl (q_loadA (p:=(.pointer (some ⟨w.heap.size,0,none⟩))) (.inr rfl) [vp] agg49 rfl (fun wq9 hw9=>LD.of_box (BX.ext (w:=w1) hB1 hw9)) rfl zN (lw_call 91 [] [] [(.agg #[vp])] rfl rfl cf91 zN (c_impl_ValidProgram _ dp vp (p) (hp.ext (good_rdS (good_rFn dp)) hE1) (by exact hz)) ?_))))))
 rintro e2 w2 ⟨rfl,hX2⟩
 refine ⟨_,rfl,hX2,?_⟩
 have hzs2:=hX2.size
 have hE2:=hE1.trans hX2
 have hB1x2:=hB1.ext hX2
 refine q_not (!(okP p)) rfl rfl zN (lw_tvn 1 rfl ?_)
 cases hb3:(!(okP p))
 ·
  refine c_cond_f (by first | rfl | (show Value.bool _ = _; rw [hb3])) (wp_seq (wp_plain _ [0,0,2,0,0,0,0,0] rfl (lw_tv 1 rfl (q_fldP (p:=(.pointer (some ⟨w.heap.size,0,none⟩))) (b:=w.heap.size) (o:=0) 0 fd49_0 rfl rfl zN (q_load (p:=(padd (.pointer (some ⟨w.heap.size,0,none⟩)) 0)) (.inr rfl) vp one47 rfl (hB1x2.ldp (i:=0) sM) zN (q_len (v:=vp) u47 rfl hp.isSl zN (q_sub (((p.length :Nat):Int) - 1) rfl rfl (w64 oM oM) zN (lw_callq 71 [] [] [(.int .i64 f),(.int .i64 ((0 :Nat):Int)),(.int .i64 (((p.length :Nat):Int) - 1))] rfl rfl cf71 zN (.bool (decide (((0 :Nat):Int)≤f) && decide (f≤(((p.length :Nat):Int) - 1)))) (fun wq=>c_impl_within wq _ _ _ _hf oM oM) ?_))))))))
  refine q_not (!(decide (((0 :Nat):Int)≤f) && decide (f≤(((p.length :Nat):Int) - 1)))) rfl rfl zN (lw_tvn 1 rfl ?_)
  cases hb5:(!(decide (((0 :Nat):Int)≤f) && decide (f≤(((p.length :Nat):Int) - 1))))
  ·
   exact c_cond_f (by first | rfl | (show Value.bool _ = _; rw [hb5])) (wp_skip (wp_seq (wp_plain _ [0] rfl (lw_tvn 1 rfl (wp_ret (post_ret [4] rfl (.int .i64 ((0 :Nat):Int)) rfl ⟨z89_0,hE2⟩))))))
  ·
   exact c_cond_t (by first | rfl | (show Value.bool _ = _; rw [hb5])) (wp_seq (wp_plain _ [0] rfl (lw_tvn 1 rfl (wp_ret (b_ret (t_ret (post_ret [4] rfl (.int .i64 ((2 :Nat):Int)) rfl ⟨z89_0,hE2⟩)))))))
 ·
  exact c_cond_t (by first | rfl | (show Value.bool _ = _; rw [hb3])) (wp_seq (wp_plain _ [0] rfl (lw_tvn 1 rfl (wp_ret (b_ret (t_ret (post_ret [4] rfl (.int .i64 ((1 :Nat):Int)) rfl ⟨z89_0,hE2⟩)))))))
theorem z85_0 {p:Prop} (h:p:=by unfold fldB inB; first | (simp [*]; done) | (simp [*]; omega) | (simp_all; done) | (simp_all; omega)):p:=h
theorem c_impl_isField_1 (w:World) (a:Int) (b:Int) (_ha:-9223372036854775808≤a∧a≤9223372036854775807) (_hb:-9223372036854775808≤b∧b≤9223372036854775807)  :
  Calls Try.prog 85 #[.int .i64 a,.int .i64 b] w (fun e w'=>e = .returned (.bool (fldB a b))∧w' = w):=by
 refine calls_mk [.int .i64 a,.int .i64 b] 12 Try.func85 rfl rfl sM ?_
 have hE0:w = w:=rfl
 refine wp_seq (wp_plain _ [0] rfl (lw_tvn 1 rfl (wp_seq (wp_plain _ [0,0,0,0,0,0,0,0] rfl (lw_tv 1 rfl (lw_callq 71 [] [] [(.int .i64 a),(.int .i64 ((1 :Nat):Int)),(.int .i64 ((12 :Nat):Int))] rfl rfl cf71 zN (.bool (decide (((1 :Nat):Int)≤a) && decide (a≤((12 :Nat):Int)))) (fun wq=>c_impl_within wq _ _ _ _ha oM oM) (lw_tv 1 rfl ?_)))))))
 cases hb2:(decide (((1 :Nat):Int)≤a) && decide (a≤((12 :Nat):Int)))
 ·
  exact lw_tvn 5 rfl (wp_ret (post_ret [4] rfl (.bool false) rfl ⟨(ret_bool z85_0),hE0⟩))
 ·
  exact lw_tv 2 rfl (q_eql (decide (b = a)) rfl rfl rfl (zS (e:=7) rfl rfl rfl) (lw_tvn 2 rfl (wp_ret (post_ret [4] rfl (.bool (decide (b = a))) rfl ⟨(ret_bool z85_0),hE0⟩))))
theorem shF_n {p:List Fn} {f:Int} {pr:Int→Int→Bool} (h:isF p f≠0):isF p f = shF p f pr:=by unfold shF; rw [if_neg h]
theorem shF_2 {p:List Fn} {f:Int} {pr:Int→Int→Bool} (h:isF p f = 0) (h2:pr (p.getD f.toNat Fn.zero).params (((p.getD f.toNat Fn.zero).outs.length:Nat):Int) = false):2 = shF p f pr:=by unfold shF; rw [if_pos h,h2]; rfl
theorem shF_3 {p:List Fn} {f:Int} {pr:Int→Int→Bool} (h:isF p f = 0) (h2:pr (p.getD f.toNat Fn.zero).params (((p.getD f.toNat Fn.zero).outs.length:Nat):Int) = true):isF p f = shF p f pr:=by unfold shF; rw [if_pos h,h2,h]; rfl
theorem z84_0 {p:Prop} (h:p:=by first | exact ret_int (shF_n oM) | exact ret_int (shF_2 oM (by assumption)) | exact ret_int (shF_3 oM (by assumption))):p:=h
theorem c_impl_isShaped (w:World) (dp:Nat) (vp:Value) (p:List Fn) (f:Int) (q:Nat) (qf qc:List Value) (pr:Int→Int→Bool) (hp:RP [] dp w.heap vp p) (_hf:-9223372036854775808≤f∧f≤9223372036854775807) (hcf_q:((Try.prog.funcs[q]?).map fun fn=>(fn.name != "runtime.NumGoroutine") && fn.body.isSome) = some true) (hpr:∀ (a b:Int) w1,(-9223372036854775808≤a∧a≤9223372036854775807)→(-9223372036854775808≤b∧b≤9223372036854775807)→Calls Try.prog q (qf++[Value.int .i64 a,Value.int .i64 b]++qc).toArray w1 (fun e w2=>e = .returned (.bool (pr a b))∧w2 = w1)) (hz:SzP p) :
  Calls Try.prog 84 #[(.agg #[vp]),.int .i64 f,.func (.func q) qf.toArray qc.toArray] w (fun e w'=>e = .returned (.int .i64 (shF p f pr))∧Ext w w'):=by
 refine calls_mk [(.agg #[vp]),.int .i64 f,.func (.func q) qf.toArray qc.toArray] 32 Try.func84 rfl rfl sM ?_
 have hE0:Ext w w:=Ext.refl w
 have hl_vp:=hp.lenle
 unfold maxLen at hl_vp
 refine wp_seq (wp_plain _ [3,0] rfl (r_boxA (cs:=#[vp]) rfl zN fun w1 hX1 hz1 hB1=>?_))
 have hzs1:=hX1.size
 have hE1:=hE0.trans hX1
 replace hB1:BX w1.heap w.heap.size [vp]:=hB1
 refine lw_tvn 1 rfl (wp_seq (wp_plain _ [2,0,3,0] rfl (q_loadA (p:=(.pointer (some ⟨w.heap.size,0,none⟩))) (.inr rfl) [vp] agg49 rfl (fun wq9 hw9=>LD.of_box (BX.ext (w:=w1) hB1 hw9)) rfl zN (lw_tv 1 rfl (lw_call 89 [] [] [(.agg #[vp]),(.int .i64 f)] rfl rfl cf89 zN (c_impl_isFunc _ dp vp (p) _ (hp.ext (good_rdS (good_rFn dp)) hE1) _hf (by exact hz)) ?_)))))
 rintro e2 w2 ⟨rfl,hX2⟩
 refine ⟨_,rfl,hX2,?_⟩
 have hzs2:=hX2.size
 have hE2:=hE1.trans hX2
 have hB1x2:=hB1.ext hX2
 refine lw_tvn 1 rfl (wp_seq (wp_seq (wp_draw _ [0,0,0,0,0,1,0,0,0,1,0,1,0,0,0,1,0,3,0,0] mixed (by kernel_rfl) (lw_tv 1 rfl ?_))))
 by_cases hc3:isF p f = ((0 :Nat):Int)
 ·
  refine q_eql true rfl rfl (decide_eq_true hc3) zN (lw_tv 2 rfl ?_)
  have hi0:=isF_0 (p:=p) (f:=f) oM
  refine q_fldP (p:=(.pointer (some ⟨w.heap.size,0,none⟩))) (b:=w.heap.size) (o:=0) 0 fd49_0 rfl rfl (zS (e:=13) rfl rfl rfl) (q_load (p:=(padd (.pointer (some ⟨w.heap.size,0,none⟩)) 0)) (.inl rfl) vp one47 rfl (hB1x2.ldp (i:=0) sM) (zS (e:=13) rfl rfl rfl) (lw_tv 1 rfl (q_idx (v:=vp) ((f).toNat) u47 tiS46 rfl rfl hp.isSl oM sD (zS (e:=13) rfl rfl rfl) ?_)))
  obtain ⟨cs4,hr4,hl4⟩:=hp.get (good_rFn dp) Fn.zero (k:=((f).toNat)) sD
  obtain ⟨ve4,rfl,hx4⟩:=RF.of hr4
  have hln4:=hx4.rn.lenle
  unfold maxLen at hln4
  refine q_fldL (p:=eptr vp ((f).toNat) 3) 1 fd46_1 rfl (hl4 _ (Chg.of_ext [] hE2.drew)) (zS (e:=13) rfl rfl rfl) (q_load (p:=(padd (eptr vp ((f).toNat) 3) 1)) (.inl rfl) (.int .i64 ((p.getD ((f).toNat) Fn.zero).params)) one2 rfl ((hl4 _ (Chg.of_ext [] hE2.drew)).ld (i:=1) (by simp [exC,fnC])) (zS (e:=13) rfl rfl rfl) (q_fldP (p:=(.pointer (some ⟨w.heap.size,0,none⟩))) (b:=w.heap.size) (o:=0) 0 fd49_0 rfl rfl (zS (e:=13) rfl rfl rfl) (q_load (p:=(padd (.pointer (some ⟨w.heap.size,0,none⟩)) 0)) (.inl rfl) vp one47 rfl (hB1x2.ldp (i:=0) sM) (zS (e:=13) rfl rfl rfl) (lw_tv 1 rfl ?_))))
  refine q_idx (v:=vp) ((f).toNat) u47 tiS46 rfl rfl hp.isSl oM sD (zS (e:=13) rfl rfl rfl) (q_fldL (p:=eptr vp ((f).toNat) 3) 2 fd46_2 rfl (hl4 _ (Chg.of_ext [] hE2.drew)) (zS (e:=13) rfl rfl rfl) (q_load (p:=(padd (eptr vp ((f).toNat) 3) 2)) (.inl rfl) ve4 one41 rfl ((hl4 _ (Chg.of_ext [] hE2.drew)).ld (i:=2) (by simp [exC,fnC])) (zS (e:=13) rfl rfl rfl) (q_len (v:=ve4) u41 rfl hx4.rn.isSl (zS (e:=13) rfl rfl rfl) ?_)))
  refine lw_call q qf qc _ rfl rfl hcf_q (zS (e:=13) rfl rfl rfl) (hpr ((p.getD ((f).toNat) Fn.zero).params) ((((p.getD ((f).toNat) Fn.zero).outs).length :Nat):Int) _ hx4.rng oM) ?_
  rintro e5 w5 ⟨rfl,hw5⟩
  have hX5:Ext w2.drew w5:=by rw [hw5]; exact Ext.refl _
  refine ⟨_,rfl,hX5,?_⟩
  replace hX5:=hX5.of_drew
  have hzs5:=hX5.size
  have hE5:=hE2.trans hX5
  cases hc5:pr ((p.getD ((f).toNat) Fn.zero).params) ((((p.getD ((f).toNat) Fn.zero).outs).length :Nat):Int)
  ·
   exact q_not true rfl rfl (zS (e:=13) rfl rfl rfl) (lw_tvn 1 rfl (c_cond_t rfl (wp_plain _ [0] rfl (lw_tvn 1 rfl (wp_seq (wp_plain _ [0,0] rfl (lw_tvn 2 rfl (wp_ret (post_ret [6] rfl (.int .i64 ((2 :Nat):Int)) rfl ⟨z84_0,hE5⟩)))))))))
  ·
   exact q_not false rfl rfl (zS (e:=13) rfl rfl rfl) (lw_tvn 1 rfl (c_cond_f rfl (wp_skip (wp_seq (wp_plain _ [0,0] rfl (lw_tvn 2 rfl (wp_ret (post_ret [6] rfl (.int .i64 (isF p f)) rfl ⟨z84_0,hE5⟩))))))))
 ·
  exact q_eql false rfl rfl (decide_eq_false hc3) zN (lw_tvn 18 rfl (c_cond_f rfl (wp_skip (wp_seq (wp_plain _ [0,0] rfl (lw_tvn 2 rfl (wp_ret (post_ret [6] rfl (.int .i64 (isF p f)) rfl ⟨z84_0,hE2.drew⟩))))))))
theorem c_impl_isField (w:World) (dp:Nat) (vp:Value) (p:List Fn) (f:Int) (hp:RP [] dp w.heap vp p) (_hf:-9223372036854775808≤f∧f≤9223372036854775807) (hz:SzP p) :
  Calls Try.prog 79 #[(.agg #[vp]),.int .i64 f] w (fun e w'=>e = .returned (.int .i64 (shF p f fldB))∧Ext w w'):=by
 refine calls_mk [(.agg #[vp]),.int .i64 f] 8 Try.func79 rfl rfl sM ?_
 have hE0:Ext w w:=Ext.refl w
 have hl_vp:=hp.lenle
 unfold maxLen at hl_vp
 refine wp_seq (wp_plain _ [3,0] rfl (r_boxA (cs:=#[vp]) rfl zN fun w1 hX1 hz1 hB1=>?_))
 have hzs1:=hX1.size
 have hE1:=hE0.trans hX1
 replace hB1:BX w1.heap w.heap.size [vp]:=hB1
 refine lw_tvn 1 rfl (wp_seq (wp_plain _ [2,0,3,0] rfl (q_loadA (p:=(.pointer (some ⟨w.heap.size,0,none⟩))) (.inr rfl) [vp] agg49 rfl (fun wq9 hw9=>LD.of_box (BX.ext (w:=w1) hB1 hw9)) rfl zN (lw_tv 1 rfl (lw_call 84 [] [] [(.agg #[vp]),(.int .i64 f),(.func (.func 85) #[] #[])] rfl rfl cf84 zN (c_impl_isShaped _ dp vp (p) _ 85 [] [] fldB (hp.ext (good_rdS (good_rFn dp)) hE1) _hf cf85 (fun a b w1 ha hb=>c_impl_isField_1 w1 a b ha hb) (by exact hz)) ?_)))))
 rintro e2 w2 ⟨rfl,hX2⟩
 refine ⟨_,rfl,hX2,?_⟩
 have hzs2:=hX2.size
 have hE2:=hE1.trans hX2
 have hB1x2:=hB1.ext hX2
 exact lw_tvn 1 rfl (wp_ret (post_ret [4] rfl (.int .i64 (shF p f fldB)) rfl ⟨rfl,hE2⟩))
theorem c_impl_orderOf (w:World) (va:Value) (a:List (List Int)) (ha:RN [] (rdL (rdL rI)) w.heap va a) (hqa:CapS va) (h1:0 < a.length→0 < (a.getD 0 []).length) :
  Calls Try.prog 87 #[va] w (fun e w'=>e = .returned (.int .i64 ((oOf a :Nat):Int))∧Ext w w'):=by
 refine calls_mk [va] 11 Try.func87 rfl rfl sM ?_
 have hE0:Ext w w:=Ext.refl w
 have hl_va:=ha.lenL
 unfold maxLen at hl_va
 refine wp_seq (wp_plain _ [0] rfl (lw_tvn 1 rfl (wp_seq (wp_seq (wp_plain _ [0,0,0] rfl (lw_tv 1 rfl (q_len (v:=va) u37 rfl ha.slL zN ?_)))))))
 by_cases hc1:((a.length :Nat):Int) = ((0 :Nat):Int)
 ·
  exact q_eql true rfl rfl (decide_eq_true hc1) zN (lw_nil (c_cond_t rfl (wp_seq (wp_plain _ [0] rfl (lw_tvn 1 rfl (wp_ret (t_ret (post_ret [2] rfl (.int .i64 ((0 :Nat):Int)) rfl ⟨(ret_int (by unfold oOf; have:a = []:=List.eq_nil_of_length_eq_zero oM; subst this; rfl)),hE0⟩))))))))
 ·
  refine q_eql false rfl rfl (decide_eq_false hc1) zN (lw_nil (c_cond_f rfl (wp_skip (wp_seq (wp_plain _ [0,0,2,0,0,0] rfl (lw_tv 1 rfl (q_idx (v:=va) 0 u37 ti25 rfl rfl ha.slL rfl sD zN ?_)))))))
  obtain ⟨ue2,hl2,hr2⟩:=RN.getL (w:=w) g1 [] (k:=0) ha sD
  have hln2:=hr2.lenL
  unfold maxLen at hln2
  exact q_load (p:=eptr va 0 1) (.inr rfl) ue2 one25 rfl (hl2 _ (Chg.of_ext [] hE0)) zN (q_len (v:=ue2) u25 rfl hr2.slL zN (q_sub (((a.getD 0 []).length - 1 :Nat):Int) rfl rfl (by rw [w64 oM oM]; omega) zN (lw_tvn 1 rfl (wp_ret (post_ret [2] rfl (.int .i64 (((a.getD 0 []).length - 1 :Nat):Int)) rfl ⟨(ret_int rfl),hE0⟩)))))
theorem itg_start (a:List Int):mix 1 (itg a) (List.replicate a.length 0) = List.replicate a.length 0:=by
  cases a with
  | nil=>rfl
  | cons x l =>
    have h0:(itg (x :: l)).take 1 = [0]:=by
      unfold itg tab
      rw [List.length_cons,List.range_succ_eq_map]; simp
    unfold mix
    rw [h0,List.length_cons,List.replicate_succ]; rfl
theorem itg_step {a:List Int} {k:Nat} (h1:1≤k) (hk:k < a.length):mix (k + 1) (itg a) (List.replicate a.length 0) = (mix k (itg a) (List.replicate a.length 0)).set k (md (a.getD (k - 1) 0 * inv ((k:Nat):Int))):=by
  have h:=mix_tab (f:=fun k=>if k = 0 then 0 else md (a.getD (k - 1) 0 * inv ((k:Nat):Int))) (z:=List.replicate a.length 0) (n:=a.length) (k:=k) (by simp) hk
  rw [if_neg (show ¬ k = 0 by omega)] at h
  exact h
theorem c_impl_integral (w:World) (va:Value) (a:List Int) (ha:Rd (rdL rI) w.heap va a) (hla:a.length≤1000000000000) (hqa:allN a = true) :
  Calls Try.prog 88 #[va] w (fun e w'=>∃ v0:Value,e = .returned (v0)∧Ext w w'∧Fr (owL rI 2) w.heap.size w'.heap.size w'.heap v0 (itg a)):=by
 refine calls_mk [va] 27 Try.func88 rfl rfl sM ?_
 have hE0:Ext w w:=Ext.refl w
 have hl_va:=ha.lenle
 refine wp_seq (wp_plain _ [0] rfl (lw_tvn 1 rfl (wp_seq (wp_plain _ [0,0,3,0] rfl (lw_tv 1 rfl (q_len (v:=va) u25 rfl ha.isSl zN (r_make (n:=a.length) u25 ti2 rfl rfl rfl sD zN fun v1 w1 hX1 hz1 hO1=>?_)))))))
 have hzs1:=hX1.size
 have hE1:=hE0.trans hX1
 refine lw_tvn 1 rfl (wp_seq (wp_seq (wp_plain _ [0] rfl (lw_tvn 1 rfl (wp_block (c_loop (S:=Nat) (fun (k:Nat)=>([(4,(.int .i64 ((k :Nat):Int))),(0,va),(3,v1)]:List (Nat × Value))) (fun (k:Nat) (W:World)=>Ext w W∧Fr (owL rI 2) w.heap.size W.heap.size W.heap v1 (mix k (itg a) (List.replicate a.length 0))∧1≤k∧k≤a.length + 1) (fun (k:Nat)=>a.length - k) 1 ⟨rfl,rfl,rfl,trivial⟩ ⟨hE1,(by have h:=hO1.up o1; rw [itg_start]; exact h),oM,oM⟩ ?_))))))
 clear hE0 hO1 hz1 hX1 hzs1 hE1
 rintro k ρ2 w2 ⟨hE2,hL2_0,hp2_0,hp2_1⟩
 have hzs2:w.heap.size≤w2.heap.size:=hE2.size
 have hml:=mix_len k (itg a) (List.replicate a.length 0) (by simp [itg])
 rw [List.length_replicate] at hml
 have hga:=allN_get hqa (k - 1)
 refine wp_seq (wp_seq (wp_plain _ [0,0,0,0] rfl (lw_tv 2 rfl (q_len (v:=va) u25 rfl ha.isSl zN ?_))))
 by_cases hc3:((k :Nat):Int) < ((a.length :Nat):Int)
 ·
  refine q_lss true rfl rfl (decide_eq_true hc3) zN (lw_nil (c_cond_t rfl (wp_skip (wp_seq (wp_block (wp_draw _ [0,0,0,0,0,0,1,0,0,0,0,0,4] mixed (by kernel_rfl) (lw_tv 4 rfl (q_sub ((k - 1 :Nat):Int) rfl rfl (by rw [w64 oM oM]; omega) zN (q_idx (v:=va) (k - 1) u25 ti2 rfl rfl ha.isSl rfl sD zN ?_)))))))))
  refine q_load (p:=eptr va (k - 1) 1) (.inl rfl) (.int .i64 (a.getD (k - 1) 0)) one2 rfl (ldH_ext hE2.drew (ha.getI sD).1) zN (lw_tv 1 rfl (lw_callq 51 [] [] [(.int .i64 ((k :Nat):Int))] rfl rfl cf51 zN (.int .i64 (inv ((k :Nat):Int))) (fun wq=>c_impl_inverse wq _ oM) (q_mul (wr ((a.getD (k - 1) 0) * (inv ((k :Nat):Int)))) rfl rfl rfl zN (q_rem (md (a.getD (k - 1) 0 * inv ((k :Nat):Int))) rfl rfl (by decide) (nm_eq hga (inv_num _)) zN ?_))))
  refine q_idx (v:=v1) k u25 ti2 rfl rfl hL2_0.isSl rfl sD zN (e_setI (v:=v1) (w:=w2.drew) sz2 rfl rfl (md_rng _) hL2_0 sD zN fun w5 F5 hC5 hz5 hF5 hO5=>?_)
  replace hC5:=hC5.of_drew
  have hE5:Ext w w5:=hC5.below hE2 (fun c hc=>Nat.le_trans (Nat.le_refl _) (hF5 c hc).1) hE2.size
  have hzs5:=hC5.size
  exact lw_nil (wp_plain _ [0,0,0] rfl (lw_tv 1 rfl (q_add ((k + 1 :Nat):Int) rfl rfl (w64n oM sD) zN (lw_tvn 1 rfl ⟨(k + 1),_,rfl,⟨rfl,rfl,rfl,trivial⟩,⟨hE5,(by rw [itg_step oM oM]; exact hO5.up o1),oM,oM⟩,by first | omega | (dsimp only; omega)⟩))))
 ·
  exact q_lss false rfl rfl (decide_eq_false hc3) zN (lw_nil (c_cond_f rfl (wp_exit (t_exit (t_exit (c_exit_here (wp_seq (wp_plain _ [0,0] rfl (lw_tvn 2 rfl (wp_ret (post_ret [2] rfl v1 rfl ⟨v1,rfl,hE2,(by have h:=hL2_0.up o1; rwa [mix_all (by simp [itg]) (by simp; omega)] at h)⟩)))))))))))
theorem picR_nil {p:List Fn} {f:Nat} {y:List Sr} (h:EvP p (oOf y + 1) f y) (hc:picC p f y≠0):picR p f y = []:=by
  unfold picR; rw [h.non hc]; rfl
theorem pic_ok {p:List Fn} {f:Nat} {y:List Sr} (h:EvP p (oOf y + 1) f y) (hc:picC p f y = 0) (hl:(p.getD f Fn.zero).outs.length = y.length) (hy:SrE (oOf y + 1) y):(picR p f y).length = y.length∧SrE (oOf y + 1) (picR p f y):=by
  refine ⟨by unfold picR; rw [picS_len,h.len hc,hl],?_⟩
  unfold picR
  exact picS_ser (by omega) h.ser hy (by rw [h.len hc]; omega)
theorem z80_0 {p:Prop} (h:p:=by first | omega | assumption | (simp only [List.length_nil,List.length_cons,List.length_append,List.length_set,List.length_replicate,itg_len,picS_len]; omega) | (simp [List.length_nil,List.length_cons,List.length_append,List.length_set,List.length_replicate,itg_len,picS_len]; done) | (simp [List.length_nil,List.length_cons,List.length_append,List.length_set,List.length_replicate,itg_len,picS_len]; omega)):p:=h
theorem c_impl_Program_picard (w:World) (dp:Nat) (vp:Value) (p:List Fn) (f:Int) (vy:Value) (y:List (List Int)) (hp:RP [] dp w.heap vp p) (_hf:-9223372036854775808≤f∧f≤9223372036854775807) (hy:RN [] (rdL (rdL rI)) w.heap vy y) (hqy:CapS vy) (hvp:VPr p) (hf:0≤f∧f < ((p.length :Nat):Int)) (hl:((y.length :Nat):Int) = (p.getD f.toNat Fn.zero).params) (hou:((p.getD f.toNat Fn.zero).outs.length:Int) = (p.getD f.toNat Fn.zero).params) (hse:SrE (oOf y + 1) y) (ho:oOf y≤12) (hy0:0 < y.length) :
  Calls Try.prog 80 #[(.agg #[vp]),.int .i64 f,vy] w (fun e w'=>∃ v0:Value,e = .returned (.tuple #[v0,.int .i64 (picC p f.toNat y)])∧Ext w w'∧Fr (owL (owL rI 2) 25) w.heap.size w'.heap.size w'.heap v0 (picR p f.toNat y)∧(0≤picC p f.toNat y∧picC p f.toNat y≤9)∧(picC p f.toNat y = 0→(picR p f.toNat y).length = y.length∧SrE (oOf y + 1) (picR p f.toNat y))∧(picC p f.toNat y≠0→picR p f.toNat y = [])):=by
 refine calls_mk [(.agg #[vp]),.int .i64 f,vy] 52 Try.func80 rfl rfl sM ?_
 have hE0:Ext w w:=Ext.refl w
 have hl_vp:=hp.lenle
 unfold maxLen at hl_vp
 have hl_vy:=hy.lenL
 unfold maxLen at hl_vy
 have hy1:=(hse 0 hy0).1
 have hpar:=hvp.par f.toNat oM
 refine wp_seq (wp_plain _ [3,0,0] rfl (r_boxA (cs:=#[vp]) rfl zN fun w1 hX1 hz1 hB1=>?_))
 have hzs1:=hX1.size
 have hE1:=hE0.trans hX1
 replace hB1:BX w1.heap w.heap.size [vp]:=hB1
 refine lw_tvn 2 rfl (wp_seq (wp_draw _ [1,0,0,0,3,3,0,0,0,0,0,0,0] mixed (by kernel_rfl) (q_loadA (p:=(.pointer (some ⟨w.heap.size,0,none⟩))) (.inl rfl) [vp] agg49 rfl (fun wq9 hw9=>LD.of_box (BX.ext (w:=w1.drew) hB1 hw9)) rfl zN (lw_tv 3 rfl (lw_call 87 [] [] [vy] rfl rfl cf87 zN (c_impl_orderOf _ vy (y) (hy.ext g2 hE1.drew) hqy (by intro _; omega)) ?_)))))
 rintro e2 w2 ⟨rfl,hX2⟩
 refine ⟨_,rfl,hX2,?_⟩
 replace hX2:=hX2.of_drew
 have hzs2:=hX2.size
 have hE2:=hE1.trans hX2
 refine lw_call 86 [] [] [(.agg #[vp]),(.int .i64 f),vy,(.int .i64 ((oOf y :Nat):Int))] rfl rfl cf86 zN (c_impl_Program_evaluated _ dp vp (p) _ vy (y) (oOf y) (hp.ext (good_rdS (good_rFn dp)) hE2) _hf (hy.ext g2 hE2) hqy (by exact hvp) (by exact hf) (by exact hl) (by exact hse) (by exact ho)) ?_
 rintro e3 w3 ⟨v3_0,rfl,hX3,hO3_0,hP3_0⟩
 refine ⟨_,rfl,hX3,?_⟩
 have hzs3:=hX3.size
 have hE3:=hE2.trans hX3
 refine lw_tv 1 rfl (q_extract (vs:=[v3_0,(.int .i64 ((evT p ((oOf y) + 1) f.toNat y :Nat):Int)),(.int .i64 (evD p ((oOf y) + 1) f.toNat y))]) v3_0 rfl rfl zN (q_extract (vs:=[v3_0,(.int .i64 ((evT p ((oOf y) + 1) f.toNat y :Nat):Int)),(.int .i64 (evD p ((oOf y) + 1) f.toNat y))]) (.int .i64 ((evT p ((oOf y) + 1) f.toNat y :Nat):Int)) rfl rfl zN (q_extract (vs:=[v3_0,(.int .i64 ((evT p ((oOf y) + 1) f.toNat y :Nat):Int)),(.int .i64 (evD p ((oOf y) + 1) f.toNat y))]) (.int .i64 (evD p ((oOf y) + 1) f.toNat y)) rfl rfl zN (lw_tvn 3 rfl (wp_seq (wp_seq (wp_plain _ [0,0] rfl ?_)))))))
 have hEV:=‹EvP p (oOf y + 1) f.toNat y›
 have hec:=hEV.code
 have hes:=hEV.ser
 have hel:=hEV.len
 refine lw_tv 1 rfl ?_
 by_cases hc4:evD p ((oOf y) + 1) f.toNat y≠((0 :Nat):Int)
 ·
  exact q_neq true rfl rfl (decide_eq_true hc4) zN (lw_nil (c_cond_t rfl (wp_seq (wp_plain _ [0,0,0] rfl (lw_tvn 3 rfl (wp_ret (t_ret (post_ret [6,7] rfl (.tuple #[(.slice none 0 0),(.int .i64 (evD p ((oOf y) + 1) f.toNat y))]) rfl ⟨(.slice none 0 0),rfl,hE3,(by rw [picR_nil hEV (by unfold picC; omega)]; exact frNil _ _ _),hEV.code,(fun h9=>pic_ok hEV h9 oM hse),(fun h9=>picR_nil hEV h9)⟩))))))))
 ·
  refine q_neq false rfl rfl (decide_eq_false hc4) zN (lw_nil (c_cond_f rfl (wp_skip (wp_seq (wp_plain _ [3,0] rfl (r_nil (owL rI 2) o1 u37 ti25 zN fun v5 w5 hX5 hz5 hO5=>?_))))))
  have hzs5:=hX5.size
  have hE5:=hE3.trans hX5
  have hO3_0x5:=hO3_0.ext (o2) hX5
  refine lw_tvn 1 rfl (wp_seq (wp_seq (wp_plain _ [0,0,0] rfl (lw_tv 1 rfl (q_len (v:=v3_0) u37 rfl hO3_0x5.isSl zN (lw_tvn 1 rfl (wp_block ?_)))))))
  refine c_loop (S:=Nat × Value) (fun (⟨k,vo⟩:Nat × Value)=>([(11,vo),(31,(.int .i64 ((k :Nat):Int))),(2,vy),(29,v3_0),(30,(.int .i64 (((evR p ((oOf y) + 1) f.toNat y).length :Nat):Int)))]:List (Nat × Value))) (fun (⟨k,vo⟩:Nat × Value) (W:World)=>Ext w W∧Fr (owL (owL rI 2) 25) w3.heap.size W.heap.size W.heap vo ((picS (evR p ((oOf y) + 1) f.toNat y) y).take k)∧Fr (owL (owL rI 2) 25) w2.heap.size w3.heap.size W.heap v3_0 (evR p ((oOf y) + 1) f.toNat y)∧k≤((evR p ((oOf y) + 1) f.toNat y)).length∧w3.heap.size≤W.heap.size) (fun (⟨k,vo⟩:Nat × Value)=>((evR p ((oOf y) + 1) f.toNat y)).length - k) (0,v5) ⟨rfl,rfl,rfl,rfl,rfl,trivial⟩ ⟨hE5,hO5.up o2,hO3_0x5,z80_0,oM⟩ ?_
  clear hE0 hz1 hX1 hzs1 hE1 hX2 hO3_0 hX3 hO5 hz5 hX5 hzs5 hE5 hO3_0x5
  rintro ⟨k,vo⟩ ρ6 w6 ⟨hE6,hL6_0,hL6_1,hp6_0,hkB7⟩
  have hzs6:w.heap.size≤w6.heap.size:=hE6.size
  refine wp_seq (wp_plain _ [0] rfl ?_)
  by_cases hc8:((k :Nat):Int) < (((evR p ((oOf y) + 1) f.toNat y).length :Nat):Int)
  ·
   refine q_lss true rfl rfl (decide_eq_true hc8) zN (lw_nil (wp_seq (c_cond_t rfl (wp_skip (wp_seq (wp_block (wp_seq (wp_plain _ [0,0,2,0,0] rfl (lw_tv 1 rfl (q_idx (v:=v3_0) k u37 ti25 rfl rfl hL6_1.isSl rfl z80_0 zN ?_))))))))))
   obtain ⟨ue9,hl9,hd9⟩:=hL6_1.rd2.get (k:=k) [] z80_0
   have hln9:=hd9.lenle
   refine q_load (p:=eptr v3_0 k 1) (.inr rfl) ue9 one25 rfl hl9 zN (lw_tvn 2 rfl (wp_seq (wp_plain _ [0,3,0] rfl ?_)))
   have hvk:=hes k oM
   have hvl:=hvk.1
   have hyk:=hse k oM
   have hyl:=hyk.1
   refine lw_tv 1 rfl (lw_call 88 [] [] [ue9] rfl rfl cf88 zN (c_impl_integral _ _ _ hd9 oM (by exact hvk.2)) ?_)
   rintro e10 w10 ⟨v10_0,rfl,hX10,hO10_0⟩
   refine ⟨_,rfl,hX10,?_⟩
   have hzs10:=hX10.size
   have hE10:=hE6.trans hX10
   have hL6_0x10:=hL6_0.ext (o2) hX10
   have hL6_1x10:=hL6_1.ext (o2) hX10
   have hd9x10:=hd9.ext g1 hX10
   have hlx11:=ldH_ext hX10 hl9
   refine lw_tvn 1 rfl (wp_seq (wp_plain _ [0,0,0,0,2,0,2,0,4] rfl (lw_tv 3 rfl (q_idx (v:=vy) k u37 ti25 rfl rfl hy.slL rfl z80_0 zN ?_))))
   obtain ⟨ue12,hl12,hr12⟩:=RN.getL (w:=w) g1 [] (k:=k) hy z80_0
   have hln12:=hr12.lenL
   unfold maxLen at hln12
   refine q_load (p:=eptr vy k 1) (.inr rfl) ue12 one25 rfl (hl12 _ (Chg.of_ext [] hE10)) zN (q_idx (v:=ue12) 0 u25 ti2 rfl rfl hr12.slL rfl z80_0 zN ?_)
   have hg13:=RN.getI (w:=w) (k:=0) hr12 z80_0
   refine q_load (p:=eptr ue12 0 1) (.inr rfl) (.int .i64 ((y.getD k []).getD 0 0)) one2 rfl (hg13.1 _ (Chg.of_ext [] hE10)) zN (q_idx (v:=v10_0) 0 u25 ti2 rfl rfl hO10_0.isSl rfl z80_0 zN ?_)
   refine e_setI (v:=v10_0) (w:=w10) sz2 rfl rfl hg13.2 hO10_0 z80_0 zN fun w14 F14 hC14 hz14 hF14 hO14=>?_
   have hE14:Ext w w14:=hC14.below hE10 (fun c hc=>Nat.le_trans hE6.size (hF14 c hc).1) hE10.size
   have hzs14:=hC14.size
   have hF15:=hL6_0x10.chg (o2) hC14 (fun c hc=>by have:=hF14 c hc; omega)
   have hF16:=hL6_1x10.chg (o2) hC14 (fun c hc=>by have:=hF14 c hc; omega)
   refine lw_nil (wp_plain _ [0,0,3,4,0] rfl (lw_tv 2 rfl (r_one (u:=v10_0) (B:=w6.heap.size) o1 u37 ti25 rfl rfl hO14 (by first | exact Nat.le_refl _ | omega) zN fun v17 w17 hX17 hz17 hO17=>?_)))
   have hzs17:=hX17.size
   have hE17:=hE14.trans hX17
   have hF15x17:=hF15.ext (o2) hX17
   have hF16x17:=hF16.ext (o2) hX17
   refine e_appF o1 (v:=vo) (a:=v17) u37 ti25 rfl rfl rfl hF15x17 oM hO17 oM oM z80_0 (by unfold maxLen; first | omega | assumption | (simp only [List.length_set,itg_len,picS_len]; omega) | (simp [itg_len,picS_len]; omega)) zN fun v18 w18 F18 hC18 hF18 hO18=>?_
   have hE18:Ext w w18:=hC18.below hE17 (fun c hc=>Nat.le_trans hE3.size (hF18 c hc).1) hE17.size
   have hzs18:=hC18.size
   have hF19:=hF16x17.chg (o2) hC18 (fun c hc=>by have:=hF18 c hc; omega)
   refine lw_tvn 1 rfl (wp_plain _ [0,0] rfl (q_add ((k + 1 :Nat):Int) rfl rfl (w64n oM z80_0) zN (lw_tvn 1 rfl ?_)))
   exact ⟨((k + 1),v18),_,rfl,⟨rfl,rfl,rfl,rfl,rfl,trivial⟩,⟨hE18,(by rw [take_snoc [] (by rw [picS_len]; omega)]; unfold picS; rw [tab_get _ oM]; exact hO18.up o2),hF19,z80_0,oM⟩,by first | omega | (dsimp only; omega)⟩
  ·
   exact q_lss false rfl rfl (decide_eq_false hc8) zN (lw_nil (wp_seq (c_cond_f rfl (wp_exit (t_exit (t_exit (c_exit_here (wp_seq (wp_plain _ [0,0,0] rfl (lw_tvn 3 rfl (wp_ret (post_ret [6,7] rfl (.tuple #[vo,(.int .i64 ((0 :Nat):Int))]) rfl ⟨vo,(by rw [show picC p f.toNat y = 0 from by unfold picC; omega]; rfl),hE6,(by have h:=(hL6_0.up o2).low hE3.size; rwa [List.take_of_length_le (by rw [picS_len]; omega)] at h),hEV.code,(fun h9=>pic_ok hEV h9 oM hse),(fun h9=>picR_nil hEV h9)⟩))))))))))))
theorem c_impl_Program_flow (w:World) (dp:Nat) (vp:Value) (p:List Fn) (f:Int) (va:Value) (a:List Int) (o:Int) (hp:RP [] dp w.heap vp p) (_hf:-9223372036854775808≤f∧f≤9223372036854775807) (ha:Rd (rdL rI) w.heap va a) (_ho:-9223372036854775808≤o∧o≤9223372036854775807) (hvp:VPr p) (hf:0≤f∧f < ((p.length :Nat):Int)) (hl:((a.length :Nat):Int) = (p.getD f.toNat Fn.zero).params) (hou:((p.getD f.toNat Fn.zero).outs.length:Int) = (p.getD f.toNat Fn.zero).params) (ha0:0 < a.length) (hna:allN a = true) (ho:0≤o∧o≤12) :
  Calls Try.prog 53 #[(.agg #[vp]),.int .i64 f,va,.int .i64 o] w (fun e w'=>∃ v0:Value,e = .returned (.tuple #[v0,.int .i64 (flC p f.toNat (extS a (o.toNat + 1)) (o.toNat + 1))])∧Ext w w'∧Fr (owL (owL rI 2) 25) w.heap.size w'.heap.size w'.heap v0 (flR p f.toNat (extS a (o.toNat + 1)) (o.toNat + 1))∧FlP p f.toNat (extS a (o.toNat + 1)) (o.toNat + 1) o.toNat):=by
 refine calls_mk [(.agg #[vp]),.int .i64 f,va,.int .i64 o] 33 Try.func53 rfl rfl sM ?_
 have hE0:Ext w w:=Ext.refl w
 have hl_vp:=hp.lenle
 unfold maxLen at hl_vp
 have hl_va:=ha.lenle
 have hpar:=hvp.par f.toNat oM
 refine wp_seq (wp_plain _ [3,0,0] rfl (r_boxA (cs:=#[vp]) rfl zN fun w1 hX1 hz1 hB1=>?_))
 have hzs1:=hX1.size
 have hE1:=hE0.trans hX1
 replace hB1:BX w1.heap w.heap.size [vp]:=hB1
 refine lw_tvn 2 rfl (wp_seq (wp_plain _ [0,0,3,0] rfl (lw_tv 2 rfl (lw_call 47 [] [] [va,(.int .i64 o)] rfl rfl cf47 zN (c_impl_extended _ _ _ _ (ha.ext g1 hE1) _ho oM oM) ?_))))
 rintro e2 w2 ⟨v2_0,rfl,hX2,hO2_0⟩
 refine ⟨_,rfl,hX2,?_⟩
 have hzs2:=hX2.size
 have hE2:=hE1.trans hX2
 have hB1x2:=hB1.ext hX2
 refine lw_tvn 1 rfl (wp_seq (wp_seq (wp_plain _ [0,0,0] rfl (lw_tv 1 rfl (q_add ((o.toNat + 1 :Nat):Int) rfl rfl (by rw [w64 oM oM]; omega) zN (lw_tvn 1 rfl (wp_block ?_)))))))
 refine c_loop (S:=Nat × Value × List (List Int)) (fun (⟨k,vy,ys⟩:Nat × Value × List (List Int))=>([(10,vy),(18,(.int .i64 ((k :Nat):Int))),(1,(.int .i64 f)),(4,(.pointer (some ⟨w.heap.size,0,none⟩))),(17,(.int .i64 ((o.toNat + 1 :Nat):Int)))]:List (Nat × Value))) (fun (⟨k,vy,ys⟩:Nat × Value × List (List Int)) (W:World)=>Ext w W∧Fr (owL (owL rI 2) 25) w.heap.size W.heap.size W.heap vy ys∧BX W.heap w.heap.size [vp]∧k≤o.toNat + 1∧ys = flI p f.toNat (extS a (o.toNat + 1)) k∧flC p f.toNat (extS a (o.toNat + 1)) k = 0∧ys.length = a.length∧SrE (o.toNat + 1) ys) (fun (⟨k,vy,ys⟩:Nat × Value × List (List Int))=>o.toNat + 1 - k) (0,v2_0,(a.map (fun x=>(List.replicate (o.toNat + 1) 0).set 0 x))) ⟨rfl,rfl,rfl,rfl,rfl,trivial⟩ ⟨hE2,(hO2_0.up o2).low hE1.size,hB1x2,sD,(by rfl),(by rfl),(by rw [List.length_map]),(by exact extS_ser hna)⟩ ?_
 clear hE0 hz1 hX1 hzs1 hE1 hO2_0 hX2 hzs2 hE2
 rintro ⟨k,vy,ys⟩ ρ3 w3 ⟨hE3,hL3_0,hL3_1,hp3_0,hyf,hyc,hyl,hys⟩
 have hzs3:w.heap.size≤w3.heap.size:=hE3.size
 have hoo:=oOf_ser hys oM
 have hy00:=(hys 0 oM).1
 have hq4:=hL3_1.lt
 refine wp_seq (wp_plain _ [0] rfl ?_)
 by_cases hc5:((k :Nat):Int) < ((o.toNat + 1 :Nat):Int)
 ·
  refine q_lss true rfl rfl (decide_eq_true hc5) zN (lw_nil (wp_seq (c_cond_t rfl (wp_skip (wp_seq (wp_block (wp_seq (wp_plain _ [2,0,0,3,0,0,0,0,0] rfl (q_loadA (p:=(.pointer (some ⟨w.heap.size,0,none⟩))) (.inr rfl) [vp] agg49 rfl (fun wq9 hw9=>LD.of_box (BX.ext (w:=w3) hL3_1 hw9)) rfl zN (lw_tv 2 rfl (lw_call 80 [] [] [(.agg #[vp]),(.int .i64 f),vy] rfl rfl cf80 zN (c_impl_Program_picard _ dp vp (p) _ vy (ys) (hp.ext (good_rdS (good_rFn dp)) hE3) _hf (RN.of_fr2 hL3_0 (fun b hb=>by cases hb)) hL3_0.cap (by exact hvp) (by exact hf) oM (by exact hou) (by rw [hoo]; exact hys) oM oM) ?_)))))))))))
  rintro e6 w6 ⟨v6_0,rfl,hX6,hO6_0,hP6_0,hP6_1,hP6_2⟩
  refine ⟨_,rfl,hX6,?_⟩
  have hzs6:=hX6.size
  have hE6:=hE3.trans hX6
  have hL3_1x6:=hL3_1.ext hX6
  refine lw_tv 1 rfl (q_extract (vs:=[v6_0,(.int .i64 (picC p f.toNat ys))]) v6_0 rfl rfl zN (q_extract (vs:=[v6_0,(.int .i64 (picC p f.toNat ys))]) (.int .i64 (picC p f.toNat ys)) rfl rfl zN (lw_tvn 2 rfl (wp_seq (wp_seq (wp_plain _ [0,0] rfl ?_))))))
  have hp1:=‹(0≤picC p f.toNat ys∧picC p f.toNat ys≤9)›
  have hp2:=‹picC p f.toNat ys = 0→(picR p f.toNat ys).length = ys.length∧SrE (oOf ys + 1) (picR p f.toNat ys)›
  refine lw_tv 1 rfl ?_
  by_cases hc7:picC p f.toNat ys≠((0 :Nat):Int)
  ·
   refine q_neq true rfl rfl (decide_eq_true hc7) zN (lw_nil (c_cond_t rfl (wp_seq (wp_plain _ [0,0,0] rfl (lw_tvn 3 rfl (wp_ret (t_ret (b_ret (t_ret (t_ret (b_ret (t_ret ?_))))))))))))
   have hfc:flC p f.toNat (extS a (o.toNat + 1)) (o.toNat + 1) = picC p f.toNat ys:=by rw [flC_stop (k:=k + 1) (by rw [flC_succ hyc,← hyf]; omega) oM,flC_succ hyc,← hyf]
   exact post_ret [8,9] rfl (.tuple #[(.slice none 0 0),(.int .i64 (picC p f.toNat ys))]) rfl ⟨(.slice none 0 0),(by rw [hfc]),hE6,(by rw [flR_e (by rw [hfc]; omega)]; exact frNil _ _ _),(FlP.err hfc oM oM)⟩
  ·
   refine q_neq false rfl rfl (decide_eq_false hc7) zN (lw_nil (c_cond_f rfl (wp_skip (wp_plain _ [0,0] rfl (lw_tvn 2 rfl (wp_plain _ [0,0] rfl (q_add ((k + 1 :Nat):Int) rfl rfl (w64n oM sD) zN (lw_tvn 1 rfl ?_))))))))
   exact ⟨((k + 1),v6_0,(picR p f.toNat ys)),_,rfl,⟨rfl,rfl,rfl,rfl,rfl,trivial⟩,⟨hE6,(hO6_0.up o2).low hE3.size,hL3_1x6,sD,(by rw [hyf]; rfl),(by rw [flC_succ hyc,← hyf]; omega),(by rw [(hp2 oM).1]; exact hyl),(by have h9:=(hp2 oM).2; rw [hoo] at h9; exact h9)⟩,by first | omega | (dsimp only; omega)⟩
 ·
  refine q_lss false rfl rfl (decide_eq_false hc5) zN (lw_nil (wp_seq (c_cond_f rfl (wp_exit (t_exit (t_exit (c_exit_here (wp_seq (wp_plain _ [0,0,0] rfl (lw_tvn 3 rfl (wp_ret ?_)))))))))))
  have hke:k = o.toNat + 1:=by omega
  rw [hke] at hyc hyf
  exact post_ret [8,9] rfl (.tuple #[vy,(.int .i64 ((0 :Nat):Int))]) rfl ⟨vy,(by rw [hyc]; rfl),hE3,(by have h:=hL3_0.up o2; rw [show flR p f.toNat (extS a (o.toNat + 1)) (o.toNat + 1) = ys from by unfold flR; rw [if_pos hyc,hyf]]; exact h),(FlP.ok hyc hyf (by rw [extS_len]; exact hyl) hys)⟩
theorem stC_n {p:List Fn} {f o:Int} {l:List Sr} (h:shF p f fldB≠0):shF p f fldB = stC p f o l:=by unfold stC; rw [if_neg h]
theorem stC_l {p:List Fn} {f o:Int} {l:List Sr} {k:Nat} (h:shF p f fldB = 0) (hk:k < l.length) (hb:(decide ((((l.getD k []).length:Nat):Int) = (p.getD f.toNat Fn.zero).params) && allN (l.getD k [])) = false):2 = stC p f o l:=by
  unfold stC; rw [if_pos h,all_fail (f:=fun s=>decide (((s.length:Nat):Int) = (p.getD f.toNat Fn.zero).params) && allN s) [] hk hb]; rfl
theorem stC_o {p:List Fn} {f o:Int} {l:List Sr} (h:shF p f fldB = 0) (hb:(decide (((0:Nat):Int)≤o) && decide (o≤((12:Nat):Int))) = false):2 = stC p f o l:=by
  have hb':inB o 0 12 = false:=hb
  unfold stC; rw [if_pos h,hb',Bool.and_false]; rfl
theorem stC_0 {p:List Fn} {f o:Int} {l:List Sr} {k:Nat} (h:shF p f fldB = 0) (hl:(l.take k).all (fun s=>decide (((s.length:Nat):Int) = (p.getD f.toNat Fn.zero).params) && allN s) = true) (hk:l.length≤k) (hb:(decide (((0:Nat):Int)≤o) && decide (o≤((12:Nat):Int))) = true):0 = stC p f o l:=by
  have hb':inB o 0 12 = true:=hb
  unfold stC; rw [if_pos h,all_done hl hk,hb']; rfl
theorem z52_0 {p:Prop} (h:p:=by first | exact ret_int (stC_n oM) | exact ret_int (stC_l (k:=k) hst0 oM (bn_t (by assumption))) | exact ret_int (stC_o hst0 (bn_t (by assumption))) | exact ret_int (stC_0 hst0 hq oM (bn_f (by assumption)))):p:=h
theorem c_impl_isStart (w:World) (dp:Nat) (vp:Value) (p:List Fn) (f:Int) (order:Int) (vl:Value) (l:List (List Int)) (hp:RP [] dp w.heap vp p) (_hf:-9223372036854775808≤f∧f≤9223372036854775807) (_horder:-9223372036854775808≤order∧order≤9223372036854775807) (hl:RN [] (rdL (rdL rI)) w.heap vl l) (hql:CapS vl) (hz:SzP p) :
  Calls Try.prog 52 #[(.agg #[vp]),.int .i64 f,.int .i64 order,vl] w (fun e w'=>e = .returned (.int .i64 (stC p f order l))∧Ext w w'):=by
 refine calls_mk [(.agg #[vp]),.int .i64 f,.int .i64 order,vl] 37 Try.func52 rfl rfl sM ?_
 have hE0:Ext w w:=Ext.refl w
 have hl_vp:=hp.lenle
 unfold maxLen at hl_vp
 have hl_vl:=hl.lenL
 unfold maxLen at hl_vl
 refine wp_seq (wp_plain _ [3,0] rfl (r_boxA (cs:=#[vp]) rfl zN fun w1 hX1 hz1 hB1=>?_))
 have hzs1:=hX1.size
 have hE1:=hE0.trans hX1
 replace hB1:BX w1.heap w.heap.size [vp]:=hB1
 refine lw_tvn 1 rfl (wp_seq (wp_plain _ [2,0,3,0] rfl (q_loadA (p:=(.pointer (some ⟨w.heap.size,0,none⟩))) (.inr rfl) [vp] agg49 rfl (fun wq9 hw9=>LD.of_box (BX.ext (w:=w1) hB1 hw9)) rfl zN (lw_tv 1 rfl (lw_call 79 [] [] [(.agg #[vp]),(.int .i64 f)] rfl rfl cf79 zN (c_impl_isField _ dp vp (p) _ (hp.ext (good_rdS (good_rFn dp)) hE1) _hf (by exact hz)) ?_)))))
 rintro e2 w2 ⟨rfl,hX2⟩
 refine ⟨_,rfl,hX2,?_⟩
 have hzs2:=hX2.size
 have hE2:=hE1.trans hX2
 have hB1x2:=hB1.ext hX2
 refine lw_tvn 1 rfl (wp_seq (wp_seq (wp_plain _ [0,0] rfl (lw_tv 1 rfl ?_))))
 by_cases hc3:shF p f fldB≠((0 :Nat):Int)
 ·
  exact q_neq true rfl rfl (decide_eq_true hc3) zN (lw_nil (c_cond_t rfl (wp_seq (wp_plain _ [0,0] rfl (lw_tvn 2 rfl (wp_ret (t_ret (post_ret [8] rfl (.int .i64 (shF p f fldB)) rfl ⟨z52_0,hE2⟩))))))))
 ·
  refine q_neq false rfl rfl (decide_eq_false hc3) zN (lw_nil (c_cond_f rfl (wp_skip (wp_seq (wp_seq (wp_plain _ [0,0,0] rfl ?_))))))
  have hst0:shF p f fldB = 0:=by omega
  refine lw_tv 1 rfl (q_len (v:=vl) u37 rfl hl.slL zN (lw_tvn 1 rfl (wp_block ?_)))
  refine c_loop (S:=Nat) (fun (k:Nat)=>([(20,(.int .i64 ((k :Nat):Int))),(1,(.int .i64 f)),(2,(.int .i64 order)),(4,(.pointer (some ⟨w.heap.size,0,none⟩))),(18,vl),(19,(.int .i64 ((l.length :Nat):Int)))]:List (Nat × Value))) (fun (k:Nat) (W:World)=>Ext w W∧BX W.heap w.heap.size [vp]∧k≤l.length∧(l.take k).all (fun s=>decide (((s.length :Nat):Int) = (p.getD f.toNat Fn.zero).params) && allN s) = true) (fun (k:Nat)=>l.length - k) 0 ⟨rfl,rfl,rfl,rfl,rfl,rfl,trivial⟩ ⟨hE2,hB1x2,sD,(by exact rfl)⟩ ?_
  clear hE0 hz1 hX1 hzs1 hE1 hX2 hzs2 hE2
  rintro k ρ4 w4 ⟨hE4,hL4_0,hp4_0,hq⟩
  have hzs4:w.heap.size≤w4.heap.size:=hE4.size
  have hq5:=hL4_0.lt
  refine wp_seq (wp_plain _ [0] rfl ?_)
  by_cases hc6:((k :Nat):Int) < ((l.length :Nat):Int)
  ·
   refine q_lss true rfl rfl (decide_eq_true hc6) zN (lw_nil (wp_seq (c_cond_t rfl (wp_skip (wp_seq (wp_block (wp_seq (wp_plain _ [0,2,0] rfl (q_idx (v:=vl) k u37 ti25 rfl rfl hl.slL rfl sD zN ?_)))))))))
   obtain ⟨ue7,hl7,hr7⟩:=RN.getL (w:=w) g1 [] (k:=k) hl sD
   have hln7:=hr7.lenL
   unfold maxLen at hln7
   refine q_load (p:=eptr vl k 1) (.inr rfl) ue7 one25 rfl (hl7 _ (Chg.of_ext [] hE4)) zN (lw_tvn 1 rfl (wp_seq (wp_plain _ [0,0,2,0,0,0,2,3,0] rfl ?_)))
   have hi0:=fld_0 (p:=p) (f:=f) oM
   refine lw_tv 1 rfl (q_fldP (p:=(.pointer (some ⟨w.heap.size,0,none⟩))) (b:=w.heap.size) (o:=0) 0 fd49_0 rfl rfl zN (q_load (p:=(padd (.pointer (some ⟨w.heap.size,0,none⟩)) 0)) (.inr rfl) vp one47 rfl (hL4_0.ldp (i:=0) sM) zN (lw_tv 1 rfl (q_idx (v:=vp) ((f).toNat) u47 tiS46 rfl rfl hp.isSl oM sD zN ?_))))
   obtain ⟨cs8,hr8,hl8⟩:=hp.get (good_rFn dp) Fn.zero (k:=((f).toNat)) sD
   obtain ⟨ve8,rfl,hx8⟩:=RF.of hr8
   have hln8:=hx8.rn.lenle
   unfold maxLen at hln8
   refine q_fldL (p:=eptr vp ((f).toNat) 3) 1 fd46_1 rfl (hl8 _ (Chg.of_ext [] hE4)) zN (q_load (p:=(padd (eptr vp ((f).toNat) 3) 1)) (.inr rfl) (.int .i64 ((p.getD ((f).toNat) Fn.zero).params)) one2 rfl ((hl8 _ (Chg.of_ext [] hE4)).ld (i:=1) (by simp [exC,fnC])) zN (lw_call 45 [] [] [ue7,(.int .i64 ((p.getD ((f).toNat) Fn.zero).params))] rfl rfl cf45 zN (c_impl_areNumbers _ _ _ _ ((hr7.ext g1 hE4)).rd hx8.rng) ?_))
   rintro e9 w9 ⟨rfl,hX9⟩
   refine ⟨_,rfl,hX9,?_⟩
   have hzs9:=hX9.size
   have hE9:=hE4.trans hX9
   have hL4_0x9:=hL4_0.ext hX9
   refine q_not (!(decide ((((l.getD k []).length :Nat):Int) = ((p.getD ((f).toNat) Fn.zero).params)) && allN (l.getD k []))) rfl rfl zN (lw_nil ?_)
   cases hb10:(!(decide ((((l.getD k []).length :Nat):Int) = ((p.getD ((f).toNat) Fn.zero).params)) && allN (l.getD k [])))
   ·
    refine c_cond_f (by first | rfl | (show Value.bool _ = _; rw [hb10])) (wp_skip (wp_plain _ [0,0] rfl (q_add ((k + 1 :Nat):Int) rfl rfl (w64n oM sD) zN (lw_tvn 1 rfl ?_))))
    exact ⟨(k + 1),_,rfl,⟨rfl,rfl,rfl,rfl,rfl,rfl,trivial⟩,⟨hE9,hL4_0x9,sD,(by exact all_succ (f:=fun s=>decide (((s.length :Nat):Int) = (p.getD f.toNat Fn.zero).params) && allN s) [] hq oM (bn_f (by assumption)))⟩,by first | omega | (dsimp only; omega)⟩
   ·
    exact c_cond_t (by first | rfl | (show Value.bool _ = _; rw [hb10])) (wp_seq (wp_plain _ [0] rfl (lw_tvn 1 rfl (wp_ret (b_ret (t_ret (t_ret (b_ret (t_ret (post_ret [8] rfl (.int .i64 ((2 :Nat):Int)) rfl ⟨z52_0,hE9⟩))))))))))
  ·
   refine q_lss false rfl rfl (decide_eq_false hc6) zN (lw_nil (wp_seq (c_cond_f rfl (wp_exit (t_exit (t_exit (c_exit_here (wp_seq (wp_seq (wp_plain _ [0,3,0] rfl (lw_tv 1 rfl (lw_call 46 [] [] [(.int .i64 order)] rfl rfl cf46 zN (c_impl_isOrder _ _ _horder) ?_))))))))))))
   rintro e11 w11 ⟨rfl,hX11⟩
   refine ⟨_,rfl,hX11,?_⟩
   have hzs11:=hX11.size
   have hE11:=hE4.trans hX11
   have hL4_0x11:=hL4_0.ext hX11
   refine q_not (!(decide (((0 :Nat):Int)≤order) && decide (order≤((12 :Nat):Int)))) rfl rfl zN (lw_nil ?_)
   cases hb12:(!(decide (((0 :Nat):Int)≤order) && decide (order≤((12 :Nat):Int))))
   ·
    exact c_cond_f (by first | rfl | (show Value.bool _ = _; rw [hb12])) (wp_skip (wp_seq (wp_plain _ [0] rfl (lw_tvn 1 rfl (wp_ret (post_ret [8] rfl (.int .i64 ((0 :Nat):Int)) rfl ⟨z52_0,hE11⟩))))))
   ·
    exact c_cond_t (by first | rfl | (show Value.bool _ = _; rw [hb12])) (wp_seq (wp_plain _ [0] rfl (lw_tvn 1 rfl (wp_ret (t_ret (post_ret [8] rfl (.int .i64 ((2 :Nat):Int)) rfl ⟨z52_0,hE11⟩))))))
theorem c_impl_FlowOf (w:World) (dp:Nat) (vp:Value) (p:List Fn) (f:Int) (va:Value) (a:List Int) (order:Int) (hp:RP [] dp w.heap vp p) (_hf:-9223372036854775808≤f∧f≤9223372036854775807) (ha:Rd (rdL rI) w.heap va a) (_horder:-9223372036854775808≤order∧order≤9223372036854775807) (hz:SzP p) :
  Calls Try.prog 17 #[(.agg #[vp]),.int .i64 f,va,.int .i64 order] w (fun e w'=>∃ v0:Value,e = .returned (.tuple #[v0,.int .i64 (foC p f a order)])∧Ext w w'∧Fr (owL (owL rI 2) 25) w.heap.size w'.heap.size w'.heap v0 (foR p f a order)∧FoP p f a order):=by
 refine calls_mk [(.agg #[vp]),.int .i64 f,va,.int .i64 order] 27 Try.func17 rfl rfl sM ?_
 have hE0:Ext w w:=Ext.refl w
 have hl_vp:=hp.lenle
 unfold maxLen at hl_vp
 have hl_va:=ha.lenle
 refine wp_seq (wp_plain _ [3,0,0] rfl (r_boxA (cs:=#[vp]) rfl zN fun w1 hX1 hz1 hB1=>?_))
 have hzs1:=hX1.size
 have hE1:=hE0.trans hX1
 replace hB1:BX w1.heap w.heap.size [vp]:=hB1
 refine lw_tvn 2 rfl (wp_seq (wp_seq (wp_plain _ [2,0,0,0,3,3,0] rfl (q_loadA (p:=(.pointer (some ⟨w.heap.size,0,none⟩))) (.inr rfl) [vp] agg49 rfl (fun wq9 hw9=>LD.of_box (BX.ext (w:=w1) hB1 hw9)) rfl zN (lw_tv 3 rfl (r_one (u:=va) (B:=w1.heap.size) good_rV u37 ti25 rfl rfl (frV w1.heap.size w1.heap.size _ ((RN.of ha).one1 g1)) (Nat.le_refl _) zN fun v2 w2 hX2 hz2 hO2=>?_))))))
 have hzs2:=hX2.size
 have hE2:=hE1.trans hX2
 have hB1x2:=hB1.ext hX2
 refine lw_call 52 [] [] [(.agg #[vp]),(.int .i64 f),(.int .i64 order),v2] rfl rfl cf52 zN (c_impl_isStart _ dp vp (p) _ _ v2 ([a]) (hp.ext (good_rdS (good_rFn dp)) hE2) _hf _horder (RN.ofOne hO2 ((RN.of ha).ext g1 hE2) (fun b hb=>by cases hb)) (one_cap hO2) (by exact hz)) ?_
 rintro e3 w3 ⟨rfl,hX3⟩
 refine ⟨_,rfl,hX3,?_⟩
 have hzs3:=hX3.size
 have hE3:=hE2.trans hX3
 have hB1x3:=hB1x2.ext hX3
 refine lw_tvn 1 rfl (wp_seq (wp_plain _ [0,0] rfl (lw_tv 1 rfl ?_)))
 by_cases hc4:stC p f order ([a])≠((0 :Nat):Int)
 ·
  exact q_neq true rfl rfl (decide_eq_true hc4) zN (lw_nil (c_cond_t rfl (wp_seq (wp_plain _ [0,0,0] rfl (lw_tvn 3 rfl (wp_ret (t_ret (post_ret [8,9] rfl (.tuple #[(.slice none 0 0),(.int .i64 (stC p f order ([a])))]) rfl ⟨(.slice none 0 0),(by rw [foC_n oM]),hE3,(by rw [foR_n oM]; exact frNil _ _ _),(FoP.mk_n oM)⟩))))))))
 ·
  refine q_neq false rfl rfl (decide_eq_false hc4) zN (lw_nil (c_cond_f rfl (wp_skip (wp_seq (wp_plain _ [2,0,0,0,3,0,0,0,0] rfl ?_)))))
  have hst0:stC p f order [a] = 0:=by omega
  have hq0:=stC_one hst0
  have hvp:=okP_vpr hq0.1
  refine q_loadA (p:=(.pointer (some ⟨w.heap.size,0,none⟩))) (.inr rfl) [vp] agg49 rfl (fun wq9 hw9=>LD.of_box (BX.ext (w:=w3) hB1x3 hw9)) rfl zN (lw_tv 3 rfl (lw_call 53 [] [] [(.agg #[vp]),(.int .i64 f),va,(.int .i64 order)] rfl rfl cf53 zN (c_impl_Program_flow _ dp vp (p) _ _ _ _ (hp.ext (good_rdS (good_rFn dp)) hE3) _hf (ha.ext g1 hE3) _horder (by exact hvp) oM oM oM oM (by exact hq0.2.2.2.2.1) oM) ?_))
  rintro e5 w5 ⟨v5_0,rfl,hX5,hO5_0,hP5_0⟩
  refine ⟨_,rfl,hX5,?_⟩
  have hzs5:=hX5.size
  have hE5:=hE3.trans hX5
  have hB1x5:=hB1x3.ext hX5
  exact q_extract (vs:=[v5_0,(.int .i64 (flC p f.toNat (extS a (order.toNat + 1)) (order.toNat + 1)))]) v5_0 rfl rfl zN (q_extract (vs:=[v5_0,(.int .i64 (flC p f.toNat (extS a (order.toNat + 1)) (order.toNat + 1)))]) (.int .i64 (flC p f.toNat (extS a (order.toNat + 1)) (order.toNat + 1))) rfl rfl zN (lw_tvn 2 rfl (wp_ret (post_ret [8,9] rfl (.tuple #[v5_0,(.int .i64 (flC p f.toNat (extS a (order.toNat + 1)) (order.toNat + 1)))]) rfl ⟨v5_0,(by rw [foC_0 hst0]),hE5,(by rw [foR_0 hst0]; exact (hO5_0.up o2).low hE3.size),(FoP.mk_0 hst0 (by assumption) oM)⟩))))
end Go.Proofs.Ytemfgblmfahllaa
namespace Go.Proofs.Ytemfgblmfahllaa
open Go Go.RowKit
set_option linter.unusedVariables false
set_option linter.unusedSimpArgs false
set_option maxHeartbeats 4000000
set_option maxRecDepth 100000
attribute [local irreducible] LW
theorem z21_0 {p:Prop} (h:p:=by unfold maxLen; first | omega | assumption | (simp only [List.length_nil,List.length_cons,List.length_append,List.length_set,List.length_replicate]; omega) | (simp [List.length_nil,List.length_cons,List.length_append,List.length_set,List.length_replicate]; done) | (simp [List.length_nil,List.length_cons,List.length_append,List.length_set,List.length_replicate]; omega)):p:=h
theorem c_laws_a2Unit (w:World) (count:Int) (at_:Int) (_hcount:-9223372036854775808≤count∧count≤9223372036854775807) (_hat_:-9223372036854775808≤at_∧at_≤9223372036854775807) (h0:0≤count∧count≤1000) (h1:at_ = 1) :
    Calls Try.prog 21 #[.int .i64 count,.int .i64 at_] w (fun e w'=>∃ v0:Value,e = .returned (v0)∧Ext w w'∧Fr (owL rI 2) w.heap.size w'.heap.size w'.heap v0 (unT count.toNat)):=by
  refine calls_mk [.int .i64 count,.int .i64 at_] 23 Try.func21 rfl rfl sM ?_
  have hE0:Ext w w:=Ext.refl w
  refine wp_seq (wp_plain _ [0] rfl (lw_tvn 1 rfl (wp_seq (wp_plain _ [3,0] rfl (r_nil (rI) good_rI u25 ti2 zN fun v1 w1 hX1 hz1 hO1=>?_)))))
  have hzs1:w.heap.size≤w1.heap.size:=hX1.size
  have hE1:Ext w w1:=hE0.trans hX1
  refine lw_tvn 1 rfl (wp_seq (wp_seq (wp_plain _ [0] rfl (lw_tvn 1 rfl (wp_block (c_loop (S:=Nat × Value) (fun (⟨k,vo⟩:Nat × Value)=>([(5,vo),(6,(.int .i64 ((k:Nat):Int))),(0,(.int .i64 count)),(1,(.int .i64 at_))]:List (Nat × Value))) (fun (⟨k,vo⟩:Nat × Value) (W:World)=>Ext w W∧Fr (owL rI 2) w.heap.size W.heap.size W.heap vo ((unT count.toNat).take k)∧k≤count.toNat) (fun (⟨k,vo⟩:Nat × Value)=>count.toNat - k) (0,v1) ⟨rfl,rfl,rfl,rfl,trivial⟩ ⟨hE1,hO1.up o1,oM⟩ ?_))))))
  clear hE0 hO1 hz1 hX1 hzs1 hE1
  rintro ⟨k,vo⟩ ρ2 w2 ⟨hE2,hL2_0,hp2_0⟩
  have hzs2:w.heap.size≤w2.heap.size:=hE2.size
  refine wp_seq (wp_seq (wp_plain _ [0,0,0] rfl (lw_tv 2 rfl ?_)))
  by_cases hc3:((k:Nat):Int) < count
  ·
    refine q_lss true rfl rfl (decide_eq_true hc3) zN (lw_nil (c_cond_t rfl (wp_skip (wp_seq (wp_block (wp_seq (wp_plain _ [0,0,0] rfl (lw_tv 2 rfl ?_))))))))
    by_cases hc4:((k:Nat):Int) = at_
    ·
      refine q_eql true rfl rfl (decide_eq_true hc4) zN (lw_nil (c_cond_t rfl (wp_plain _ [0,3,4,0] rfl (lw_tv 1 rfl (r_one (u:=(.int .i64 ((1:Nat):Int))) (B:=w2.heap.size) good_rI u25 ti2 rfl rfl (frI w2.heap.size w2.heap.size _ _ oM) (Nat.le_refl _) zN fun v5 w5 hX5 hz5 hO5=>?_)))))
      have hzs5:w2.heap.size≤w5.heap.size:=hX5.size
      have hE5:Ext w w5:=hE2.trans hX5
      have hL2_0x5:=hL2_0.ext (o1) hX5
      refine e_appI (v:=vo) (a:=v5) u25 ti2 rfl rfl rfl hL2_0x5 hE5.size hO5.rd1 sD z21_0 zN fun v6 w6 F6 hC6 hF6 hO6=>?_
      have hE6:Ext w w6:=hC6.below hE5 (fun c hc=>Nat.le_trans (Nat.le_refl _) (hF6 c hc).1) hE5.size
      have hzs6:w5.heap.size≤w6.heap.size:=hC6.size
      exact lw_tvn 1 rfl (wp_plain _ [0,0,0] rfl (lw_tv 1 rfl (q_add ((k + 1:Nat):Int) rfl rfl (w64n oM oM) zN (lw_tvn 1 rfl ⟨((k + 1),v6),_,rfl,⟨rfl,rfl,rfl,rfl,trivial⟩,⟨hE6,(by have h:=hO6.up o1; rw [take_snoc 0 (by rw [unT_len]; omega),unT_at oM]; first | (rw [if_pos (show k = 1 by omega)]; exact h) | (rw [if_neg (show ¬ k = 1 by omega)]; exact h)),oM⟩,by first | omega | (dsimp only; omega)⟩))))
    ·
      refine q_eql false rfl rfl (decide_eq_false hc4) zN (lw_nil (c_cond_f rfl (wp_plain _ [0,3,4,0] rfl (lw_tv 1 rfl (r_one (u:=(.int .i64 ((0:Nat):Int))) (B:=w2.heap.size) good_rI u25 ti2 rfl rfl (frI w2.heap.size w2.heap.size _ _ oM) (Nat.le_refl _) zN fun v8 w8 hX8 hz8 hO8=>?_)))))
      have hzs8:w2.heap.size≤w8.heap.size:=hX8.size
      have hE8:Ext w w8:=hE2.trans hX8
      have hL2_0x8:=hL2_0.ext (o1) hX8
      refine e_appI (v:=vo) (a:=v8) u25 ti2 rfl rfl rfl hL2_0x8 hE8.size hO8.rd1 sD z21_0 zN fun v9 w9 F9 hC9 hF9 hO9=>?_
      have hE9:Ext w w9:=hC9.below hE8 (fun c hc=>Nat.le_trans (Nat.le_refl _) (hF9 c hc).1) hE8.size
      have hzs9:w8.heap.size≤w9.heap.size:=hC9.size
      exact lw_tvn 1 rfl (wp_plain _ [0,0,0] rfl (lw_tv 1 rfl (q_add ((k + 1:Nat):Int) rfl rfl (w64n oM oM) zN (lw_tvn 1 rfl ⟨((k + 1),v9),_,rfl,⟨rfl,rfl,rfl,rfl,trivial⟩,⟨hE9,(by have h:=hO9.up o1; rw [take_snoc 0 (by rw [unT_len]; omega),unT_at oM]; first | (rw [if_pos (show k = 1 by omega)]; exact h) | (rw [if_neg (show ¬ k = 1 by omega)]; exact h)),oM⟩,by first | omega | (dsimp only; omega)⟩))))
  ·
    exact q_lss false rfl rfl (decide_eq_false hc3) zN (lw_nil (c_cond_f rfl (wp_exit (t_exit (t_exit (c_exit_here (wp_seq (wp_plain _ [0,0] rfl (lw_tvn 2 rfl (wp_ret (post_ret [4] rfl vo rfl ⟨vo,rfl,hE2,(by have h:=hL2_0.up o1; rwa [List.take_of_length_le (by rw [unT_len]; omega)] at h)⟩)))))))))))
theorem c_impl_ExpSeries (w:World) (va:Value) (a:List Int) (ha:Rd (rdL rI) w.heap va a) (hok:okS a = true) (h0:a.getD 0 0 = 0) :
    Calls Try.prog 22 #[va] w (fun e w'=>∃ v0:Value,e = .returned (.tuple #[v0,.int .i64 0])∧Ext w w'∧Fr (owL rI 2) w.heap.size w'.heap.size w'.heap v0 (exT a (a.length - 1))):=by
  refine calls_mk [va] 59 Try.func22 rfl rfl sM ?_
  have hE0:Ext w w:=Ext.refl w
  have hl_va:=ha.lenle
  refine wp_seq (wp_plain _ [0,0] rfl (lw_tvn 2 rfl (wp_seq (wp_block (wp_seq (wp_plain _ [0,3,0,0] rfl (lw_tv 1 rfl (lw_call 55 [] [] [va] rfl rfl cf55 zN (c_impl_ValidSeries _ _ _ (ha.ext g1 hE0)) ?_))))))))
  rintro e1 w1 ⟨rfl,hX1⟩
  refine ⟨_,rfl,hX1,?_⟩
  have hzs1:w.heap.size≤w1.heap.size:=hX1.size
  have hE1:Ext w w1:=hE0.trans hX1
  refine q_not (!(okS a)) rfl rfl zN (lw_tvn 1 rfl ?_)
  cases hb2:(!(okS a))
  ·
    refine c_cond_f (by first | rfl | (show Value.bool _ = _; rw [hb2])) (wp_seq (wp_plain _ [0,0,2,0,0] rfl ?_))
    have h1:=okS_iff.1 hok
    refine lw_tv 1 rfl (q_idx (v:=va) 0 u25 ti2 rfl rfl ha.isSl rfl sD zN ?_)
    refine q_load (p:=eptr va 0 1) (.inr rfl) (.int .i64 (a.getD 0 0)) one2 rfl (ldH_ext hE1 (ha.getI sD).1) zN ?_
    by_cases hc3:a.getD 0 0≠((0:Nat):Int)
    ·
      exact q_neq true rfl rfl (decide_eq_true hc3) zN (lw_tvn 1 rfl (c_cond_t rfl (wp_seq (wp_plain _ [0,0] rfl (lw_tvn 2 rfl (wp_ret (b_ret (t_ret (post_ret [2,3] rfl (.tuple #[(.slice none 0 0),(.int .i64 ((4:Nat):Int))]) rfl ⟨(.slice none 0 0),(by exfalso; simp_all),hE1,(by exfalso; simp_all)⟩)))))))))
    ·
      refine q_neq false rfl rfl (decide_eq_false hc3) zN (lw_tvn 1 rfl (c_cond_f rfl (wp_skip (wp_seq (wp_plain _ [0,0,3,0] rfl ?_)))))
      have h2:=okS_iff.1 hok
      have hel:=exT_len a
      refine lw_tv 1 rfl (q_len (v:=va) u25 rfl ha.isSl zN (r_make (n:=a.length) u25 ti2 rfl rfl rfl sD zN fun v4 w4 hX4 hz4 hO4=>?_))
      have hzs4:w1.heap.size≤w4.heap.size:=hX4.size
      have hE4:Ext w w4:=hE1.trans hX4
      refine lw_tvn 1 rfl (wp_seq (wp_plain _ [0,0,4] rfl (lw_tv 1 rfl (q_idx (v:=v4) 0 u25 ti2 rfl rfl hO4.isSl rfl sD zN ?_))))
      refine e_setI (v:=v4) (w:=w4) sz2 rfl rfl oM hO4 sD zN fun w5 F5 hC5 hz5 hF5 hO5=>?_
      have hE5:Ext w w5:=hC5.below hE4 (fun c hc=>Nat.le_trans hE1.size (hF5 c hc).1) hE4.size
      have hzs5:w4.heap.size≤w5.heap.size:=hC5.size
      refine lw_nil (wp_seq (wp_seq (wp_plain _ [0] rfl (lw_tvn 1 rfl (wp_block (c_loop (S:=Nat) (fun (c:Nat)=>([(5,(.int .i64 ((c + 1:Nat):Int))),(0,va),(4,v4)]:List (Nat × Value))) (fun (c:Nat) (W:World)=>Ext w W∧Fr (owL rI 2) w.heap.size W.heap.size W.heap v4 (exT a c)∧c + 1≤a.length) (fun (c:Nat)=>a.length - c) 0 ⟨rfl,rfl,rfl,trivial⟩ ⟨hE5,(by exact (hO5.up o1).low hE1.size),oM⟩ ?_))))))
      clear hE0 hX1 hzs1 hE1 hO4 hz4 hX4 hzs4 hE4 hO5 hF5 hz5 hC5 hE5 hzs5
      rintro c ρ6 w6 ⟨hE6,hL6_0,hp6_0⟩
      have hzs6:w.heap.size≤w6.heap.size:=hE6.size
      have helc:=exT_len a c
      refine wp_seq (wp_seq (wp_plain _ [0,0,0,0] rfl (lw_tv 2 rfl (q_len (v:=va) u25 rfl ha.isSl zN ?_))))
      by_cases hc7:((c + 1:Nat):Int) < ((a.length:Nat):Int)
      ·
        refine q_lss true rfl rfl (decide_eq_true hc7) zN (lw_nil (c_cond_t rfl (wp_skip (wp_seq (wp_block (wp_seq (wp_plain _ [0] rfl (lw_tvn 1 rfl (wp_seq (wp_seq (wp_plain _ [0] rfl (lw_tvn 1 rfl (wp_block (c_loop (S:=Nat × Int) (fun (⟨i,t⟩:Nat × Int)=>([(6,(.int .i64 t)),(7,(.int .i64 ((i + 1:Nat):Int))),(0,va),(4,v4),(5,(.int .i64 ((c + 1:Nat):Int)))]:List (Nat × Value))) (fun (⟨i,t⟩:Nat × Int) (W:World)=>Ext w W∧Fr (owL rI 2) w.heap.size w6.heap.size W.heap v4 (exT a c)∧i≤c + 1∧t = exQ a (exT a c) (c + 1) i∧(0≤t∧t < 1000003)) (fun (⟨i,t⟩:Nat × Int)=>c + 1 - i) (0,0) ⟨rfl,rfl,rfl,rfl,rfl,trivial⟩ ⟨hE6,hL6_0,oM,(by rfl),oM⟩ ?_))))))))))))))
        clear hL6_0
        rintro ⟨i,t⟩ ρ8 w8 ⟨hE8,hL8_0,hp8_0,ht,htr⟩
        have hzs8:w.heap.size≤w8.heap.size:=hE8.size
        refine wp_seq (wp_seq (wp_plain _ [0,0,0] rfl (lw_tv 2 rfl ?_)))
        by_cases hc9:((i + 1:Nat):Int)≤((c + 1:Nat):Int)
        ·
          refine q_leq true rfl rfl (decide_eq_true hc9) zN (lw_nil (c_cond_t rfl (wp_skip (wp_seq (wp_block (wp_draw _ [0,0,0,0,0,1,0,0,0,0,0,0,0,1,0,0,0,0] mixed (by kernel_rfl) (lw_tv 4 rfl (q_idx (v:=va) (i + 1) u25 ti2 rfl rfl ha.isSl rfl sD zN ?_))))))))
          refine q_load (p:=eptr va (i + 1) 1) (.inl rfl) (.int .i64 (a.getD (i + 1) 0)) one2 rfl (ldH_ext hE8.drew (ha.getI sD).1) zN (q_mul (wr (((i + 1:Nat):Int) * (a.getD (i + 1) 0))) rfl rfl rfl zN (q_rem (md (((i + 1:Nat):Int) * a.getD (i + 1) 0)) rfl rfl (by decide) (nm_eq oM (allN_get h2.2 _)) zN (lw_tv 3 rfl (q_sub ((c + 1 - (i + 1):Nat):Int) rfl rfl (w64n oM oM) zN ?_))))
          refine q_idx (v:=v4) (c + 1 - (i + 1)) u25 ti2 rfl rfl hL8_0.isSl rfl sD zN ?_
          refine q_load (p:=eptr v4 (c + 1 - (i + 1)) 1) (.inl rfl) (.int .i64 ((exT a c).getD (c + 1 - (i + 1)) 0)) one2 rfl (hL8_0.rd1.getI sD).1 zN (q_mul (wr ((md (((i + 1:Nat):Int) * a.getD (i + 1) 0)) * ((exT a c).getD (c + 1 - (i + 1)) 0))) rfl rfl rfl zN (q_add (wr (t + (wr ((md (((i + 1:Nat):Int) * a.getD (i + 1) 0)) * ((exT a c).getD (c + 1 - (i + 1)) 0))))) rfl rfl rfl zN ?_))
          exact q_rem (md (t + md (((i + 1:Nat):Int) * a.getD (i + 1) 0) * (exT a c).getD (c + 1 - (i + 1)) 0)) rfl rfl (by decide) (dot_eq htr (md_num _) (allN_get (exT_num a c) _)) zN (lw_tvn 1 rfl (wp_plain _ [0,0,0] rfl (lw_tv 1 rfl (q_add ((i + 1 + 1:Nat):Int) rfl rfl (w64n oM oM) zN (lw_tvn 1 rfl ⟨((i + 1),(md (t + md (((i + 1:Nat):Int) * a.getD (i + 1) 0) * (exT a c).getD (c + 1 - (i + 1)) 0))),_,rfl,⟨rfl,rfl,rfl,rfl,rfl,trivial⟩,⟨hE8.drew,hL8_0,oM,(by rw [ht]; rfl),(by exact md_num _)⟩,by first | omega | (dsimp only; omega)⟩)))))
        ·
          refine q_leq false rfl rfl (decide_eq_false hc9) zN (lw_nil (c_cond_f rfl (wp_exit (t_exit (t_exit (c_exit_here (wp_plain _ [0,0,0,0,0,0,0,0,4] rfl (lw_tv 4 rfl (lw_callq 51 [] [] [(.int .i64 ((c + 1:Nat):Int))] rfl rfl cf51 zN (.int .i64 (inv ((c + 1:Nat):Int))) (fun wq=>c_impl_inverse wq _ oM) (q_mul (wr (t * (inv ((c + 1:Nat):Int)))) rfl rfl rfl zN (q_rem (md (t * inv ((c + 1:Nat):Int))) rfl rfl (by decide) (nm_eq htr (inv_num _)) zN ?_)))))))))))
          refine q_idx (v:=v4) (c + 1) u25 ti2 rfl rfl hL8_0.isSl rfl sD zN (e_setI (v:=v4) (w:=w8) sz2 rfl rfl (md_rng _) hL8_0 sD zN fun w11 F11 hC11 hz11 hF11 hO11=>?_)
          have hE11:Ext w w11:=hC11.below hE8 (fun c hc=>Nat.le_trans (Nat.le_refl _) (hF11 c hc).1) hE8.size
          have hzs11:w8.heap.size≤w11.heap.size:=hC11.size
          exact lw_nil (wp_plain _ [0,0,0] rfl (lw_tv 1 rfl (q_add ((c + 1 + 1:Nat):Int) rfl rfl (w64n oM oM) zN (lw_tvn 1 rfl ⟨(c + 1),_,rfl,⟨rfl,rfl,rfl,trivial⟩,⟨hE11,(by have h:=hO11.up o1; rw [ht,show i = c + 1 from by omega] at h; exact h),oM⟩,by first | omega | (dsimp only; omega)⟩))))
      ·
        exact q_lss false rfl rfl (decide_eq_false hc7) zN (lw_nil (c_cond_f rfl (wp_exit (t_exit (t_exit (c_exit_here (wp_seq (wp_plain _ [0,0,0] rfl (lw_tvn 3 rfl (wp_ret (post_ret [2,3] rfl (.tuple #[v4,(.int .i64 ((0:Nat):Int))]) rfl ⟨v4,rfl,hE6,(by have h:=hL6_0.up o1; rwa [show c = a.length - 1 from by omega] at h)⟩)))))))))))
  ·
    exact c_cond_t (by first | rfl | (show Value.bool _ = _; rw [hb2])) (wp_seq (wp_plain _ [0,0] rfl (lw_tvn 2 rfl (wp_ret (b_ret (t_ret (post_ret [2,3] rfl (.tuple #[(.slice none 0 0),(.int .i64 ((1:Nat):Int))]) rfl ⟨(.slice none 0 0),(by exfalso; simp_all),hE1,(by exfalso; simp_all)⟩)))))))
end Go.Proofs.Ytemfgblmfahllaa
