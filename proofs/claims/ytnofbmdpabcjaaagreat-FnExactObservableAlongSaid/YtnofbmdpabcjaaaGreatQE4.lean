/- Vr, Nk, Nl, Ga, No, Vk, Vl, Vn, Vi, Vj: texts of this claim, joined; what the claim does not come to is left out. -/
import Derived.Test.YtnofbmdpabcjaaaGreatQE3
import Derived.Test.YtnofbmdpabcjaaaGreatProg
set_option linter.unusedVariables false
set_option linter.unusedSimpArgs false
namespace Go.Proofs.YtnofbmdpabcjaaaGreat
open Go Go.RowKit
set_option linter.unusedVariables false
set_option linter.unusedSimpArgs false
set_option maxHeartbeats 4000000
set_option maxRecDepth 100000
attribute [local irreducible] LW
def TS (D : Nat) : Prop := ∀ (w : World) (d : Nat) (va : Value) (a : List Ex) (ha : RN [] (rdS 5 (rEx d)) w.heap va a) (hs : Ex.sizes a ≤ 1000000000) (hd : d ≤ D), Calls Tryz.prog 115 #[va] w (fun e w' => ∃ v, e = .returned v ∧ Ext w w' ∧ Fr (owS 5 (oEx 94 d) 94) w.heap.size w'.heap.size w'.heap v a)
theorem c_laws_toExpr (w : World) (dex : Nat) (ve : Value) (ex : Ex) (hex : RX [] dex w.heap ve ex) (hs : Ex.sizes ex.kids ≤ 1000000000) (IH : TS dex) :
  Calls Tryz.prog 140 #[(.agg #[(.int .i64 ex.kind),(.int .i64 ex.num),(.int .i64 ex.pick),(.int .i64 ex.count),ve])] w (fun e w' => ∃ v,e = .returned (.agg #[.int .i64 ex.kind,.int .i64 ex.num,.int .i64 ex.pick,.int .i64 ex.count,v]) ∧ Ext w w' ∧ Fr (owS 5 (oEx 94 dex) 94) w.heap.size w'.heap.size w'.heap v ex.kids) := by
 refine calls_mk [(.agg #[(.int .i64 ex.kind),(.int .i64 ex.num),(.int .i64 ex.pick),(.int .i64 ex.count),ve])] 21 Tryz.func140 rfl rfl sM ?_
 have hE0 : Ext w w := Ext.refl w
 have hl_ve := hex.rn.lenle
 unfold maxLen at hl_ve
 refine wp_seq (wp_plain _ [3,3] rfl (r_boxA (cs := #[(.int .i64 ex.kind),(.int .i64 ex.num),(.int .i64 ex.pick),(.int .i64 ex.count),ve]) rfl zN fun w1 hX1 hz1 hB1 => ?_))
 have hzs1:=hX1.size
 have hE1:=hE0.trans hX1
 replace hB1 : BX w1.heap w.heap.size [(.int .i64 ex.kind),(.int .i64 ex.num),(.int .i64 ex.pick),(.int .i64 ex.count),ve] := hB1
 have hq3 := hB1.lt
 refine r_allocA (z := .agg #[.int .i64 0,.int .i64 0,.int .i64 0,.int .i64 0,.slice none 0 0]) zr94 zN fun w2 hX2 hz2 hB2 => ?_
 have hzs2:=hX2.size
 have hE2:=hE1.trans hX2
 have hB1x2 := hB1.ext hX2
 replace hB2 : BX w2.heap w1.heap.size [(.int .i64 0),(.int .i64 0),(.int .i64 0),(.int .i64 0),(.slice none 0 0)] := hB2
 refine lw_nil (wp_seq (wp_plain _ [3] rfl ?_))
 have hq5 := hB1x2.lt
 have hq6 := hB2.lt
 refine r_allocA (z := .agg #[.int .i64 0,.int .i64 0,.int .i64 0,.int .i64 0,.slice none 0 0]) zr94 zN fun w4 hX4 hz4 hB4 => ?_
 have hzs4:=hX4.size
 have hE4:=hE2.trans hX4
 have hB1x4 := hB1x2.ext hX4
 have hB2x4 := hB2.ext hX4
 replace hB4 : BX w4.heap w2.heap.size [(.int .i64 0),(.int .i64 0),(.int .i64 0),(.int .i64 0),(.slice none 0 0)] := hB4
 refine lw_nil (wp_seq (wp_plain _ [0,2,0,4] rfl (q_fldP (p := (.pointer (some ⟨w.heap.size,0,none⟩))) (b := w.heap.size) (o := 0) 0 fd160_0 rfl rfl zN (q_load (p := (padd (.pointer (some ⟨w.heap.size,0,none⟩)) 0)) (.inr rfl) (.int .i64 ex.kind) one2 rfl (hB1x4.ldp (i := 0) sM) zN (q_fldP (p := (.pointer (some ⟨w2.heap.size,0,none⟩))) (b := w2.heap.size) (o := 0) 0 fd94_0 rfl rfl zN (e_setB (k := 0) (w := w4) sz2 rfl rfl ⟨rfl,rfl⟩ hB4 sM zN fun w7 hC7 hz7 hB7 => ?_))))))
 replace hB7 : BX w7.heap w2.heap.size [(.int .i64 ex.kind),(.int .i64 0),(.int .i64 0),(.int .i64 0),(.slice none 0 0)] := hB7
 have hE7 : Ext w w7 := hC7.below hE4 (fun c hc => by have := List.mem_singleton.1 hc; omega) hE4.size
 have hzs7:=hC7.size
 have hF8 := hB1x4.chg hC7 (fun hm => by have := List.mem_singleton.1 hm; omega)
 have hF9 := hB2x4.chg hC7 (fun hm => by have := List.mem_singleton.1 hm; omega)
 refine lw_nil (wp_seq (wp_plain _ [0,2,0,4] rfl (q_fldP (p := (.pointer (some ⟨w.heap.size,0,none⟩))) (b := w.heap.size) (o := 0) 1 fd160_1 rfl rfl zN (q_load (p := (padd (.pointer (some ⟨w.heap.size,0,none⟩)) 1)) (.inr rfl) (.int .i64 ex.num) one2 rfl (hF8.ldp (i := 1) sM) zN (q_fldP (p := (.pointer (some ⟨w2.heap.size,0,none⟩))) (b := w2.heap.size) (o := 0) 1 fd94_1 rfl rfl zN (e_setB (k := 1) (w := w7) sz2 rfl rfl ⟨rfl,rfl⟩ hB7 sM zN fun w10 hC10 hz10 hB10 => ?_))))))
 replace hB10 : BX w10.heap w2.heap.size [(.int .i64 ex.kind),(.int .i64 ex.num),(.int .i64 0),(.int .i64 0),(.slice none 0 0)] := hB10
 have hE10 : Ext w w10 := hC10.below hE7 (fun c hc => by have := List.mem_singleton.1 hc; omega) hE7.size
 have hzs10:=hC10.size
 have hF11 := hF8.chg hC10 (fun hm => by have := List.mem_singleton.1 hm; omega)
 have hF12 := hF9.chg hC10 (fun hm => by have := List.mem_singleton.1 hm; omega)
 refine lw_nil (wp_seq (wp_plain _ [0,2,0,4] rfl (q_fldP (p := (.pointer (some ⟨w.heap.size,0,none⟩))) (b := w.heap.size) (o := 0) 2 fd160_2 rfl rfl zN (q_load (p := (padd (.pointer (some ⟨w.heap.size,0,none⟩)) 2)) (.inr rfl) (.int .i64 ex.pick) one2 rfl (hF11.ldp (i := 2) sM) zN (q_fldP (p := (.pointer (some ⟨w2.heap.size,0,none⟩))) (b := w2.heap.size) (o := 0) 2 fd94_2 rfl rfl zN (e_setB (k := 2) (w := w10) sz2 rfl rfl ⟨rfl,rfl⟩ hB10 sM zN fun w13 hC13 hz13 hB13 => ?_))))))
 replace hB13 : BX w13.heap w2.heap.size [(.int .i64 ex.kind),(.int .i64 ex.num),(.int .i64 ex.pick),(.int .i64 0),(.slice none 0 0)] := hB13
 have hE13 : Ext w w13 := hC13.below hE10 (fun c hc => by have := List.mem_singleton.1 hc; omega) hE10.size
 have hzs13:=hC13.size
 have hF14 := hF11.chg hC13 (fun hm => by have := List.mem_singleton.1 hm; omega)
 have hF15 := hF12.chg hC13 (fun hm => by have := List.mem_singleton.1 hm; omega)
 refine lw_nil (wp_seq (wp_plain _ [0,2,0,4] rfl (q_fldP (p := (.pointer (some ⟨w.heap.size,0,none⟩))) (b := w.heap.size) (o := 0) 3 fd160_3 rfl rfl zN (q_load (p := (padd (.pointer (some ⟨w.heap.size,0,none⟩)) 3)) (.inr rfl) (.int .i64 ex.count) one2 rfl (hF14.ldp (i := 3) sM) zN (q_fldP (p := (.pointer (some ⟨w2.heap.size,0,none⟩))) (b := w2.heap.size) (o := 0) 3 fd94_3 rfl rfl zN (e_setB (k := 3) (w := w13) sz2 rfl rfl ⟨rfl,rfl⟩ hB13 sM zN fun w16 hC16 hz16 hB16 => ?_))))))
 replace hB16 : BX w16.heap w2.heap.size [(.int .i64 ex.kind),(.int .i64 ex.num),(.int .i64 ex.pick),(.int .i64 ex.count),(.slice none 0 0)] := hB16
 have hE16 : Ext w w16 := hC16.below hE13 (fun c hc => by have := List.mem_singleton.1 hc; omega) hE13.size
 have hzs16:=hC16.size
 have hF17 := hF14.chg hC16 (fun hm => by have := List.mem_singleton.1 hm; omega)
 have hF18 := hF15.chg hC16 (fun hm => by have := List.mem_singleton.1 hm; omega)
 refine lw_nil (wp_seq (wp_plain _ [0,2,3,0,4] rfl (q_fldP (p := (.pointer (some ⟨w.heap.size,0,none⟩))) (b := w.heap.size) (o := 0) 4 fd160_4 rfl rfl zN (q_load (p := (padd (.pointer (some ⟨w.heap.size,0,none⟩)) 4)) (.inr rfl) ve one98 rfl (hF17.ldp (i := 4) sM) zN (lw_call 115 [] [] [ve] rfl rfl cf115 zN (IH _ dex ve (ex.kids) (hex.rn.ext (good_rdS (good_rEx dex)) hE16) (by exact hs) oM) ?_)))))
 rintro e19 w19 ⟨v19,rfl,hX19,hO19⟩
 refine ⟨_,rfl,hX19,?_⟩
 have hzs19:=hX19.size
 have hE19:=hE16.trans hX19
 have hF17x19 := hF17.ext hX19
 have hF18x19 := hF18.ext hX19
 have hB16x19 := hB16.ext hX19
 refine q_fldP (p := (.pointer (some ⟨w2.heap.size,0,none⟩))) (b := w2.heap.size) (o := 0) 4 fd94_4 rfl rfl zN (e_setB (k := 4) (w := w19) sz78 rfl rfl (isSl_one hO19.isSlS) hB16x19 sM zN fun w20 hC20 hz20 hB20 => ?_)
 replace hB20 : BX w20.heap w2.heap.size [(.int .i64 ex.kind),(.int .i64 ex.num),(.int .i64 ex.pick),(.int .i64 ex.count),v19] := hB20
 have hE20 : Ext w w20 := hC20.below hE19 (fun c hc => by have := List.mem_singleton.1 hc; omega) hE19.size
 have hzs20:=hC20.size
 have hF21 := hF17x19.chg hC20 (fun hm => by have := List.mem_singleton.1 hm; omega)
 have hF22 := hF18x19.chg hC20 (fun hm => by have := List.mem_singleton.1 hm; omega)
 have hF23 := hO19.chg ((good_owS (good_oEx 94 dex))) hC20 (fun c hc => by have := List.mem_singleton.1 hc; omega)
 refine lw_nil (wp_seq (wp_plain _ [2,4] rfl (q_loadA (p := (.pointer (some ⟨w2.heap.size,0,none⟩))) (.inr rfl) [(.int .i64 ex.kind),(.int .i64 ex.num),(.int .i64 ex.pick),(.int .i64 ex.count),v19] agg94 rfl (fun w9 hw9 => LD.of_box (BX.ext (w := w20) hB20 hw9)) rfl zN (e_setA (vs := [(.int .i64 ex.kind),(.int .i64 ex.num),(.int .i64 ex.pick),(.int .i64 ex.count),v19]) agg94 rfl rfl (by intro u hu; simp only [List.mem_cons,List.not_mem_nil,or_false] at hu; rcases hu with rfl | rfl | rfl | rfl | rfl <;> first | exact ⟨rfl,rfl⟩ | exact isSl_one hF23.isSlS) hF22 rfl rfl zN fun w24 hC24 hz24 hB24 => ?_))))
 replace hB24 : BX w24.heap w1.heap.size [(.int .i64 ex.kind),(.int .i64 ex.num),(.int .i64 ex.pick),(.int .i64 ex.count),v19] := hB24
 have hE24 : Ext w w24 := hC24.below hE20 (fun c hc => by have := List.mem_singleton.1 hc; omega) hE20.size
 have hzs24:=hC24.size
 have hF25 := hF21.chg hC24 (fun hm => by have := List.mem_singleton.1 hm; omega)
 have hF26 := hB20.chg hC24 (fun hm => by have := List.mem_singleton.1 hm; omega)
 have hF27 := hF23.chg ((good_owS (good_oEx 94 dex))) hC24 (fun c hc => by have := List.mem_singleton.1 hc; omega)
 exact lw_nil (wp_ret (post_retA (cs := [(.int .i64 ex.kind),(.int .i64 ex.num),(.int .i64 ex.pick),(.int .i64 ex.count),v19]) rfl agg94 rfl hB24 rfl ⟨v19,rfl,hE24,((hF27.up (good_owS (good_oEx 94 dex))).low (B' := w.heap.size) oM)⟩))
theorem c_laws_toExprS (w : World) (da : Nat) (va : Value) (a : List Ex) (ha : RN [] (rdS 5 (rEx da)) w.heap va a) (hs : Ex.sizes a ≤ 1000000000) :
  Calls Tryz.prog 115 #[va] w (fun e w' => ∃ v,e = .returned v ∧ Ext w w' ∧ Fr (owS 5 (oEx 94 da) 94) w.heap.size w'.heap.size w'.heap v a) := by
 induction da using Nat.strongRecOn generalizing w va a
 rename_i da ih
 refine calls_mk [va] 23 Tryz.func115 rfl rfl sM ?_
 have hE0 : Ext w w := Ext.refl w
 have hl_va := ha.lenle
 unfold maxLen at hl_va
 have hge0 := sizes_ge a 0
 refine wp_seq (wp_plain _ [0] rfl (lw_tvn 1 rfl (wp_seq (wp_plain _ [0,0,3,0] rfl (lw_tv 1 rfl (q_len (v := va) u98 rfl ha.isSl zN (r_makeS (n := a.length) (zs := exC Ex.zero (.slice none 0 0)) (z0 := Ex.zero) (good_oEx 94 da) u78 tiS94 rfl rfl rfl rfl rfl (by decide) oM (fun h0 H => oEx_zero (RN.exPos ha h0) H) zN fun v1 w1 hX1 hz1 hO1 => ?_)))))))
 have hzs1:=hX1.size
 have hE1:=hE0.trans hX1
 refine lw_tvn 1 rfl (wp_seq (wp_seq (wp_plain _ [0] rfl (lw_tvn 1 rfl (wp_block ?_)))))
 refine c_loop (S := Nat) (fun (k : Nat) => ([(4,(.int .i64 ((k :Nat):Int))),(0,va),(3,v1)] : List (Nat × Value))) (fun (k : Nat) (W : World) => Ext w W ∧ Fr (owS 5 (oEx 94 da) 94) w.heap.size W.heap.size W.heap v1 (a.take k ++ List.replicate (a.length - k) Ex.zero) ∧ k ≤ a.length) (fun (k : Nat) => a.length - k) 0 ⟨rfl,rfl,rfl,trivial⟩ ⟨hE1,(by simpa using hO1.up (good_owS (good_oEx 94 da))),sD⟩ ?_
 clear hE0 hO1 hz1 hX1 hzs1 hE1
 rintro k ρ2 w2 ⟨hE2,hL2_0,hp2_0⟩
 have hzs2 : w.heap.size ≤ w2.heap.size := hE2.size
 have hml : (a.take k ++ List.replicate (a.length - k) Ex.zero).length = a.length := by rw [List.length_append,List.length_take,List.length_replicate]; omega
 refine wp_seq (wp_seq (wp_plain _ [0,0,0,0] rfl (lw_tv 2 rfl (q_len (v := va) u98 rfl ha.isSl zN ?_))))
 by_cases hc3 : ((k :Nat):Int) < ((a.length :Nat):Int)
 ·
  refine q_lss true rfl rfl (decide_eq_true hc3) zN (lw_nil (c_cond_t rfl (wp_skip (wp_seq (wp_block (wp_plain _ [0,0,0,0,0,2,3,0,4] rfl ?_))))))
  have hsa := sizes_at (l := a) (k := k) oM
  have hsk := size_kids (a.getD k Ex.zero)
  refine lw_tv 4 rfl (q_idx (v := va) k u98 tiS160 rfl rfl ha.isSl rfl sD zN ?_)
  obtain ⟨cs4,hr4,hl4⟩ := ha.get (good_rEx da) Ex.zero (k := k) sD
  obtain ⟨dd4,ve4,hd4,rfl,hx4⟩ := RX.of hr4
  have hln4 := hx4.rn.lenle
  unfold maxLen at hln4
  refine q_loadA (p := eptr va k 5) (.inr rfl) [(.int .i64 ((a.getD k Ex.zero).kind)),(.int .i64 ((a.getD k Ex.zero).num)),(.int .i64 ((a.getD k Ex.zero).pick)),(.int .i64 ((a.getD k Ex.zero).count)),ve4] agg160 rfl (fun w9 hw9 => hl4 w9 (Chg.of_ext [] (hE2.trans hw9))) rfl zN (lw_call 140 [] [] [(.agg #[(.int .i64 ((a.getD k Ex.zero).kind)),(.int .i64 ((a.getD k Ex.zero).num)),(.int .i64 ((a.getD k Ex.zero).pick)),(.int .i64 ((a.getD k Ex.zero).count)),ve4])] rfl rfl cf140 zN (c_laws_toExpr _ dd4 ve4 (a.getD k Ex.zero) (hx4.ext hE2) oM (by intro w9 d9 v9 a9 h1 h2 h3; exact ih d9 oM w9 v9 a9 h1 h2)) ?_)
  rintro e5 w5 ⟨v5,rfl,hX5,hO5⟩
  refine ⟨_,rfl,hX5,?_⟩
  have hzs5:=hX5.size
  have hE5:=hE2.trans hX5
  have hL2_0x5 := hL2_0.ext ((good_owS (good_oEx 94 da))) hX5
  refine q_idx (v := v1) k u78 tiS94 rfl rfl hL2_0x5.isSlS rfl sD zN ?_
  refine e_setS (v := v1) (cs := [(.int .i64 ((a.getD k Ex.zero).kind)),(.int .i64 ((a.getD k Ex.zero).num)),(.int .i64 ((a.getD k Ex.zero).pick)),(.int .i64 ((a.getD k Ex.zero).count)),v5]) (n := (a.getD k Ex.zero)) (j := k) (good_oEx 94 da) agg94 rfl rfl hL2_0x5 (oEx_mk (d' := dd4) hd4 hx4.rng hO5) oM oM sD zN fun w6 F6 hC6 hz6 hF6 hO6 => ?_
  have hE6 : Ext w w6 := hC6.below hE5 (fun c hc => Nat.le_trans (Nat.le_refl _) (hF6 c hc).1) hE5.size
  have hzs6:=hC6.size
  refine lw_nil (wp_plain _ [0,0,0] rfl (lw_tv 1 rfl (q_add ((k + 1 :Nat):Int) rfl rfl (w64n oM sD) zN (lw_tvn 1 rfl ?_))))
  exact ⟨(k + 1),_,rfl,⟨rfl,rfl,rfl,trivial⟩,⟨hE6,(by have h := hO6.up (good_owS (good_oEx 94 da)); rwa [set_zero oM] at h),sD⟩,by first | omega | (dsimp only; omega)⟩
 ·
  exact q_lss false rfl rfl (decide_eq_false hc3) zN (lw_nil (c_cond_f rfl (wp_exit (t_exit (t_exit (c_exit_here (wp_seq (wp_plain _ [0,0] rfl (lw_tvn 2 rfl (wp_ret (post_ret [2] rfl v1 rfl ⟨v1,rfl,hE2,(by have h := ((hL2_0.up (good_owS (good_oEx 94 da))).low (B' := w.heap.size) oM); rwa [show a.take k ++ List.replicate (a.length - k) Ex.zero = a from by rw [List.take_of_length_le oM,show a.length - k = 0 from by omega]; simp] at h)⟩)))))))))))
theorem c_laws_toFunc (w : World) (dg : Nat) (vf : Value) (g : Fn) (hg : RF [] dg w.heap vf g) (hs : Ex.sizes g.outs ≤ 1000000000) :
  Calls Tryz.prog 82 #[(.agg #[(.string g.name),(.int .i64 g.params),vf])] w (fun e w' => ∃ v,e = .returned (.agg #[.string g.name,.int .i64 g.params,v]) ∧ Ext w w' ∧ Fr (owS 5 (oEx 94 dg) 94) w.heap.size w'.heap.size w'.heap v g.outs) := by
 refine calls_mk [(.agg #[(.string g.name),(.int .i64 g.params),vf])] 15 Tryz.func82 rfl rfl sM ?_
 have hE0 : Ext w w := Ext.refl w
 have hl_vf := hg.rn.lenle
 unfold maxLen at hl_vf
 refine wp_seq (wp_plain _ [3,3] rfl (r_boxA (cs := #[(.string g.name),(.int .i64 g.params),vf]) rfl zN fun w1 hX1 hz1 hB1 => ?_))
 have hzs1:=hX1.size
 have hE1:=hE0.trans hX1
 replace hB1 : BX w1.heap w.heap.size [(.string g.name),(.int .i64 g.params),vf] := hB1
 have hq3 := hB1.lt
 refine r_allocA (z := .agg #[.string ByteArray.empty,.int .i64 0,.slice none 0 0]) zr80 zN fun w2 hX2 hz2 hB2 => ?_
 have hzs2:=hX2.size
 have hE2:=hE1.trans hX2
 have hB1x2 := hB1.ext hX2
 replace hB2 : BX w2.heap w1.heap.size [(.string ByteArray.empty),(.int .i64 0),(.slice none 0 0)] := hB2
 refine lw_nil (wp_seq (wp_plain _ [3] rfl ?_))
 have hq5 := hB1x2.lt
 have hq6 := hB2.lt
 refine r_allocA (z := .agg #[.string ByteArray.empty,.int .i64 0,.slice none 0 0]) zr80 zN fun w4 hX4 hz4 hB4 => ?_
 have hzs4:=hX4.size
 have hE4:=hE2.trans hX4
 have hB1x4 := hB1x2.ext hX4
 have hB2x4 := hB2.ext hX4
 replace hB4 : BX w4.heap w2.heap.size [(.string ByteArray.empty),(.int .i64 0),(.slice none 0 0)] := hB4
 refine lw_nil (wp_seq (wp_plain _ [0,2,0,4] rfl (q_fldP (p := (.pointer (some ⟨w.heap.size,0,none⟩))) (b := w.heap.size) (o := 0) 0 fd100_0 rfl rfl zN (q_load (p := (padd (.pointer (some ⟨w.heap.size,0,none⟩)) 0)) (.inr rfl) (.string g.name) one9 rfl (hB1x4.ldp (i := 0) sM) zN (q_fldP (p := (.pointer (some ⟨w2.heap.size,0,none⟩))) (b := w2.heap.size) (o := 0) 0 fd80_0 rfl rfl zN (e_setB (k := 0) (w := w4) sz9 rfl rfl ⟨rfl,rfl⟩ hB4 sM zN fun w7 hC7 hz7 hB7 => ?_))))))
 replace hB7 : BX w7.heap w2.heap.size [(.string g.name),(.int .i64 0),(.slice none 0 0)] := hB7
 have hE7 : Ext w w7 := hC7.below hE4 (fun c hc => by have := List.mem_singleton.1 hc; omega) hE4.size
 have hzs7:=hC7.size
 have hF8 := hB1x4.chg hC7 (fun hm => by have := List.mem_singleton.1 hm; omega)
 have hF9 := hB2x4.chg hC7 (fun hm => by have := List.mem_singleton.1 hm; omega)
 refine lw_nil (wp_seq (wp_plain _ [0,2,0,4] rfl (q_fldP (p := (.pointer (some ⟨w.heap.size,0,none⟩))) (b := w.heap.size) (o := 0) 1 fd100_1 rfl rfl zN (q_load (p := (padd (.pointer (some ⟨w.heap.size,0,none⟩)) 1)) (.inr rfl) (.int .i64 g.params) one2 rfl (hF8.ldp (i := 1) sM) zN (q_fldP (p := (.pointer (some ⟨w2.heap.size,0,none⟩))) (b := w2.heap.size) (o := 0) 1 fd80_1 rfl rfl zN (e_setB (k := 1) (w := w7) sz2 rfl rfl ⟨rfl,rfl⟩ hB7 sM zN fun w10 hC10 hz10 hB10 => ?_))))))
 replace hB10 : BX w10.heap w2.heap.size [(.string g.name),(.int .i64 g.params),(.slice none 0 0)] := hB10
 have hE10 : Ext w w10 := hC10.below hE7 (fun c hc => by have := List.mem_singleton.1 hc; omega) hE7.size
 have hzs10:=hC10.size
 have hF11 := hF8.chg hC10 (fun hm => by have := List.mem_singleton.1 hm; omega)
 have hF12 := hF9.chg hC10 (fun hm => by have := List.mem_singleton.1 hm; omega)
 refine lw_nil (wp_seq (wp_plain _ [0,2,3,0,4] rfl (q_fldP (p := (.pointer (some ⟨w.heap.size,0,none⟩))) (b := w.heap.size) (o := 0) 2 fd100_2 rfl rfl zN (q_load (p := (padd (.pointer (some ⟨w.heap.size,0,none⟩)) 2)) (.inr rfl) vf one98 rfl (hF11.ldp (i := 2) sM) zN (lw_call 115 [] [] [vf] rfl rfl cf115 zN (c_laws_toExprS _ dg vf (g.outs) (hg.rn.ext (good_rdS (good_rEx dg)) hE10) (by exact hs)) ?_)))))
 rintro e13 w13 ⟨v13,rfl,hX13,hO13⟩
 refine ⟨_,rfl,hX13,?_⟩
 have hzs13:=hX13.size
 have hE13:=hE10.trans hX13
 have hF11x13 := hF11.ext hX13
 have hF12x13 := hF12.ext hX13
 have hB10x13 := hB10.ext hX13
 refine q_fldP (p := (.pointer (some ⟨w2.heap.size,0,none⟩))) (b := w2.heap.size) (o := 0) 2 fd80_2 rfl rfl zN (e_setB (k := 2) (w := w13) sz78 rfl rfl (isSl_one hO13.isSlS) hB10x13 sM zN fun w14 hC14 hz14 hB14 => ?_)
 replace hB14 : BX w14.heap w2.heap.size [(.string g.name),(.int .i64 g.params),v13] := hB14
 have hE14 : Ext w w14 := hC14.below hE13 (fun c hc => by have := List.mem_singleton.1 hc; omega) hE13.size
 have hzs14:=hC14.size
 have hF15 := hF11x13.chg hC14 (fun hm => by have := List.mem_singleton.1 hm; omega)
 have hF16 := hF12x13.chg hC14 (fun hm => by have := List.mem_singleton.1 hm; omega)
 have hF17 := hO13.chg ((good_owS (good_oEx 94 dg))) hC14 (fun c hc => by have := List.mem_singleton.1 hc; omega)
 refine lw_nil (wp_seq (wp_plain _ [2,4] rfl (q_loadA (p := (.pointer (some ⟨w2.heap.size,0,none⟩))) (.inr rfl) [(.string g.name),(.int .i64 g.params),v13] agg80 rfl (fun w9 hw9 => LD.of_box (BX.ext (w := w14) hB14 hw9)) rfl zN (e_setA (vs := [(.string g.name),(.int .i64 g.params),v13]) agg80 rfl rfl (by intro u hu; simp only [List.mem_cons,List.not_mem_nil,or_false] at hu; rcases hu with rfl | rfl | rfl <;> first | exact ⟨rfl,rfl⟩ | exact isSl_one hF17.isSlS) hF16 rfl rfl zN fun w18 hC18 hz18 hB18 => ?_))))
 replace hB18 : BX w18.heap w1.heap.size [(.string g.name),(.int .i64 g.params),v13] := hB18
 have hE18 : Ext w w18 := hC18.below hE14 (fun c hc => by have := List.mem_singleton.1 hc; omega) hE14.size
 have hzs18:=hC18.size
 have hF19 := hF15.chg hC18 (fun hm => by have := List.mem_singleton.1 hm; omega)
 have hF20 := hB14.chg hC18 (fun hm => by have := List.mem_singleton.1 hm; omega)
 have hF21 := hF17.chg ((good_owS (good_oEx 94 dg))) hC18 (fun c hc => by have := List.mem_singleton.1 hc; omega)
 exact lw_nil (wp_ret (post_retA (cs := [(.string g.name),(.int .i64 g.params),v13]) rfl agg80 rfl hB18 rfl ⟨v13,rfl,hE18,((hF21.up (good_owS (good_oEx 94 dg))).low (B' := w.heap.size) oM)⟩))
theorem c_laws_toFuncS (w : World) (da : Nat) (va : Value) (a : List Fn) (ha : RP [] da w.heap va a) (hs : szP a ≤ 1000000000) :
  Calls Tryz.prog 44 #[va] w (fun e w' => ∃ v,e = .returned v ∧ Ext w w' ∧ Fr (owS 3 (oFn 94 da) 80) w.heap.size w'.heap.size w'.heap v a) := by
 refine calls_mk [va] 23 Tryz.func44 rfl rfl sM ?_
 have hE0 : Ext w w := Ext.refl w
 have hl_va := ha.lenle
 unfold maxLen at hl_va
 have hsz : szP a = a.length + Fn.szs a := rfl
 refine wp_seq (wp_plain _ [0] rfl (lw_tvn 1 rfl (wp_seq (wp_plain _ [0,0,3,0] rfl (lw_tv 1 rfl (q_len (v := va) u22 rfl ha.isSl zN (r_makeS (n := a.length) (zs := fnC Fn.zero (.slice none 0 0)) (z0 := Fn.zero) (good_oFn 94 da) u30 tiS80 rfl rfl rfl rfl rfl (by decide) oM (fun _ H => oFn_zero H) zN fun v1 w1 hX1 hz1 hO1 => ?_)))))))
 have hzs1:=hX1.size
 have hE1:=hE0.trans hX1
 refine lw_tvn 1 rfl (wp_seq (wp_seq (wp_plain _ [0] rfl (lw_tvn 1 rfl (wp_block ?_)))))
 refine c_loop (S := Nat) (fun (k : Nat) => ([(4,(.int .i64 ((k :Nat):Int))),(0,va),(3,v1)] : List (Nat × Value))) (fun (k : Nat) (W : World) => Ext w W ∧ Fr (owS 3 (oFn 94 da) 80) w.heap.size W.heap.size W.heap v1 (a.take k ++ List.replicate (a.length - k) Fn.zero) ∧ k ≤ a.length) (fun (k : Nat) => a.length - k) 0 ⟨rfl,rfl,rfl,trivial⟩ ⟨hE1,(by simpa using hO1.up (good_owS (good_oFn 94 da))),sD⟩ ?_
 clear hE0 hO1 hz1 hX1 hzs1 hE1
 rintro k ρ2 w2 ⟨hE2,hL2_0,hp2_0⟩
 have hzs2 : w.heap.size ≤ w2.heap.size := hE2.size
 have hml : (a.take k ++ List.replicate (a.length - k) Fn.zero).length = a.length := by rw [List.length_append,List.length_take,List.length_replicate]; omega
 refine wp_seq (wp_seq (wp_plain _ [0,0,0,0] rfl (lw_tv 2 rfl (q_len (v := va) u22 rfl ha.isSl zN ?_))))
 by_cases hc3 : ((k :Nat):Int) < ((a.length :Nat):Int)
 ·
  refine q_lss true rfl rfl (decide_eq_true hc3) zN (lw_nil (c_cond_t rfl (wp_skip (wp_seq (wp_block (wp_plain _ [0,0,0,0,0,2,3,0,4] rfl ?_))))))
  have hsa := szs_at (l := a) (k := k) oM
  have hsk : (a.getD k Fn.zero).sz = (a.getD k Fn.zero).name.size + Ex.sizes (a.getD k Fn.zero).outs := rfl
  refine lw_tv 4 rfl (q_idx (v := va) k u22 tiS100 rfl rfl ha.isSl rfl sD zN ?_)
  obtain ⟨cs4,hr4,hl4⟩ := ha.get (good_rFn da) Fn.zero (k := k) sD
  obtain ⟨ve4,rfl,hx4⟩ := RF.of hr4
  have hln4 := hx4.rn.lenle
  unfold maxLen at hln4
  refine q_loadA (p := eptr va k 3) (.inr rfl) [(.string ((a.getD k Fn.zero).name)),(.int .i64 ((a.getD k Fn.zero).params)),ve4] agg100 rfl (fun w9 hw9 => hl4 w9 (Chg.of_ext [] (hE2.trans hw9))) rfl zN (lw_call 82 [] [] [(.agg #[(.string ((a.getD k Fn.zero).name)),(.int .i64 ((a.getD k Fn.zero).params)),ve4])] rfl rfl cf82 zN (c_laws_toFunc _ da ve4 (a.getD k Fn.zero) ⟨hx4.rng,(hx4.rn.ext (good_rdS (good_rEx da)) hE2)⟩ oM) ?_)
  rintro e5 w5 ⟨v5,rfl,hX5,hO5⟩
  refine ⟨_,rfl,hX5,?_⟩
  have hzs5:=hX5.size
  have hE5:=hE2.trans hX5
  have hL2_0x5 := hL2_0.ext ((good_owS (good_oFn 94 da))) hX5
  refine q_idx (v := v1) k u30 tiS80 rfl rfl hL2_0x5.isSlS rfl sD zN ?_
  refine e_setS (v := v1) (cs := [(.string ((a.getD k Fn.zero).name)),(.int .i64 ((a.getD k Fn.zero).params)),v5]) (n := (a.getD k Fn.zero)) (j := k) (good_oFn 94 da) agg80 rfl rfl hL2_0x5 (oFn_mk hx4.rng hO5) oM oM sD zN fun w6 F6 hC6 hz6 hF6 hO6 => ?_
  have hE6 : Ext w w6 := hC6.below hE5 (fun c hc => Nat.le_trans (Nat.le_refl _) (hF6 c hc).1) hE5.size
  have hzs6:=hC6.size
  refine lw_nil (wp_plain _ [0,0,0] rfl (lw_tv 1 rfl (q_add ((k + 1 :Nat):Int) rfl rfl (w64n oM sD) zN (lw_tvn 1 rfl ?_))))
  exact ⟨(k + 1),_,rfl,⟨rfl,rfl,rfl,trivial⟩,⟨hE6,(by have h := hO6.up (good_owS (good_oFn 94 da)); rwa [set_zero oM] at h),sD⟩,by first | omega | (dsimp only; omega)⟩
 ·
  exact q_lss false rfl rfl (decide_eq_false hc3) zN (lw_nil (c_cond_f rfl (wp_exit (t_exit (t_exit (c_exit_here (wp_seq (wp_plain _ [0,0] rfl (lw_tvn 2 rfl (wp_ret (post_ret [2] rfl v1 rfl ⟨v1,rfl,hE2,(by have h := ((hL2_0.up (good_owS (good_oFn 94 da))).low (B' := w.heap.size) oM); rwa [show a.take k ++ List.replicate (a.length - k) Fn.zero = a from by rw [List.take_of_length_le oM,show a.length - k = 0 from by omega]; simp] at h)⟩)))))))))))
theorem c_laws_toProgram (w : World) (dp : Nat) (vp : Value) (p : List Fn) (hp : RP [] dp w.heap vp p) (hs : szP p ≤ 1000000000) :
  Calls Tryz.prog 11 #[(.agg #[vp])] w (fun e w' => ∃ v,e = .returned (.agg #[v]) ∧ Ext w w' ∧ Fr (owS 3 (oFn 94 dp) 80) w.heap.size w'.heap.size w'.heap v p) := by
 refine calls_mk [(.agg #[vp])] 9 Tryz.func11 rfl rfl sM ?_
 have hE0 : Ext w w := Ext.refl w
 have hl_vp := hp.lenle
 unfold maxLen at hl_vp
 refine wp_seq (wp_plain _ [3,3] rfl (r_boxA (cs := #[vp]) rfl zN fun w1 hX1 hz1 hB1 => ?_))
 have hzs1:=hX1.size
 have hE1:=hE0.trans hX1
 replace hB1 : BX w1.heap w.heap.size [vp] := hB1
 have hq3 := hB1.lt
 refine r_allocA (z := .agg #[.slice none 0 0]) zr32 zN fun w2 hX2 hz2 hB2 => ?_
 have hzs2:=hX2.size
 have hE2:=hE1.trans hX2
 have hB1x2 := hB1.ext hX2
 replace hB2 : BX w2.heap w1.heap.size [(.slice none 0 0)] := hB2
 refine lw_nil (wp_seq (wp_plain _ [3] rfl ?_))
 have hq5 := hB1x2.lt
 have hq6 := hB2.lt
 refine r_allocA (z := .agg #[.slice none 0 0]) zr32 zN fun w4 hX4 hz4 hB4 => ?_
 have hzs4:=hX4.size
 have hE4:=hE2.trans hX4
 have hB1x4 := hB1x2.ext hX4
 have hB2x4 := hB2.ext hX4
 replace hB4 : BX w4.heap w2.heap.size [(.slice none 0 0)] := hB4
 refine lw_nil (wp_seq (wp_plain _ [0,2,3,0,4] rfl (q_fldP (p := (.pointer (some ⟨w.heap.size,0,none⟩))) (b := w.heap.size) (o := 0) 0 fd24_0 rfl rfl zN (q_load (p := (padd (.pointer (some ⟨w.heap.size,0,none⟩)) 0)) (.inr rfl) vp one22 rfl (hB1x4.ldp (i := 0) sM) zN (lw_call 44 [] [] [vp] rfl rfl cf44 zN (c_laws_toFuncS _ dp vp (p) (hp.ext (good_rdS (good_rFn dp)) hE4) (by exact hs)) ?_)))))
 rintro e7 w7 ⟨v7,rfl,hX7,hO7⟩
 refine ⟨_,rfl,hX7,?_⟩
 have hzs7:=hX7.size
 have hE7:=hE4.trans hX7
 have hB1x7 := hB1x4.ext hX7
 have hB2x7 := hB2x4.ext hX7
 have hB4x7 := hB4.ext hX7
 refine q_fldP (p := (.pointer (some ⟨w2.heap.size,0,none⟩))) (b := w2.heap.size) (o := 0) 0 fd32_0 rfl rfl zN (e_setB (k := 0) (w := w7) sz30 rfl rfl (isSl_one hO7.isSlS) hB4x7 sM zN fun w8 hC8 hz8 hB8 => ?_)
 replace hB8 : BX w8.heap w2.heap.size [v7] := hB8
 have hE8 : Ext w w8 := hC8.below hE7 (fun c hc => by have := List.mem_singleton.1 hc; omega) hE7.size
 have hzs8:=hC8.size
 have hF9 := hB1x7.chg hC8 (fun hm => by have := List.mem_singleton.1 hm; omega)
 have hF10 := hB2x7.chg hC8 (fun hm => by have := List.mem_singleton.1 hm; omega)
 have hF11 := hO7.chg ((good_owS (good_oFn 94 dp))) hC8 (fun c hc => by have := List.mem_singleton.1 hc; omega)
 refine lw_nil (wp_seq (wp_plain _ [2,4] rfl (q_loadA (p := (.pointer (some ⟨w2.heap.size,0,none⟩))) (.inr rfl) [v7] agg32 rfl (fun w9 hw9 => LD.of_box (BX.ext (w := w8) hB8 hw9)) rfl zN (e_setA (vs := [v7]) agg32 rfl rfl (by intro u hu; simp only [List.mem_cons,List.not_mem_nil,or_false] at hu; rcases hu with rfl <;> first | exact ⟨rfl,rfl⟩ | exact isSl_one hF11.isSlS) hF10 rfl rfl zN fun w12 hC12 hz12 hB12 => ?_))))
 replace hB12 : BX w12.heap w1.heap.size [v7] := hB12
 have hE12 : Ext w w12 := hC12.below hE8 (fun c hc => by have := List.mem_singleton.1 hc; omega) hE8.size
 have hzs12:=hC12.size
 have hF13 := hF9.chg hC12 (fun hm => by have := List.mem_singleton.1 hm; omega)
 have hF14 := hB8.chg hC12 (fun hm => by have := List.mem_singleton.1 hm; omega)
 have hF15 := hF11.chg ((good_owS (good_oFn 94 dp))) hC12 (fun c hc => by have := List.mem_singleton.1 hc; omega)
 exact lw_nil (wp_ret (post_retA (cs := [v7]) rfl agg32 rfl hB12 rfl ⟨v7,rfl,hE12,((hF15.up (good_owS (good_oFn 94 dp))).low (B' := w.heap.size) oM)⟩))
theorem c_laws_markText (w : World) (k : Int) (_hk : -9223372036854775808 ≤ k ∧ k ≤ 9223372036854775807) (hk : 0 ≤ k ∧ k ≤ 4000000000) :
  Calls Tryz.prog 89 #[.int .i64 k] w (fun e w' => ∃ s,e = .returned (.string s) ∧ Ext w w') := by
 refine calls_mk [.int .i64 k] 20 Tryz.func89 rfl rfl sM ?_
 have hE0 : Ext w w := Ext.refl w
 refine wp_seq (wp_plain _ [0] rfl (lw_tvn 1 rfl (wp_seq (wp_seq (wp_plain _ [0,0] rfl (lw_tv 1 rfl ?_))))))
 by_cases hc1 : k ≤ ((0 :Nat):Int)
 ·
  exact q_leq true rfl rfl (decide_eq_true hc1) zN (lw_nil (c_cond_t rfl (wp_seq (wp_plain _ [0] rfl (lw_tvn 1 rfl (wp_ret (t_ret (post_ret [2] rfl (.string (⟨#[109,48]⟩)) rfl ⟨⟨#[109,48]⟩,rfl,hE0⟩))))))))
 ·
  refine q_leq false rfl rfl (decide_eq_false hc1) zN (lw_nil (c_cond_f rfl (wp_skip (wp_seq (wp_plain _ [0] rfl (lw_tvn 1 rfl (wp_seq (wp_block (c_loop (S := Int × ByteArray) (fun (⟨l,s⟩ : Int × ByteArray) => ([(0,(.int .i64 l)),(3,(.string s))] : List (Nat × Value))) (fun (⟨l,s⟩ : Int × ByteArray) (W : World) => Ext w W ∧ (0 ≤ l ∧ l + (s.size : Int) ≤ k)) (fun (⟨l,s⟩ : Int × ByteArray) => l.toNat) (k,(⟨#[]⟩)) ⟨rfl,rfl,trivial⟩ ⟨hE0,(by exact ⟨by omega,by show k + ((0 :Nat):Int) ≤ k; omega⟩)⟩ ?_)))))))))
  clear hE0
  rintro ⟨l,s⟩ ρ2 w2 ⟨hE2,hp2_0⟩
  have hzs2 : w.heap.size ≤ w2.heap.size := hE2.size
  refine wp_seq (wp_seq (wp_plain _ [0,0] rfl (lw_tv 1 rfl ?_)))
  by_cases hc3 : ((0 :Nat):Int) < l
  ·
   refine q_gtr true rfl rfl (decide_eq_true hc3) zN (lw_nil (c_cond_t rfl (wp_skip (wp_block (wp_seq (wp_plain _ [0,0,0,0,3,2,0,0,0] rfl ?_))))))
   have htm : 0 ≤ l.tmod ((10 :Nat):Int) ∧ l.tmod ((10 :Nat):Int) < 10 := ⟨Int.tmod_nonneg _ oM,Int.tmod_lt_of_pos _ oM⟩
   refine lw_tv 1 rfl (q_rem (l.tmod ((10 :Nat):Int)) rfl rfl (by decide) rfl zN (q_add (((48 :Nat):Int) + l.tmod ((10 :Nat):Int)) rfl rfl (w64 oM oM) zN (q_conv (IntKind.u8.wrap (((48 :Nat):Int) + l.tmod ((10 :Nat):Int))) u3 u5 rfl rfl zN (r_one (u := (.int .u8 (IntKind.u8.wrap (((48 :Nat):Int) + l.tmod ((10 :Nat):Int))))) (B := w2.heap.size) good_rV u50 ti5 rfl rfl (frV (w2.heap.size) (w2.heap.size) _ ⟨rfl,rfl⟩) (Nat.le_refl _) zN fun v4 w4 hX4 hz4 hO4 => ?_))))
   have hzs4:=hX4.size
   have hE4:=hE2.trans hX4
   exact q_byte u50 u5 u9 rfl hO4 zN fun sb5 hsb5 => lw_tv 1 rfl (q_adds (a := sb5) (b := s) rfl rfl oM zN (lw_tvn 1 rfl (wp_plain _ [0,0,0] rfl (lw_tv 1 rfl (q_quo (l / 10) rfl rfl (by decide) (by rw [Int.tdiv_eq_ediv_of_nonneg oM,w64 oM oM]) zN (lw_tvn 1 rfl ⟨((l / 10),(sb5 ++ s)),_,rfl,⟨rfl,rfl,trivial⟩,⟨hE4,(by rw [ByteArray.size_append]; omega)⟩,by first | omega | (dsimp only; omega)⟩))))))
  ·
   exact q_gtr false rfl rfl (decide_eq_false hc3) zN (lw_nil (c_cond_f rfl (wp_exit (t_exit (t_exit (c_exit_here (wp_seq (wp_plain _ [0,0,0] rfl (lw_tv 1 rfl (q_adds (a := ⟨#[109]⟩) (b := s) rfl rfl (by show 1 + s.size ≤ 9223372036854775807; omega) zN (lw_tvn 1 rfl (wp_ret (post_ret [2] rfl (.string (⟨#[109]⟩ ++ s)) rfl ⟨(⟨#[109]⟩ ++ s),rfl,hE2⟩)))))))))))))
theorem z90_0 {p : Prop} (h : p := by first | exact w64 oM oM | (rw [w64 oM oM]; omega)) : p := h
theorem c_laws_markExprS (w : World) (da : Nat) (va : Value) (a : List Ex) (Fa : List Nat) (k : Int) (ha : owS 5 (hEx 94 da) 94 w.heap va a Fa) (hna : Fa.Nodup) (_hk : -9223372036854775808 ≤ k ∧ k ≤ 9223372036854775807) (hk : 0 ≤ k ∧ k + 4 * ((Ex.sizes a :Nat):Int) ≤ 4000000000) :
  Calls Tryz.prog 90 #[va,.int .i64 k] w (fun e w' => ∃ k' : Int,e = .returned (.int .i64 k') ∧ Chg Fa w w' ∧ owS 5 (hEx 94 da) 94 w'.heap va a Fa ∧ (k ≤ k' ∧ k' ≤ k + 4 * ((Ex.sizes a :Nat):Int))) := by
 induction da using Nat.strongRecOn generalizing w va a Fa k
 rename_i da ih
 refine calls_mk [va,.int .i64 k] 48 Tryz.func90 rfl rfl sM ?_
 have hE0 : Chg Fa w w := Chg.refl Fa w
 have hl_va := ha.lenle
 unfold maxLen at hl_va
 have hge0 := sizes_ge a 0
 have hs0 : a.length ≤ Ex.sizes a := by omega
 refine wp_seq (wp_plain _ [0] rfl (lw_tvn 1 rfl (wp_seq (wp_seq (wp_plain _ [0] rfl (lw_tvn 1 rfl (wp_block (c_loop (S := Nat × Int) (fun (⟨j,l⟩ : Nat × Int) => ([(1,(.int .i64 l)),(5,(.int .i64 ((j :Nat):Int))),(0,va)] : List (Nat × Value))) (fun (⟨j,l⟩ : Nat × Int) (W : World) => Chg Fa w W ∧ j ≤ a.length ∧ owS 5 (hEx 94 da) 94 W.heap va a Fa ∧ (k ≤ l ∧ l ≤ k + 4 * ((Ex.sizes (a.take j) :Nat):Int))) (fun (⟨j,l⟩ : Nat × Int) => a.length - j) (0,k) ⟨rfl,rfl,rfl,trivial⟩ ⟨hE0,oM,(by assumption),(by rw [List.take_zero,sizes_nil]; omega)⟩ ?_))))))))
 clear hE0
 rintro ⟨j,l⟩ ρ1 w1 ⟨hE1,hp1_0,hsh,hlk⟩
 have hzs1 : w.heap.size ≤ w1.heap.size := hE1.size
 refine wp_seq (wp_seq (wp_plain _ [0,0,0,0] rfl (lw_tv 2 rfl (q_len (v := va) u78 rfl hsh.isSl zN ?_))))
 by_cases hc2 : ((j :Nat):Int) < ((a.length :Nat):Int)
 ·
  refine q_lss true rfl rfl (decide_eq_true hc2) zN (lw_nil (c_cond_t rfl (wp_skip (wp_seq (wp_block (wp_seq (wp_plain _ [0,0,0,0,0,4] rfl ?_)))))))
  have hst := sizes_step (l := a) (k := j) oM
  have hle := sizes_take a (j + 1)
  have hsk := size_kids (a.getD j Ex.zero)
  refine lw_tv 3 rfl (q_idx (v := va) j u78 tiS94 rfl rfl hsh.isSl rfl sD zN ?_)
  obtain ⟨gb3,ob3,hpb3⟩ := hsh.isPtr (k := j) sD
  refine q_fldP (p := eptr va j 5) (b := gb3) (o := ob3) 0 fd94_0 rfl hpb3 zN (e_setC (v := va) (k := j) (c := 0) (good_hEx 94 da) sz2 rfl rfl ⟨rfl,rfl⟩ hsh hna sD (by decide) (fun h => hEx_set (by decide) h) zN fun w4 hC4 hz4 hH4 => ?_)
  have hE4 : Chg Fa w w4 := hE1.trans hC4
  have hzs4:=hC4.size
  refine lw_nil (wp_seq (wp_plain _ [0,0,0] rfl (lw_tv 1 rfl (q_add (l + 1) rfl rfl z90_0 zN (lw_tvn 1 rfl (wp_seq (wp_plain _ [0,0,0,0,0,4] rfl (lw_tv 3 rfl (q_idx (v := va) j u78 tiS94 rfl rfl hH4.isSl rfl sD zN ?_)))))))))
  obtain ⟨gb5,ob5,hpb5⟩ := hH4.isPtr (k := j) sD
  refine q_fldP (p := eptr va j 5) (b := gb5) (o := ob5) 1 fd94_1 rfl hpb5 zN (e_setC (v := va) (k := j) (c := 1) (good_hEx 94 da) sz2 rfl rfl ⟨rfl,rfl⟩ hH4 hna sD (by decide) (fun h => hEx_set (by decide) h) zN fun w6 hC6 hz6 hH6 => ?_)
  have hE6 : Chg Fa w w6 := hE4.trans hC6
  have hzs6:=hC6.size
  refine lw_nil (wp_seq (wp_plain _ [0,0,0] rfl (lw_tv 1 rfl (q_add (l + 2) rfl rfl z90_0 zN (lw_tvn 1 rfl (wp_seq (wp_plain _ [0,0,0,0,0,4] rfl (lw_tv 3 rfl (q_idx (v := va) j u78 tiS94 rfl rfl hH6.isSl rfl sD zN ?_)))))))))
  obtain ⟨gb7,ob7,hpb7⟩ := hH6.isPtr (k := j) sD
  refine q_fldP (p := eptr va j 5) (b := gb7) (o := ob7) 2 fd94_2 rfl hpb7 zN (e_setC (v := va) (k := j) (c := 2) (good_hEx 94 da) sz2 rfl rfl ⟨rfl,rfl⟩ hH6 hna sD (by decide) (fun h => hEx_set (by decide) h) zN fun w8 hC8 hz8 hH8 => ?_)
  have hE8 : Chg Fa w w8 := hE6.trans hC8
  have hzs8:=hC8.size
  refine lw_nil (wp_seq (wp_plain _ [0,0,0] rfl (lw_tv 1 rfl (q_add (l + 3) rfl rfl z90_0 zN (lw_tvn 1 rfl (wp_seq (wp_plain _ [0,0,0,0,0,4] rfl (lw_tv 3 rfl (q_idx (v := va) j u78 tiS94 rfl rfl hH8.isSl rfl sD zN ?_)))))))))
  obtain ⟨gb9,ob9,hpb9⟩ := hH8.isPtr (k := j) sD
  refine q_fldP (p := eptr va j 5) (b := gb9) (o := ob9) 3 fd94_3 rfl hpb9 zN (e_setC (v := va) (k := j) (c := 3) (good_hEx 94 da) sz2 rfl rfl ⟨rfl,rfl⟩ hH8 hna sD (by decide) (fun h => hEx_set (by decide) h) zN fun w10 hC10 hz10 hH10 => ?_)
  have hE10 : Chg Fa w w10 := hE8.trans hC10
  have hzs10:=hC10.size
  refine lw_nil (wp_seq (wp_plain _ [0,0,0] rfl (lw_tv 1 rfl (q_add (l + 4) rfl rfl z90_0 zN (lw_tvn 1 rfl (wp_plain _ [0,0,0,0,2,0,4,0] rfl (lw_tv 2 rfl (q_idx (v := va) j u78 tiS94 rfl rfl hH10.isSl rfl sD zN ?_))))))))
  obtain ⟨gb11,ob11,hpb11⟩ := hH10.isPtr (k := j) sD
  refine q_fldP (p := eptr va j 5) (b := gb11) (o := ob11) 4 fd94_4 rfl hpb11 zN ?_
  obtain ⟨dk12,ue12,G12,hdk12,hl12,ho12,hng12,hsub12,hre12⟩ := hH10.kidE hna (k := j) sD
  refine q_load (p := (padd (eptr va j 5) 4)) (.inr rfl) ue12 one78 rfl hl12 zN (lw_tv 1 rfl (lw_callE 90 [] [] [ue12,(.int .i64 (l + 4))] rfl rfl cf90 zN (ih dk12 oM _  ue12 ((a.getD j Ex.zero).kids) G12 (l + 4) ho12 hng12 oM oM) ?_))
  rintro e13 w13 ⟨k13,rfl,hC13,hO13,hk13⟩
  refine ⟨_,rfl,?_⟩
  have hzs13:=hC13.size
  have hE13 : Chg Fa w w13 := hE10.trans (hC13.sub hsub12)
  have hH13 := hre12 _ hC13 hO13
  exact lw_tvn 1 rfl (wp_plain _ [0,0,0] rfl (lw_tv 1 rfl (q_add ((j + 1 :Nat):Int) rfl rfl (w64n oM sD) zN (lw_tvn 1 rfl ⟨((j + 1),k13),_,rfl,⟨rfl,rfl,rfl,trivial⟩,⟨hE13,oM,(by assumption),oM⟩,by first | omega | (dsimp only; omega)⟩))))
 ·
  exact q_lss false rfl rfl (decide_eq_false hc2) zN (lw_nil (c_cond_f rfl (wp_exit (t_exit (t_exit (c_exit_here (wp_seq (wp_plain _ [0,0] rfl (lw_tvn 2 rfl (wp_ret (post_ret [4] rfl (.int .i64 l) rfl ⟨l,rfl,hE1,hsh,(by have := sizes_take a j; omega)⟩)))))))))))
theorem c_laws_markFuncS (w : World) (da : Nat) (va : Value) (a : List Fn) (Fa : List Nat) (k : Int) (ha : owS 3 (hFn 94 da) 80 w.heap va a Fa) (hna : Fa.Nodup) (_hk : -9223372036854775808 ≤ k ∧ k ≤ 9223372036854775807) (hk : 0 ≤ k ∧ k + 4 * ((szP a :Nat):Int) ≤ 4000000000) :
  Calls Tryz.prog 49 #[va,.int .i64 k] w (fun e w' => ∃ k' : Int,e = .returned (.int .i64 k') ∧ Chg Fa w w' ∧ owS 3 (hFn 94 da) 80 w'.heap va a Fa ∧ (k ≤ k' ∧ k' ≤ k + 4 * ((szP a :Nat):Int))) := by
 refine calls_mk [va,.int .i64 k] 35 Tryz.func49 rfl rfl sM ?_
 have hE0 : Chg Fa w w := Chg.refl Fa w
 have hl_va := ha.lenle
 unfold maxLen at hl_va
 have hsz : szP a = a.length + Fn.szs a := rfl
 refine wp_seq (wp_plain _ [0] rfl (lw_tvn 1 rfl (wp_seq (wp_seq (wp_plain _ [0] rfl (lw_tvn 1 rfl (wp_block (c_loop (S := Nat × Int) (fun (⟨j,l⟩ : Nat × Int) => ([(1,(.int .i64 l)),(5,(.int .i64 ((j :Nat):Int))),(0,va)] : List (Nat × Value))) (fun (⟨j,l⟩ : Nat × Int) (W : World) => Chg Fa w W ∧ j ≤ a.length ∧ owS 3 (hFn 94 da) 80 W.heap va a Fa ∧ (k ≤ l ∧ l ≤ k + 2 * ((j :Nat):Int) + 4 * ((Fn.szs (a.take j) :Nat):Int))) (fun (⟨j,l⟩ : Nat × Int) => a.length - j) (0,k) ⟨rfl,rfl,rfl,trivial⟩ ⟨hE0,oM,(by assumption),(by rw [List.take_zero,szs_nil]; omega)⟩ ?_))))))))
 clear hE0
 rintro ⟨j,l⟩ ρ1 w1 ⟨hE1,hp1_0,hsh,hlk⟩
 have hzs1 : w.heap.size ≤ w1.heap.size := hE1.size
 refine wp_seq (wp_seq (wp_plain _ [0,0,0,0] rfl (lw_tv 2 rfl (q_len (v := va) u30 rfl hsh.isSl zN ?_))))
 by_cases hc2 : ((j :Nat):Int) < ((a.length :Nat):Int)
 ·
  refine q_lss true rfl rfl (decide_eq_true hc2) zN (lw_nil (c_cond_t rfl (wp_skip (wp_seq (wp_block (wp_seq (wp_plain _ [0,0,0,3,0,0,4] rfl ?_)))))))
  have hst := szs_step (l := a) (k := j) oM
  have hle := szs_take a (j + 1)
  have hsk : (a.getD j Fn.zero).sz = (a.getD j Fn.zero).name.size + Ex.sizes (a.getD j Fn.zero).outs := rfl
  refine lw_tv 3 rfl (lw_call 89 [] [] [(.int .i64 l)] rfl rfl cf89 zN (c_laws_markText _ (l) oM oM) ?_)
  rintro e3 w3 ⟨st3,rfl,hX3⟩
  refine ⟨_,rfl,hX3,?_⟩
  have hzs3:=hX3.size
  have hE3 : Chg Fa w w3 := hE1.ext hX3
  have hH4 := own_ext (good_owS (good_hFn 94 da)) hsh hX3
  refine q_idx (v := va) j u30 tiS80 rfl rfl hH4.isSl rfl sD zN ?_
  obtain ⟨gb5,ob5,hpb5⟩ := hH4.isPtr (k := j) sD
  refine q_fldP (p := eptr va j 3) (b := gb5) (o := ob5) 0 fd80_0 rfl hpb5 zN (e_setC (v := va) (k := j) (c := 0) (good_hFn 94 da) sz9 rfl rfl ⟨rfl,rfl⟩ hH4 hna sD (by decide) (fun h => hFn_set0 h) zN fun w6 hC6 hz6 hH6 => ?_)
  have hE6 : Chg Fa w w6 := hE3.trans hC6
  have hzs6:=hC6.size
  refine lw_nil (wp_seq (wp_plain _ [0,0,0] rfl (lw_tv 1 rfl (q_add (l + 1) rfl rfl (by first | exact w64 oM oM | (rw [w64 oM oM]; omega)) zN (lw_tvn 1 rfl (wp_seq (wp_plain _ [0,0,0,0,0,4] rfl (lw_tv 3 rfl (q_idx (v := va) j u30 tiS80 rfl rfl hH6.isSl rfl sD zN ?_)))))))))
  obtain ⟨gb7,ob7,hpb7⟩ := hH6.isPtr (k := j) sD
  refine q_fldP (p := eptr va j 3) (b := gb7) (o := ob7) 1 fd80_1 rfl hpb7 zN (e_setC (v := va) (k := j) (c := 1) (good_hFn 94 da) sz2 rfl rfl ⟨rfl,rfl⟩ hH6 hna sD (by decide) (fun h => hFn_set1 h) zN fun w8 hC8 hz8 hH8 => ?_)
  have hE8 : Chg Fa w w8 := hE6.trans hC8
  have hzs8:=hC8.size
  refine lw_nil (wp_seq (wp_plain _ [0,0,0] rfl (lw_tv 1 rfl (q_add (l + 2) rfl rfl (by first | exact w64 oM oM | (rw [w64 oM oM]; omega)) zN (lw_tvn 1 rfl (wp_plain _ [0,0,0,0,2,0,4,0] rfl (lw_tv 2 rfl (q_idx (v := va) j u30 tiS80 rfl rfl hH8.isSl rfl sD zN ?_))))))))
  obtain ⟨gb9,ob9,hpb9⟩ := hH8.isPtr (k := j) sD
  refine q_fldP (p := eptr va j 3) (b := gb9) (o := ob9) 2 fd80_2 rfl hpb9 zN ?_
  obtain ⟨ue10,G10,hl10,ho10,hng10,hsub10,hre10⟩ := hH8.kidF hna (k := j) sD
  refine q_load (p := (padd (eptr va j 3) 2)) (.inr rfl) ue10 one78 rfl hl10 zN (lw_tv 1 rfl (lw_callE 90 [] [] [ue10,(.int .i64 (l + 2))] rfl rfl cf90 zN (c_laws_markExprS _ da ue10 ((a.getD j Fn.zero).outs) G10 (l + 2) ho10 hng10 oM oM) ?_))
  rintro e11 w11 ⟨k11,rfl,hC11,hO11,hk11⟩
  refine ⟨_,rfl,?_⟩
  have hzs11:=hC11.size
  have hE11 : Chg Fa w w11 := hE8.trans (hC11.sub hsub10)
  have hH11 := hre10 _ hC11 hO11
  exact lw_tvn 1 rfl (wp_plain _ [0,0,0] rfl (lw_tv 1 rfl (q_add ((j + 1 :Nat):Int) rfl rfl (w64n oM sD) zN (lw_tvn 1 rfl ⟨((j + 1),k11),_,rfl,⟨rfl,rfl,rfl,trivial⟩,⟨hE11,oM,(by assumption),oM⟩,by first | omega | (dsimp only; omega)⟩))))
 ·
  exact q_lss false rfl rfl (decide_eq_false hc2) zN (lw_nil (c_cond_f rfl (wp_exit (t_exit (t_exit (c_exit_here (wp_seq (wp_plain _ [0,0] rfl (lw_tvn 2 rfl (wp_ret (post_ret [4] rfl (.int .i64 l) rfl ⟨l,rfl,hE1,hsh,(by have := szs_take a j; omega)⟩)))))))))))
theorem c_laws_markProgram (w : World) (da : Nat) (va : Value) (a : List Fn) (Fa : List Nat) (k : Int) (ha : owS 3 (hFn 94 da) 80 w.heap va a Fa) (hna : Fa.Nodup) (_hk : -9223372036854775808 ≤ k ∧ k ≤ 9223372036854775807) (hk : 0 ≤ k ∧ k + 4 * ((szP a :Nat):Int) ≤ 4000000000) :
  Calls Tryz.prog 17 #[(.agg #[va]),.int .i64 k] w (fun e w' => ∃ k' : Int,e = .returned (.int .i64 k') ∧ Chg Fa w w' ∧ owS 3 (hFn 94 da) 80 w'.heap va a Fa ∧ (k ≤ k' ∧ k' ≤ k + 4 * ((szP a :Nat):Int))) := by
 refine calls_mk [(.agg #[va]),.int .i64 k] 10 Tryz.func17 rfl rfl sM ?_
 have hE0 : Chg Fa w w := Chg.refl Fa w
 refine wp_seq (wp_plain _ [3,0] rfl (r_boxA (cs := #[va]) rfl zN fun w1 hX1 hz1 hB1 => ?_))
 have hzs1:=hX1.size
 have hE1 : Chg Fa w w1 := hE0.ext hX1
 have hH2 := own_ext (good_owS (good_hFn 94 da)) ha hX1
 replace hB1 : BX w1.heap w.heap.size [va] := hB1
 refine lw_tvn 1 rfl (wp_seq (wp_plain _ [0,2,0,4,0] rfl (q_fldP (p := (.pointer (some ⟨w.heap.size,0,none⟩))) (b := w.heap.size) (o := 0) 0 fd32_0 rfl rfl zN (q_load (p := (padd (.pointer (some ⟨w.heap.size,0,none⟩)) 0)) (.inr rfl) va one30 rfl (hB1.ldp (i := 0) sM) zN (lw_tv 1 rfl (lw_callE 49 [] [] [va,(.int .i64 k)] rfl rfl cf49 zN (c_laws_markFuncS _ da va a Fa (k) hH2 hna _hk oM) ?_))))))
 rintro e3 w3 ⟨k3,rfl,hC3,hO3,hk3⟩
 refine ⟨_,rfl,?_⟩
 have hzs3:=hC3.size
 have hE3 : Chg Fa w w3 := hE1.trans hC3
 exact lw_tvn 1 rfl (wp_seq (wp_plain _ [0,0] rfl (lw_tvn 2 rfl (wp_ret (post_ret [4] rfl (.int .i64 k3) rfl ⟨k3,rfl,hE3,hO3,oM⟩)))))
end Go.Proofs.YtnofbmdpabcjaaaGreat
namespace Go.Proofs.YtnofbmdpabcjaaaGreat
open Go Go.RowKit
set_option linter.unusedVariables false
set_option linter.unusedSimpArgs false
def Rs.map {α β : Type} (f : α → β) (r : Rs α) : Rs β := match r with
  | .ok x s => .ok (f x) s
  | .err c => .err c
abbrev cut (m : Nat) (x : Sr) : Sr := x.take m
theorem cut_get {m k : Nat} (x : Sr) (h : k < m) : (cut m x).getD k 0 = x.getD k 0 := by
  simp only [cut, List.getD_eq_getElem?_getD, List.getElem?_take, if_pos h]
theorem cut_tab {m : Nat} (l : Nat) (f g : Nat → Int) (h : ∀ k, k < m → f k = g k) : tab (min m l) f = cut m (tab l g) := by
  unfold tab cut
  rw [← List.map_take, List.take_range]
  exact List.map_congr_left fun k hk => h k (by have := List.mem_range.1 hk; omega)
section
variable {m : Nat} (a b : Sr)
theorem cut_len : (cut m a).length = min m a.length := List.length_take ..
theorem addS_cut : addS (cut m a) (cut m b) = cut m (addS a b) := by
  unfold addS; rw [cut_len]
  exact cut_tab _ _ _ fun k hk => by rw [cut_get a hk, cut_get b hk]
theorem redS_cut : redS (cut m a) (cut m b) = cut m (redS a b) := by
  unfold redS; rw [cut_len]
  exact cut_tab _ _ _ fun k hk => by rw [cut_get a hk, cut_get b hk]
theorem sclS_cut (y : Int) : sclS (cut m a) y = cut m (sclS a y) := by
  unfold sclS; rw [cut_len]
  exact cut_tab _ _ _ fun k hk => by rw [cut_get a hk]
theorem prk_cut {k : Nat} (hk : k < m) : ∀ i, i ≤ k + 1 → prk (cut m a) (cut m b) k i = prk a b k i
  | 0, _ => rfl
  | i + 1, h => by
    show md (prk (cut m a) (cut m b) k i + (cut m a).getD i 0 * (cut m b).getD (k - i) 0) = md (prk a b k i + a.getD i 0 * b.getD (k - i) 0)
    rw [prk_cut hk i (by omega), cut_get a (by omega), cut_get b (by omega)]
theorem proS_cut : proS (cut m a) (cut m b) = cut m (proS a b) := by
  unfold proS; rw [cut_len]
  exact cut_tab _ _ _ fun k hk => prk_cut a b hk (k + 1) (Nat.le_refl _)
theorem qrk_cut (o : Sr) {k : Nat} (hk : k < m) : ∀ i, i ≤ k → qrk (cut m a) (cut m b) o k i = qrk a b o k i
  | 0, _ => cut_get a hk
  | i + 1, h => by
    show md (qrk (cut m a) (cut m b) o k i - o.getD i 0 * (cut m b).getD (k - i) 0) = md (qrk a b o k i - o.getD i 0 * b.getD (k - i) 0)
    rw [qrk_cut o hk i (by omega), cut_get b (by omega)]
theorem quL_cut (hm : 1 ≤ m) : ∀ k, k ≤ m → quL (cut m a) (cut m b) k = quL a b k
  | 0, _ => rfl
  | k + 1, h => by
    rw [quL, quL, quL_cut hm k (by omega), qrk_cut a b _ (by omega) k (Nat.le_refl _), cut_get b (by omega)]
theorem quL_take : ∀ (k j : Nat), j ≤ k → (quL a b k).take j = quL a b j
  | 0, j, h => by have : j = 0 := by omega
                  subst this; rfl
  | k + 1, j, h => by
    by_cases e : j = k + 1
    · subst e; rw [List.take_of_length_le (by rw [quL_len]; exact Nat.le_refl _)]
    · rw [quL, List.take_append_of_le_length (by rw [quL_len]; omega)]; exact quL_take k j (by omega)
theorem quoS_cut (hm : 1 ≤ m) : quoS (cut m a) (cut m b) = cut m (quoS a b) := by
  unfold quoS; rw [cut_len, quL_cut a b hm _ (by omega)]
  show _ = (quL a b a.length).take m
  by_cases h : m ≤ a.length
  · rw [quL_take a b _ _ h, Nat.min_eq_left h]
  · rw [List.take_of_length_le (by rw [quL_len]; omega), Nat.min_eq_right (by omega)]
end
theorem cst_cut {m n : Nat} (x : Int) (h : m ≤ n) : cst m x = cut m (cst n x) := by
  unfold cst cut
  rw [List.take_set, List.take_replicate, Nat.min_eq_left h]
theorem map_get {m : Nat} (env : List Sr) (k : Nat) : (env.map (cut m)).getD k [] = cut m (env.getD k []) := by
  simp only [List.getD_eq_getElem?_getD, List.getElem?_map]
  cases env[k]? <;> simp [cut]
/-- Calls of series that are cut. -/
structure CaC (m : Nat) (C C' : Ca) : Prop where
  one : ∀ f j xs t, C'.one f j (xs.map (cut m)) t = (C.one f j xs t).map (cut m)
  all : ∀ f xs t, C'.all f (xs.map (cut m)) t = (C.all f xs t).map (List.map (cut m))
theorem opV_cut {m : Nat} (hm : 1 ≤ m) (k : Int) (xs : List Sr) (t : Nat) : opV k (xs.map (cut m)) t = (opV k xs t).map (cut m) := by
  unfold opV
  rw [map_get, map_get]
  split
  · rw [addS_cut]; rfl
  · split
    · rw [redS_cut]; rfl
    · split
      · rw [proS_cut]; rfl
      · split
        · rw [sclS_cut]; rfl
        · rw [cut_get _ (by omega)]
          split
          · rfl
          · rw [quoS_cut _ _ hm]; rfl
section
variable {m n : Nat} {C C' : Ca}
theorem lop_cut (hC : CaC m C C') (f : Nat) : ∀ (k : Nat) (xs : List Sr) (t : Nat), lop (C'.all f) k (xs.map (cut m)) t = (lop (C.all f) k xs t).map (List.map (cut m))
  | 0, xs, t => rfl
  | k + 1, xs, t => by
    rw [lop, lop, lop_cut hC f k xs t]
    cases lop (C.all f) k xs t with
    | err c => rfl
    | ok ys u => exact hC.all f ys u
theorem evs_cut : ∀ (l : List Ex), (∀ e ∈ l, ∀ env s, evE m C' e (env.map (cut m)) s = (evE n C e env s).map (cut m)) → ∀ env s, evs m C' l (env.map (cut m)) s = (evs n C l env s).map (List.map (cut m))
  | [], _, env, s => by rw [evs, evs]; rfl
  | e :: l, h, env, s => by
    rw [evs, evs, h e (List.mem_cons_self ..)]
    cases evE n C e env s with
    | err c => rfl
    | ok x t =>
      show (evs m C' l (env.map (cut m)) t).bind _ = _
      rw [evs_cut l (fun e he => h e (List.mem_cons_of_mem _ he)) env t]
      simp only [Rs.bind_ok]
      cases evs n C l env t <;> rfl
theorem evK_cut : ∀ (l : List Ex) (j : Nat), (∀ e ∈ l, ∀ env s, evE m C' e (env.map (cut m)) s = (evE n C e env s).map (cut m)) → ∀ env s, evK m C' l j (env.map (cut m)) s = (evK n C l j env s).map (cut m)
  | [], j, _, env, s => by rw [evK, evK]; rfl
  | e :: l, 0, h, env, s => by rw [evK, evK]; exact h e (List.mem_cons_self ..) env s
  | e :: l, j + 1, h, env, s => by rw [evK, evK]; exact evK_cut l j (fun e he => h e (List.mem_cons_of_mem _ he)) env s
theorem sizes_mem : ∀ {l : List Ex} {e : Ex}, e ∈ l → e.size ≤ Ex.sizes l
  | [], _, h => by cases h
  | a :: l, e, h => by
    rw [Ex.sizes]
    rcases List.mem_cons.1 h with rfl | h
    · omega
    · have := sizes_mem h; omega
theorem evE_cut (hm : 1 ≤ m) (hmn : m ≤ n) (hC : CaC m C C') : ∀ (z : Nat) (e : Ex), e.size ≤ z → ∀ env s, evE m C' e (env.map (cut m)) s = (evE n C e env s).map (cut m)
  | 0, e, h, _, _ => by have := size_kids e; omega
  | z + 1, e, h, env, s => by
    have hk : ∀ x ∈ e.kids, ∀ env s, evE m C' x (env.map (cut m)) s = (evE n C x env s).map (cut m) := fun x hx => evE_cut hm hmn hC z x (by have := size_kids e; have := sizes_mem hx; omega)
    rw [evE_eq, evE_eq]
    split
    · rfl
    · split
      · rw [cst_cut _ hmn]; rfl
      · split
        · rw [map_get]; rfl
        · split
          · rw [evK_cut _ 0 hk]
            cases evK n C e.kids 0 env (s + 1) with
            | err c => rfl
            | ok x t =>
              show (if (cut m x).getD 0 0 = 0 then _ else _) = ((if x.getD 0 0 = 0 then _ else _ : Rs Sr)).map (cut m)
              rw [cut_get _ (by omega)]
              split
              · exact evK_cut _ 1 hk env t
              · exact evK_cut _ 2 hk env t
          · split
            · rw [evK_cut _ 0 hk]
              cases evK n C e.kids 0 env (s + 1) with
              | err c => rfl
              | ok x t =>
                show evK m C' e.kids 1 (env.map (cut m) ++ [cut m x]) t = (evK n C e.kids 1 (env ++ [x]) t).map (cut m)
                rw [← evK_cut _ 1 hk, List.map_append]; rfl
            · rw [evs_cut _ hk]
              cases evs n C e.kids env (s + 1) with
              | err c => rfl
              | ok xs t =>
                show (if e.kind = 10 then _ else _) = ((if e.kind = 10 then _ else _ : Rs Sr)).map (cut m)
                split
                · exact hC.one _ _ _ _
                · split
                  · rw [lop_cut hC]
                    cases lop (C.all e.num.toNat) e.count.toNat xs t with
                    | err c => rfl
                    | ok ys u => show Rs.ok _ _ = Rs.ok _ _; rw [map_get]
                  · exact opV_cut hm _ _ _
theorem evC_cut (p : List Fn) (hm : 1 ≤ m) (hmn : m ≤ n) : ∀ F, CaC m (evC p n F) (evC p m F)
  | 0 => ⟨fun _ _ _ _ => rfl, fun _ _ _ => rfl⟩
  | F + 1 => by
    have ih := evC_cut p hm hmn F
    refine ⟨fun f j xs t => ?_, fun f xs t => ?_⟩
    · show (if f = F then _ else _) = ((if f = F then _ else _ : Rs Sr)).map (cut m)
      split
      · exact evE_cut hm hmn ih _ _ (Nat.le_refl _) _ _
      · exact ih.one f j xs t
    · show (if f = F then _ else _) = ((if f = F then _ else _ : Rs (List Sr))).map (List.map (cut m))
      split
      · exact evs_cut _ (fun e _ => evE_cut hm hmn ih _ e (Nat.le_refl _)) _ _
      · exact ih.all f xs t
end
theorem ev_cut (p : List Fn) {m n : Nat} (hm : 1 ≤ m) (hmn : m ≤ n) (f : Nat) (a : List Sr) : ev p m f (a.map (cut m)) = (ev p n f a).map (List.map (cut m)) :=
  evs_cut _ (fun e _ => evE_cut hm hmn (evC_cut p hm hmn f) _ e (Nat.le_refl _)) _ _
theorem evR_cut (p : List Fn) {m n : Nat} (hm : 1 ≤ m) (hmn : m ≤ n) (f : Nat) (a : List Sr) : evR p m f (a.map (cut m)) = (evR p n f a).map (cut m) := by
  unfold evR; rw [ev_cut p hm hmn]
  cases ev p n f a <;> rfl
theorem evD_cut (p : List Fn) {m n : Nat} (hm : 1 ≤ m) (hmn : m ≤ n) (f : Nat) (a : List Sr) : evD p m f (a.map (cut m)) = evD p n f a := by
  unfold evD; rw [ev_cut p hm hmn]
  cases ev p n f a <;> rfl
end Go.Proofs.YtnofbmdpabcjaaaGreat
namespace Go.Proofs.YtnofbmdpabcjaaaGreat
open Go Go.RowKit
set_option linter.unusedVariables false
set_option linter.unusedSimpArgs false
def OkV (n : Nat) (r : Rs Sr) : Prop := match r with
  | .ok x s => Ser1 n x ∧ s ≤ 3000
  | .err c => 0 < c ∧ c ≤ 9
def OkL (n m : Nat) (r : Rs (List Sr)) : Prop := match r with
  | .ok xs s => xs.length = m ∧ SrE n xs ∧ s ≤ 3000
  | .err c => 0 < c ∧ c ≤ 9
/-- Calls of the functions before F come to series. -/
structure CaP (p : List Fn) (n F : Nat) (C : Ca) : Prop where
  one : ∀ f j xs t, f < F → j < (p.getD f Fn.zero).outs.length → SrE n xs → ((xs.length : Nat) : Int) = (p.getD f Fn.zero).params → t ≤ 3000 → OkV n (C.one f j xs t)
  all : ∀ f xs t, f < F → SrE n xs → ((xs.length : Nat) : Int) = (p.getD f Fn.zero).params → t ≤ 3000 → OkL n (p.getD f Fn.zero).outs.length (C.all f xs t)
theorem SrE.nil (n : Nat) : SrE n [] := fun k hk => by simp at hk
theorem SrE.cons {n : Nat} {x : Sr} {xs : List Sr} (hx : Ser1 n x) (h : SrE n xs) : SrE n (x :: xs) := by
  intro k hk
  cases k with
  | zero => exact hx
  | succ k => exact h k (by simpa using hk)
theorem evs_P {n : Nat} {C : Ca} {env : List Sr} : ∀ (l : List Ex), (∀ e ∈ l, ∀ s, s ≤ 3000 → OkV n (evE n C e env s)) → ∀ s, s ≤ 3000 → OkL n l.length (evs n C l env s)
  | [], _, s, hs => by rw [evs]; exact ⟨rfl, SrE.nil n, hs⟩
  | e :: l, h, s, hs => by
    rw [evs]
    have h1 := h e (List.mem_cons_self ..) s hs
    cases h2 : evE n C e env s with
    | err c => rw [h2] at h1; exact h1
    | ok x t =>
      rw [h2] at h1
      have h3 := evs_P l (fun e he => h e (List.mem_cons_of_mem _ he)) t h1.2
      rw [Rs.bind_ok]
      cases h4 : evs n C l env t with
      | err c => rw [h4] at h3; exact h3
      | ok xs u => rw [h4] at h3; exact ⟨by simp [h3.1], SrE.cons h1.1 h3.2.1, h3.2.2⟩
theorem lop_P {p : List Fn} {n F f : Nat} {C : Ca} (hC : CaP p n F C) (hf : f < F) (ho : (((p.getD f Fn.zero).outs.length : Nat) : Int) = (p.getD f Fn.zero).params) : ∀ (k : Nat) (xs : List Sr) (t : Nat), SrE n xs → xs.length = (p.getD f Fn.zero).outs.length → t ≤ 3000 → OkL n (p.getD f Fn.zero).outs.length (lop (C.all f) k xs t)
  | 0, xs, t, h1, h2, h3 => ⟨h2, h1, h3⟩
  | k + 1, xs, t, h1, h2, h3 => by
    have h := lop_P hC hf ho k xs t h1 h2 h3
    rw [lop]
    cases h4 : lop (C.all f) k xs t with
    | err c => rw [h4] at h; exact h
    | ok ys u => rw [h4] at h; rw [Rs.bind_ok]; exact hC.all f ys u hf h.2.1 (by rw [h.1]; exact ho) h.2.2
theorem opV_P {n : Nat} {k : Int} {xs : List Sr} {t : Nat} (hx : SrE n xs) (h0 : 0 < xs.length) (ht : t ≤ 3000) : OkV n (opV k xs t) := by
  have h1 := (hx 0 h0).1
  unfold opV
  split
  · exact ⟨⟨by rw [addS_len]; exact h1, addS_num _ _⟩, ht⟩
  · split
    · exact ⟨⟨by rw [redS_len]; exact h1, redS_num _ _⟩, ht⟩
    · split
      · exact ⟨⟨by rw [proS_len]; exact h1, proS_num _ _⟩, ht⟩
      · split
        · exact ⟨⟨by rw [sclS_len]; exact h1, sclS_num _ _⟩, ht⟩
        · split
          · exact ⟨by decide, by decide⟩
          · exact ⟨⟨by rw [quoS_len]; exact h1, quoS_num _ _⟩, ht⟩
theorem evE_P {p : List Fn} {n F : Nat} {C : Ca} (hC : CaP p n F C) : ∀ (z : Nat) (e : Ex), e.size ≤ z → ∀ (env : List Sr) (s : Nat), wf p ((F : Nat) : Int) e ((env.length : Nat) : Int) = true → SrE n env → s ≤ 3000 → OkV n (evE n C e env s)
  | 0, e, h, _, _, _, _, _ => by have := size_kids e; omega
  | z + 1, e, h, env, s, hw, he, hs => by
    obtain ⟨w1, w2, w3, w4, w5, w6, w7, w8⟩ := wfN_all (wf_node hw)
    have hz : ∀ j, j < e.kids.length → (e.kids.getD j Ex.zero).size ≤ z := fun j hj => by
      have h2 : e.kids.getD j Ex.zero ∈ e.kids := by rw [gd_at hj]; exact List.getElem_mem hj
      have := size_kids e; have := sizes_mem h2; omega
    have hk : ∀ j, j < e.kids.length → ¬ (e.kind = 9 ∧ j = 1) → ∀ t, t ≤ 3000 → OkV n (evK n C e.kids j env t) := fun j hj hn t ht => by
      rw [evK_at _ _ _ _ _ _ hj]
      exact evE_P hC z _ (hz j hj) env t (wf_at0 hw hj hn) he ht
    rw [evE_eq]
    split
    · exact ⟨by decide, by decide⟩
    · rename_i hs3
      split
      · rename_i h1; exact ⟨cst_ser (isN_iff.2 (w8 h1)), by omega⟩
      · split
        · rename_i h1 h2; exact ⟨he _ (by have := w2 h2; omega), by omega⟩
        · split
          · rename_i h1 h2 h8
            have h3 := w5 h8
            have hc := hk 0 (by omega) (by omega) (s + 1) (by omega)
            cases h4 : evK n C e.kids 0 env (s + 1) with
            | err c => rw [h4] at hc; exact hc
            | ok x t =>
              rw [h4] at hc; rw [Rs.bind_ok]
              split
              · exact hk 1 (by omega) (by omega) t hc.2
              · exact hk 2 (by omega) (by omega) t hc.2
          · split
            · rename_i h1 h2 h8 h9
              have h3 := w3 (by omega)
              have hc := hk 0 (by omega) (by omega) (s + 1) (by omega)
              cases h4 : evK n C e.kids 0 env (s + 1) with
              | err c => rw [h4] at hc; exact hc
              | ok x t =>
                rw [h4] at hc; rw [Rs.bind_ok, evK_at _ _ _ _ _ _ (show 1 < e.kids.length by omega)]
                refine evE_P hC z _ (hz 1 (by omega)) (env ++ [x]) t ?_ (he.snoc hc.1) hc.2
                have := wf_at1 hw (by omega) h9
                rw [List.length_append, List.length_singleton]; exact this
            · rename_i h1 h2 h8 h9
              have hc := evs_P (n := n) (C := C) (env := env) e.kids (fun x hx t ht => by
                obtain ⟨j, hj, rfl⟩ := List.mem_iff_getElem.1 hx
                have := hk j hj (by omega) t ht
                rwa [evK_at _ _ _ _ _ _ hj, gd_at hj] at this) (s + 1) (by omega)
              cases h4 : evs n C e.kids env (s + 1) with
              | err c => rw [h4] at hc; exact hc
              | ok xs t =>
                rw [h4] at hc; rw [Rs.bind_ok]
                obtain ⟨c1, c2, c3⟩ := hc
                split
                · rename_i h10
                  have h6 := w6 (.inl h10)
                  exact hC.one _ _ xs t (by omega) (by omega) c2 (by rw [c1]; exact h6.2.2.1) c3
                · split
                  · rename_i h11
                    have h6 := w6 (.inr h11); have h7 := w7 h11
                    have hl := lop_P hC (f := e.num.toNat) (by omega) h7.1 e.count.toNat xs t c2 (by omega) c3
                    cases h5 : lop (C.all e.num.toNat) e.count.toNat xs t with
                    | err c => rw [h5] at hl; exact hl
                    | ok ys u => rw [h5] at hl; exact ⟨hl.2.1 _ (by rw [hl.1]; omega), hl.2.2⟩
                  · refine opV_P c2 ?_ c3
                    rw [c1]
                    by_cases h7 : e.kind = 7
                    · rw [w4 h7]; decide
                    · rw [w3 (by omega)]; decide
theorem evC_P {p : List Fn} (hv : VPr p) (n : Nat) : ∀ F, F ≤ p.length → CaP p n F (evC p n F)
  | 0, _ => ⟨fun f j xs t h => by omega, fun f xs t h => by omega⟩
  | F + 1, hF => by
    have ih := evC_P hv n F (by omega)
    have hO : ∀ j xs t, j < (p.getD F Fn.zero).outs.length → SrE n xs → ((xs.length : Nat) : Int) = (p.getD F Fn.zero).params → t ≤ 3000 → OkV n (evE n (evC p n F) ((p.getD F Fn.zero).outs.getD j Ex.zero) xs t) := fun j xs t h2 h3 h4 h5 =>
      evE_P ih _ _ (Nat.le_refl _) xs t (by rw [h4]; exact hv.wf F (by omega) j h2) h3 h5
    refine ⟨fun f j xs t h1 h2 h3 h4 h5 => ?_, fun f xs t h1 h3 h4 h5 => ?_⟩
    · show OkV n (if f = F then _ else _)
      split
      · rename_i e; subst e; exact hO j xs t h2 h3 h4 h5
      · exact ih.one f j xs t (by omega) h2 h3 h4 h5
    · show OkL n _ (if f = F then _ else _)
      split
      · rename_i e; subst e
        refine evs_P _ (fun e he s hs => ?_) t h5
        obtain ⟨j, hj, rfl⟩ := List.mem_iff_getElem.1 he
        have := hO j xs s hj h3 h4 hs
        rwa [gd_at hj] at this
      · exact ih.all f xs t (by omega) h3 h4 h5
/-- What an evaluation of a valid program returns. -/
theorem ev_P {p : List Fn} (hv : VPr p) {n f : Nat} {a : List Sr} (hf : f < p.length) (ha : SrE n a) (hl : ((a.length : Nat) : Int) = (p.getD f Fn.zero).params) : EvP p n f a := by
  have h := (evC_P hv n (f + 1) (by omega)).all f a 0 (by omega) ha hl (by omega)
  rw [evC_all (by omega)] at h
  have e : ev p n f a = evs n (evC p n f) (p.getD f Fn.zero).outs a 0 := rfl
  rw [← e] at h
  cases h2 : ev p n f a with
  | err c =>
    rw [h2] at h; have h : 0 < c ∧ c ≤ 9 := h
    exact ⟨by rw [evD_e h2]; omega, by rw [evT_e h2]; omega, fun hh => by rw [evD_e h2] at hh; omega, by rw [evR_e h2]; exact SrE.nil n, fun _ => evR_e h2⟩
  | ok xs s =>
    rw [h2] at h; have h : xs.length = _ ∧ SrE n xs ∧ s ≤ 3000 := h
    exact ⟨by rw [evD_o h2]; omega, by rw [evT_o h2]; exact h.2.2, fun _ => by rw [evR_o h2]; exact h.1, by rw [evR_o h2]; exact h.2.1, fun hh => absurd (evD_o h2) hh⟩
def ag (k : Nat) (y z : List Sr) : Prop := y.length = z.length ∧ ∀ i j, j < k → (y.getD i []).getD j 0 = (z.getD i []).getD j 0
theorem ag.symm {k : Nat} {y z : List Sr} (h : ag k y z) : ag k z y := ⟨h.1.symm, fun i j hj => (h.2 i j hj).symm⟩
theorem ag.trans {k : Nat} {x y z : List Sr} (h : ag k x y) (h2 : ag k y z) : ag k x z := ⟨h.1.trans h2.1, fun i j hj => (h.2 i j hj).trans (h2.2 i j hj)⟩
theorem ag.low {k m : Nat} {y z : List Sr} (h : ag k y z) (hm : m ≤ k) : ag m y z := ⟨h.1, fun i j hj => h.2 i j (by omega)⟩
theorem ext0 {a b : Sr} (hl : a.length = b.length) (h : ∀ j, j < a.length → a.getD j 0 = b.getD j 0) : a = b :=
  List.ext_getElem hl fun j h1 h2 => by have := h j h1; rwa [gd_at h1, gd_at h2] at this
theorem extR {y z : List Sr} (hl : y.length = z.length) (h : ∀ j, j < y.length → y.getD j [] = z.getD j []) : y = z :=
  List.ext_getElem hl fun j h1 h2 => by have := h j h1; rwa [gd_at h1, gd_at h2] at this
theorem ag_cut {n k : Nat} {y z : List Sr} (hy : SrE n y) (hz : SrE n z) (h : ag k y z) : y.map (cut k) = z.map (cut k) := by
  refine extR (by simp [h.1]) fun i hi => ?_
  rw [List.length_map] at hi
  rw [map_get, map_get]
  refine ext0 (by rw [cut_len, cut_len, (hy i hi).1, (hz i (by rw [← h.1]; exact hi)).1]) fun j hj => ?_
  rw [cut_len] at hj
  rw [cut_get _ (by omega), cut_get _ (by omega)]
  exact h.2 i j (by omega)
theorem cut_ag {k : Nat} {y z : List Sr} (h : y.map (cut k) = z.map (cut k)) : ag k y z := by
  refine ⟨by simpa using congrArg List.length h, fun i j hj => ?_⟩
  have h2 := congrArg (fun l : List Sr => (l.getD i []).getD j 0) h
  simp only [map_get] at h2
  rwa [cut_get _ hj, cut_get _ hj] at h2
theorem ag_full {n : Nat} {y z : List Sr} (hy : SrE n y) (hz : SrE n z) (h : ag n y z) : y = z := by
  refine extR h.1 fun i hi => ext0 ?_ fun j hj => h.2 i j ?_
  · rw [(hy i hi).1, (hz i (by rw [← h.1]; exact hi)).1]
  · rwa [(hy i hi).1] at hj
theorem SrE.cut {n k : Nat} {y : List Sr} (hy : SrE n y) (hk : k ≤ n) : SrE k (y.map (Go.Proofs.YtnofbmdpabcjaaaGreat.cut k)) := by
  intro i hi
  rw [List.length_map] at hi
  rw [map_get]
  refine ⟨by rw [cut_len, (hy i hi).1]; omega, ?_⟩
  have h := (hy i hi).2
  unfold allN at h ⊢
  rw [List.all_eq_true] at h ⊢
  exact fun x hx => h x (List.mem_of_mem_take hx)
theorem ev_ag {p : List Fn} {n k f : Nat} {y z : List Sr} (hk : 1 ≤ k) (hkn : k ≤ n) (hy : SrE n y) (hz : SrE n z) (h : ag k y z) : ag k (evR p n f y) (evR p n f z) :=
  cut_ag (by rw [← evR_cut p hk hkn, ← evR_cut p hk hkn, ag_cut hy hz h])
theorem evD_ag {p : List Fn} {n f : Nat} {y z : List Sr} (hn : 1 ≤ n) (hy : SrE n y) (hz : SrE n z) (h : ag 1 y z) : evD p n f y = evD p n f z := by
  rw [← evD_cut p (Nat.le_refl 1) hn, ← evD_cut p (Nat.le_refl 1) hn f z, ag_cut hy hz h]
theorem picS_at {v y : List Sr} {i : Nat} (hi : i < v.length) (j : Nat) : ((picS v y).getD i []).getD j 0 =
    if j < (v.getD i []).length then (if j = 0 then (y.getD i []).getD 0 0 else md ((v.getD i []).getD (j - 1) 0 * inv ((j : Nat) : Int))) else 0 := by
  have e : (picS v y).getD i [] = (itg (v.getD i [])).set 0 ((y.getD i []).getD 0 0) := by unfold picS; rw [tab_get _ hi]
  rw [e]
  have hl : ((itg (v.getD i [])).set 0 ((y.getD i []).getD 0 0)).length = (v.getD i []).length := by rw [List.length_set, itg_len]
  split
  · rename_i h
    split
    · rename_i h0; subst h0
      rw [gd_at (by rw [hl]; exact h), List.getElem_set_self]
    · rename_i h0
      rw [gd_at (by rw [hl]; exact h), List.getElem_set_ne (by omega), ← gd_at (d := 0) (by rw [itg_len]; exact h)]
      unfold itg; rw [tab_get _ h, if_neg h0]
  · rename_i h
    rw [List.getD_eq_getElem?_getD, List.getElem?_eq_none (by rw [hl]; omega)]; rfl
theorem pic_ag {n k : Nat} {v v' y z : List Sr} (hv : SrE n v) (hv' : SrE n v') (h : ag k v v') (h1 : ag 1 y z) : ag (k + 1) (picS v y) (picS v' z) := by
  refine ⟨by rw [picS_len, picS_len]; exact h.1, fun i j hj => ?_⟩
  by_cases hi : i < v.length
  · have hi' : i < v'.length := by rw [← h.1]; exact hi
    rw [picS_at hi, picS_at hi', (hv i hi).1, (hv' i hi').1]
    split
    · split
      · exact h1.2 i 0 (by omega)
      · rw [h.2 i (j - 1) (by omega)]
    · rfl
  · have hi' : ¬ i < v'.length := by rw [← h.1]; exact hi
    have e1 : (picS v y).getD i [] = [] := by rw [List.getD_eq_getElem?_getD, List.getElem?_eq_none (by rw [picS_len]; omega)]; rfl
    have e2 : (picS v' z).getD i [] = [] := by rw [List.getD_eq_getElem?_getD, List.getElem?_eq_none (by rw [picS_len]; omega)]; rfl
    rw [e1, e2]
theorem ext_cut (a : List Int) (n : Nat) : (extS a (n + 1)).map (cut 1) = sing a := by
  unfold extS sing
  rw [List.map_map]
  refine List.map_congr_left fun x _ => ?_
  show cut 1 (cst (n + 1) x) = [x]
  rw [← cst_cut x (by omega)]; rfl
/-- The flow, coefficient by coefficient. -/
def spS (out y : List Sr) (k : Nat) : List Sr := tab y.length fun i => (y.getD i []).set (k + 1) (md ((out.getD i []).getD k 0 * inv (((k + 1 : Nat)) : Int)))
def spO (p : List Fn) (f : Nat) (y : List Sr) (k : Nat) : List Sr := evR p (k + 1) f (y.map (cut (k + 1)))
def spI (p : List Fn) (f : Nat) (y : List Sr) : Nat → List Sr
  | 0 => y
  | k + 1 => spS (spO p f (spI p f y k) k) (spI p f y k) k
/-- A field and a point of it. -/
structure Fld (p : List Fn) (f : Nat) (a : List Int) : Prop where
  hv : VPr p
  hf : f < p.length
  hl : ((a.length : Nat) : Int) = (p.getD f Fn.zero).params
  ho : (((p.getD f Fn.zero).outs.length : Nat) : Int) = (p.getD f Fn.zero).params
  h0 : 0 < a.length
  hn : allN a = true
section
variable {p : List Fn} {f o : Nat} {a : List Int}
theorem ext_P (h : Fld p f a) (o : Nat) : (extS a (o + 1)).length = a.length ∧ SrE (o + 1) (extS a (o + 1)) := ⟨extS_len _ _, extS_ser h.hn⟩
theorem pic_P (h : Fld p f a) {y : List Sr} (hy : SrE (o + 1) y) (hl : y.length = a.length) (h1 : ag 1 y (extS a (o + 1))) :
    oOf y = o ∧ evD p (o + 1) f y = nxC p f a ∧ EvP p (o + 1) f y := by
  refine ⟨oOf_ser hy (by rw [hl]; exact h.h0), ?_, ev_P h.hv h.hf hy (by rw [hl]; exact h.hl)⟩
  rw [evD_ag (by omega) hy (ext_P h o).2 h1, ← evD_cut p (Nat.le_refl 1) (by omega), ext_cut]; rfl
theorem pic_Q (h : Fld p f a) (hc : nxC p f a = 0) {y : List Sr} (hy : SrE (o + 1) y) (hl : y.length = a.length) (h1 : ag 1 y (extS a (o + 1))) :
    (picR p f y).length = a.length ∧ SrE (o + 1) (picR p f y) ∧ ag 1 (picR p f y) (extS a (o + 1)) := by
  obtain ⟨q1, q2, q3⟩ := pic_P h hy hl h1
  have hvl : (evR p (o + 1) f y).length = y.length := by have := q3.len (by rw [q2, hc]); have := h.hl; have := h.ho; omega
  unfold picR
  rw [q1]
  refine ⟨by rw [picS_len, hvl, hl], picS_ser (by omega) q3.ser hy (by omega), by rw [picS_len, hvl, h1.1], fun i j hj => ?_⟩
  by_cases hi : i < (evR p (o + 1) f y).length
  · rw [picS_at hi, (q3.ser i hi).1, if_pos (by omega), if_pos (by omega), show j = 0 from by omega]
    exact h1.2 i 0 (by omega)
  · have e1 : (picS (evR p (o + 1) f y) y).getD i [] = [] := by rw [List.getD_eq_getElem?_getD, List.getElem?_eq_none (by rw [picS_len]; omega)]; rfl
    have e2 : (extS a (o + 1)).getD i [] = [] := by rw [List.getD_eq_getElem?_getD, List.getElem?_eq_none (by rw [extS_len]; omega)]; rfl
    rw [e1, e2]
theorem fl_all (h : Fld p f a) (hc : nxC p f a = 0) (o : Nat) : ∀ k, (flI p f (extS a (o + 1)) k).length = a.length ∧ SrE (o + 1) (flI p f (extS a (o + 1)) k) ∧ ag 1 (flI p f (extS a (o + 1)) k) (extS a (o + 1)) ∧ flC p f (extS a (o + 1)) k = 0
  | 0 => ⟨(ext_P h o).1, (ext_P h o).2, ⟨rfl, fun _ _ _ => rfl⟩, rfl⟩
  | k + 1 => by
    obtain ⟨q1, q2, q3, q4⟩ := fl_all h hc o k
    obtain ⟨r1, r2, r3⟩ := pic_Q h hc q2 q1 q3
    refine ⟨r1, r2, r3, ?_⟩
    rw [flC_succ q4]
    obtain ⟨s1, s2, _⟩ := pic_P h q2 q1 q3
    unfold picC; rw [s1, s2, hc]
theorem fl_code (h : Fld p f a) (o : Nat) : flC p f (extS a (o + 1)) (o + 1) = nxC p f a := by
  by_cases hc : nxC p f a = 0
  · rw [(fl_all h hc o _).2.2.2, hc]
  · have e : flC p f (extS a (o + 1)) 1 = nxC p f a := by
      obtain ⟨s1, s2, _⟩ := pic_P h (ext_P h o).2 (ext_P h o).1 ⟨rfl, fun _ _ _ => rfl⟩
      rw [flC_succ rfl]; show picC p f (extS a (o + 1)) = _; unfold picC; rw [s1, s2]
    rw [flC_stop (k := 1) (by rw [e]; exact hc) (by omega), e]
theorem pic_agr (h : Fld p f a) {k : Nat} (hk : 1 ≤ k) (hko : k ≤ o + 1) {y z : List Sr} (hy : SrE (o + 1) y) (hly : y.length = a.length) (h1 : ag 1 y (extS a (o + 1))) (hz : SrE (o + 1) z) (hlz : z.length = a.length) (h2 : ag k y z) : ag (k + 1) (picR p f y) (picR p f z) := by
  obtain ⟨q1, q2, q3⟩ := pic_P h hy hly h1
  obtain ⟨r1, r2, r3⟩ := pic_P h hz hlz ((h2.symm.low hk).trans h1)
  unfold picR
  rw [q1, r1]
  exact pic_ag q3.ser r3.ser (ev_ag hk hko hy hz h2) (h2.low hk)
theorem fl_ag (h : Fld p f a) (hc : nxC p f a = 0) : ∀ k, k ≤ o → ag (k + 1) (flI p f (extS a (o + 1)) k) (flI p f (extS a (o + 1)) (k + 1))
  | 0, _ => (fl_all h hc o 1).2.2.1.symm
  | k + 1, hk => by
    obtain ⟨q1, q2, q3, _⟩ := fl_all h hc o k
    obtain ⟨r1, r2, r3, _⟩ := fl_all h hc o (k + 1)
    exact pic_agr h (by omega) (by omega) q2 q1 q3 r2 r1 (fl_ag h hc k (by omega))
theorem fl_last (h : Fld p f a) (hc : nxC p f a = 0) : flI p f (extS a (o + 1)) o = flI p f (extS a (o + 1)) (o + 1) :=
  ag_full (fl_all h hc o o).2.1 (fl_all h hc o (o + 1)).2.1 (fl_ag h hc o (Nat.le_refl _))
/-- A step of Picard's method does not change the flow. -/
theorem fl_fix (h : Fld p f a) (hc : nxC p f a = 0) : picR p f (flI p f (extS a (o + 1)) (o + 1)) = flI p f (extS a (o + 1)) (o + 1) := by
  have e : flI p f (extS a (o + 1)) (o + 1) = picR p f (flI p f (extS a (o + 1)) o) := rfl
  rw [← fl_last h hc, ← e, fl_last h hc]
theorem spS_len (out y : List Sr) (k : Nat) : (spS out y k).length = y.length := by simp [spS]
theorem set_ser {n k : Nat} {s : Sr} {x : Int} (h : Ser1 n s) (hx : isN x = true) : Ser1 n (s.set k x) := by
  refine ⟨by rw [List.length_set]; exact h.1, ?_⟩
  unfold allN
  rw [List.all_eq_true]
  intro y hy
  rcases List.mem_or_eq_of_mem_set hy with hy | rfl
  · have := h.2; unfold allN at this; exact List.all_eq_true.1 this y hy
  · exact hx
theorem set_at (s : Sr) (k : Nat) (x : Int) (j : Nat) : (s.set k x).getD j 0 = if j = k ∧ k < s.length then x else s.getD j 0 := by
  simp only [List.getD_eq_getElem?_getD, List.getElem?_set]
  by_cases e : k = j
  · subst e
    by_cases h : k < s.length
    · simp [h]
    · simp [h, List.getElem?_eq_none (Nat.le_of_not_lt h)]
  · rw [if_neg e, if_neg (by omega)]
/-- What is known of the coefficients found so far. -/
structure SpP (p : List Fn) (f o : Nat) (a : List Int) (k : Nat) : Prop where
  len : (spI p f (extS a (o + 1)) k).length = a.length
  ser : SrE (o + 1) (spI p f (extS a (o + 1)) k)
  agr : ag (k + 1) (spI p f (extS a (o + 1)) k) (flI p f (extS a (o + 1)) (o + 1))
theorem SpP.out (h : Fld p f a) (hc : nxC p f a = 0) {k : Nat} (hk : k ≤ o) (q : SpP p f o a k) :
    SrE (k + 1) ((spI p f (extS a (o + 1)) k).map (cut (k + 1))) ∧ evD p (k + 1) f ((spI p f (extS a (o + 1)) k).map (cut (k + 1))) = 0 ∧ EvP p (k + 1) f ((spI p f (extS a (o + 1)) k).map (cut (k + 1))) ∧
    (spO p f (spI p f (extS a (o + 1)) k) k).length = a.length ∧ ag (k + 1) (spO p f (spI p f (extS a (o + 1)) k) k) (evR p (o + 1) f (flI p f (extS a (o + 1)) (o + 1))) := by
  obtain ⟨r1, r2, r3, _⟩ := fl_all h hc o (o + 1)
  have h1 := q.ser.cut (k := k + 1) (by omega)
  have h2 : (spI p f (extS a (o + 1)) k).map (cut (k + 1)) = (flI p f (extS a (o + 1)) (o + 1)).map (cut (k + 1)) := ag_cut q.ser r2 q.agr
  have h3 : evD p (k + 1) f ((spI p f (extS a (o + 1)) k).map (cut (k + 1))) = 0 := by
    rw [h2, evD_cut p (m := k + 1) (n := o + 1) (by omega) (by omega), (pic_P h r2 r1 r3).2.1, hc]
  have h4 : EvP p (k + 1) f ((spI p f (extS a (o + 1)) k).map (cut (k + 1))) := ev_P h.hv h.hf h1 (by rw [List.length_map, q.len]; exact h.hl)
  refine ⟨h1, h3, h4, by unfold spO; have := h4.len h3; have := h.hl; have := h.ho; omega, ?_⟩
  unfold spO
  rw [h2, evR_cut p (m := k + 1) (n := o + 1) (by omega) (by omega)]
  refine cut_ag ?_
  rw [List.map_map]
  exact List.map_congr_left fun x _ => by show cut (k + 1) (cut (k + 1) x) = cut (k + 1) x; unfold cut; rw [List.take_take, Nat.min_self]
theorem sp_all (h : Fld p f a) (hc : nxC p f a = 0) : ∀ k, k ≤ o → SpP p f o a k
  | 0, _ => ⟨(ext_P h o).1, (ext_P h o).2, (fl_all h hc o (o + 1)).2.2.1.symm⟩
  | k + 1, hk => by
    have ih := sp_all h hc k (by omega)
    obtain ⟨s1, s2, s3, s4, s5⟩ := ih.out h hc (by omega)
    obtain ⟨r1, r2, r3, _⟩ := fl_all h hc o (o + 1)
    have hat : ∀ i, i < a.length → (spI p f (extS a (o + 1)) (k + 1)).getD i [] = ((spI p f (extS a (o + 1)) k).getD i []).set (k + 1) (md (((spO p f (spI p f (extS a (o + 1)) k) k).getD i []).getD k 0 * inv (((k + 1 : Nat)) : Int))) := fun i hi => by
      show (spS _ _ k).getD i [] = _
      unfold spS; rw [tab_get _ (by rw [ih.len]; exact hi)]
    refine ⟨by show (spS _ _ k).length = _; rw [spS_len, ih.len], fun i hi => ?_, ?_⟩
    · have hi' : i < a.length := by
        have e : (spI p f (extS a (o + 1)) (k + 1)).length = (spI p f (extS a (o + 1)) k).length := spS_len _ _ _
        rw [e, ih.len] at hi; exact hi
      rw [hat i hi']
      exact set_ser (ih.ser i (by rw [ih.len]; exact hi')) (isN_iff.2 (md_num _))
    · refine ⟨by show (spS _ _ k).length = _; rw [spS_len, ih.len, r1], fun i j hj => ?_⟩
      by_cases hi : i < a.length
      · rw [hat i hi, set_at, (ih.ser i (by rw [ih.len]; exact hi)).1]
        split
        · rename_i hh
          obtain ⟨rfl, _⟩ := hh
          obtain ⟨t1, t2, t3⟩ := pic_P h r2 r1 r3
          have hvl : (evR p (o + 1) f (flI p f (extS a (o + 1)) (o + 1))).length = a.length := by have := t3.len (by rw [t2, hc]); have := h.hl; have := h.ho; omega
          have e := fl_fix (o := o) h hc
          have e2 : (picR p f (flI p f (extS a (o + 1)) (o + 1)) : List Sr) = picS (evR p (o + 1) f (flI p f (extS a (o + 1)) (o + 1))) (flI p f (extS a (o + 1)) (o + 1)) := by
            unfold picR; rw [t1]
          rw [s5.2 i k (by omega)]
          conv => rhs; rw [← e, e2]
          rw [picS_at (by rw [hvl]; exact hi), (t3.ser i (by rw [hvl]; exact hi)).1, if_pos (by omega), if_neg (by omega)]; rfl
        · exact ih.agr.2 i j (by omega)
      · have e1 : (spI p f (extS a (o + 1)) (k + 1)).getD i [] = [] := by
          rw [List.getD_eq_getElem?_getD, List.getElem?_eq_none (by show (spS _ _ k).length ≤ i; rw [spS_len, ih.len]; omega)]; rfl
        have e2 : (flI p f (extS a (o + 1)) (o + 1)).getD i [] = [] := by rw [List.getD_eq_getElem?_getD, List.getElem?_eq_none (by rw [r1]; omega)]; rfl
        rw [e1, e2]
/-- Coefficient by coefficient the flow is found. -/
theorem sp_flow (h : Fld p f a) (hc : nxC p f a = 0) : spI p f (extS a (o + 1)) o = flI p f (extS a (o + 1)) (o + 1) :=
  ag_full (sp_all h hc o (Nat.le_refl _)).ser (fl_all h hc o (o + 1)).2.1 (sp_all h hc o (Nat.le_refl _)).agr
end
end Go.Proofs.YtnofbmdpabcjaaaGreat
namespace Go.Proofs.YtnofbmdpabcjaaaGreat
open Go Go.RowKit
set_option linter.unusedVariables false
theorem Fr.rowCap {α : Type} {E : Stand α} {e e' : TypeId} (hE : Good (owL E e)) {B U : Nat} {w : World} {v : Value} {xs : List (List α)} (h : Fr (owL (owL E e) e') B U w.heap v xs) {r : Nat} (hr : r < xs.length) {u : Value} (hu : ldH w.heap (eptr v r 1) = some u) : CapS u := by
  obtain ⟨G, h1, _⟩ := h.row_two hE [] hr hu
  exact h1.cap
theorem Fr.rowFr {α : Type} {E : Stand α} {e e' : TypeId} (hE : Good (owL E e)) {B U : Nat} {w : World} {v : Value} {xs : List (List α)} (h : Fr (owL (owL E e) e') B U w.heap v xs) {r : Nat} (hr : r < xs.length) {u : Value} (hu : ldH w.heap (eptr v r 1) = some u) : Fr (owL E e) B U w.heap u (xs.getD r []) := by
  obtain ⟨G, h1, h2, h3, _⟩ := h.row_two hE [] hr hu
  exact ⟨G, h1, h2, h3⟩
theorem els_take {α : Type} {E : Stand α} {H : Array Obj} : ∀ {us : List Value} {xs : List α} {F : List Nat} (k : Nat), els E H us xs F → ∃ G, els E H (us.take k) (xs.take k) G ∧ ∀ b ∈ G, b ∈ F := by
  intro us
  induction us with
  | nil => intro xs F k h; cases xs with
    | nil => exact ⟨F, by simpa using h, fun b hb => hb⟩
    | cons => exact h.elim
  | cons u us ih =>
    intro xs F k h
    cases xs with
    | nil => exact h.elim
    | cons x xs =>
      cases k with
      | zero => exact ⟨[], rfl, fun b hb => by cases hb⟩
      | succ k =>
        obtain ⟨A, C, rfl, p1, p2⟩ := h
        obtain ⟨G, g1, g2⟩ := ih k p2
        exact ⟨A ++ G, ⟨A, G, rfl, p1, g1⟩, fun b hb => by
          rcases List.mem_append.1 hb with hb | hb
          · exact List.mem_append_left _ hb
          · exact List.mem_append_right _ (g2 b hb)⟩
theorem Rd.pref {α : Type} {E : Stand α} {H : Array Obj} {v : Value} {xs : List α} {k : Nat} (h : Rd (rdL E) H v xs) (hk : k ≤ xs.length) : Rd (rdL E) H (prefV v k) (xs.take k) := by
  obtain ⟨F, h⟩ := h
  rcases h with ⟨a, cap, rfl, rfl, rfl⟩ | ⟨us, g, off, cap, cur, e, fr, F', hels, rfl, hg, h1, h2, rfl⟩
  · have : k = 0 := by simpa using hk
    subst this
    exact ⟨[], .inl ⟨a, cap, rfl, by simp, rfl⟩⟩
  · obtain ⟨G, g1, _⟩ := els_take k hels
    have hl : (xs.take k).length = k := by rw [List.length_take]; omega
    refine ⟨g :: G, .inr ⟨us.take k, g, off, cap, cur, e, fr, G, g1, by rw [hl]; rfl, hg, ?_, by rw [hl]; omega, rfl⟩⟩
    rw [hl, ← h1, List.take_take, Nat.min_eq_left hk]
end Go.Proofs.YtnofbmdpabcjaaaGreat
namespace Go.Proofs.YtnofbmdpabcjaaaGreat
open Go Go.RowKit
set_option linter.unusedVariables false
set_option linter.unusedSimpArgs false
/-- The derivative of a series. -/
def drv (a : Sr) : Sr := tab a.length fun k => if k + 1 < a.length then md (((k + 1 : Nat) : Int) * a.getD (k + 1) 0) else 0
@[simp] theorem drv_len (a : Sr) : (drv a).length = a.length := by simp [drv]
section
variable {p : List Fn} {f g o pk : Int} {a : Sr}
/-- The function that is observed. -/
def gB (p : List Fn) (f g pk : Int) : Bool := inB g 0 (((p.length : Nat) : Int) - 1) && (decide ((p.getD g.toNat Fn.zero).params = (p.getD f.toNat Fn.zero).params) && inB pk 0 ((((p.getD g.toNat Fn.zero).outs.length : Nat) : Int) - 1))
def obC0 (p : List Fn) (f : Int) (a : Sr) (o g pk : Int) : Int := if stC p f o [a] = 0 then (if gB p f g pk = true then 0 else 2) else stC p f o [a]
/-- The flow that is asked for. -/
def obY (p : List Fn) (f : Int) (a : Sr) (o : Int) : List Sr := flR p f.toNat (extS a (o.toNat + 1)) (o.toNat + 1)
def obD (p : List Fn) (f : Int) (a : Sr) (o : Int) : Int := flC p f.toNat (extS a (o.toNat + 1)) (o.toNat + 1)
def obK (p : List Fn) (f : Int) (a : Sr) (o g pk : Int) : Int := if obC0 p f a o g pk = 0 then (if obD p f a o = 0 then evD p (o.toNat + 1) g.toNat (obY p f a o) else obD p f a o) else obC0 p f a o g pk
def obR (p : List Fn) (f : Int) (a : Sr) (o g pk : Int) : Sr := if obK p f a o g pk = 0 then (evR p (o.toNat + 1) g.toNat (obY p f a o)).getD pk.toNat [] else []
theorem o_n (h : stC p f o [a] ≠ 0) : stC p f o [a] = obC0 p f a o g pk := by unfold obC0; rw [if_neg h]
theorem o_1 (h : stC p f o [a] = 0) (h1 : ¬ (0 ≤ g ∧ g ≤ ((p.length : Nat) : Int) - 1)) : 2 = obC0 p f a o g pk := by
  have h1' : inB g 0 (((p.length : Nat) : Int) - 1) = false := by cases hb : inB g 0 (((p.length : Nat) : Int) - 1) with
    | false => rfl
    | true => exact absurd (inB_iff.1 hb) h1
  unfold obC0 gB; rw [if_pos h, h1', Bool.false_and]; rfl
theorem o_2 (h : stC p f o [a] = 0) (h1 : (p.getD g.toNat Fn.zero).params ≠ (p.getD f.toNat Fn.zero).params) : 2 = obC0 p f a o g pk := by
  unfold obC0 gB; rw [if_pos h, decide_eq_false h1, Bool.false_and, Bool.and_false]; rfl
theorem o_3 (h : stC p f o [a] = 0) (h1 : ¬ (0 ≤ pk ∧ pk ≤ (((p.getD g.toNat Fn.zero).outs.length : Nat) : Int) - 1)) : 2 = obC0 p f a o g pk := by
  have h1' : inB pk 0 ((((p.getD g.toNat Fn.zero).outs.length : Nat) : Int) - 1) = false := by cases hb : inB pk 0 ((((p.getD g.toNat Fn.zero).outs.length : Nat) : Int) - 1) with
    | false => rfl
    | true => exact absurd (inB_iff.1 hb) h1
  unfold obC0 gB; rw [if_pos h, h1', Bool.and_false, Bool.and_false]; rfl
theorem o_0 (h : stC p f o [a] = 0) (h1 : 0 ≤ g ∧ g ≤ ((p.length : Nat) : Int) - 1) (h2 : (p.getD g.toNat Fn.zero).params = (p.getD f.toNat Fn.zero).params) (h3 : 0 ≤ pk ∧ pk ≤ (((p.getD g.toNat Fn.zero).outs.length : Nat) : Int) - 1) : stC p f o [a] = obC0 p f a o g pk := by
  unfold obC0 gB; rw [if_pos h, inB_iff.2 h1, inB_iff.2 h3, decide_eq_true h2, h]; rfl
theorem obC0_rng (p : List Fn) (f : Int) (a : Sr) (o g pk : Int) : 0 ≤ obC0 p f a o g pk ∧ obC0 p f a o g pk ≤ 2 := by
  have := stC_rng p f o [a]
  unfold obC0; split <;> (try split) <;> omega
theorem fld_of {p : List Fn} {f o : Int} {a : Sr} (h : stC p f o [a] = 0) : Fld p f.toNat a ∧ (0 ≤ f ∧ f < ((p.length : Nat) : Int)) ∧ (0 ≤ o ∧ o ≤ 12) := by
  obtain ⟨q1, q2, q3, q4, q5, q6⟩ := stC_one h
  exact ⟨⟨okP_vpr q1, by omega, q4.2, q4.1, by omega, q5⟩, q2, q6⟩
theorem obC0_0 (h : obC0 p f a o g pk = 0) : (Fld p f.toNat a ∧ (0 ≤ f ∧ f < ((p.length : Nat) : Int)) ∧ (0 ≤ o ∧ o ≤ 12)) ∧ ((0 ≤ g ∧ g < ((p.length : Nat) : Int)) ∧ (p.getD g.toNat Fn.zero).params = (p.getD f.toNat Fn.zero).params) ∧ (0 ≤ pk ∧ pk ≤ (((p.getD g.toNat Fn.zero).outs.length : Nat) : Int) - 1) := by
  unfold obC0 at h
  split at h
  · rename_i h1
    split at h
    · rename_i h2
      unfold gB at h2
      rw [Bool.and_eq_true, Bool.and_eq_true, inB_iff, inB_iff, decide_eq_true_eq] at h2
      exact ⟨fld_of h1, ⟨⟨h2.1.1, by omega⟩, h2.2.1⟩, h2.2.2⟩
    · omega
  · rename_i h1; exact absurd h h1
theorem obK_n (h : obC0 p f a o g pk ≠ 0) : obK p f a o g pk = obC0 p f a o g pk := if_neg h
theorem obK_d (h : obC0 p f a o g pk = 0) (h2 : obD p f a o ≠ 0) : obK p f a o g pk = obD p f a o := by unfold obK; rw [if_pos h, if_neg h2]
theorem obK_e (h : obC0 p f a o g pk = 0) (h2 : obD p f a o = 0) : obK p f a o g pk = evD p (o.toNat + 1) g.toNat (obY p f a o) := by unfold obK; rw [if_pos h, if_pos h2]
theorem obR_n (h : obK p f a o g pk ≠ 0) : obR p f a o g pk = [] := if_neg h
theorem obR_0 (h : obK p f a o g pk = 0) : obR p f a o g pk = (evR p (o.toNat + 1) g.toNat (obY p f a o)).getD pk.toNat [] := if_pos h
/-- What is observed. -/
theorem obY_P (h : obC0 p f a o g pk = 0) (h2 : obD p f a o = 0) : ((obY p f a o).length = a.length ∧ ((obY p f a o).length : Int) = (p.getD g.toNat Fn.zero).params) ∧ SrE (o.toNat + 1) (obY p f a o) ∧ EvP p (o.toNat + 1) g.toNat (obY p f a o) := by
  obtain ⟨⟨q1, q2, q3⟩, ⟨q4, q5⟩, q6⟩ := obC0_0 h
  have hc : nxC p f.toNat a = 0 := by rw [← fl_code q1 o.toNat]; exact h2
  have e : obY p f a o = flI p f.toNat (extS a (o.toNat + 1)) (o.toNat + 1) := if_pos h2
  obtain ⟨r1, r2, _⟩ := fl_all q1 hc o.toNat (o.toNat + 1)
  have hl := q1.hl
  rw [e]
  exact ⟨⟨r1, by rw [r1]; omega⟩, r2, ev_P q1.hv (by omega) r2 (by rw [r1]; omega)⟩
end
end Go.Proofs.YtnofbmdpabcjaaaGreat
namespace Go.Proofs.YtnofbmdpabcjaaaGreat
open Go Go.RowKit
set_option linter.unusedVariables false
set_option linter.unusedSimpArgs false
set_option maxHeartbeats 4000000
set_option maxRecDepth 100000
attribute [local irreducible] LW
theorem c_spec_l01Const (w : World) (x : Int) (K : Nat) (_hx : -9223372036854775808 ≤ x ∧ x ≤ 9223372036854775807) (_hK : K ≤ 1000000000000) (hK : K ≤ 1000000000) :
  Calls Tryz.prog 93 #[.int .i64 x,.int .i64 ((K :Nat):Int)] w (fun e w' => ∃ v0 : Value,e = .returned (v0) ∧ Ext w w' ∧ Fr (owL rI 2) w.heap.size w'.heap.size w'.heap v0 (cst K x)) := by
 refine calls_mk [.int .i64 x,.int .i64 ((K :Nat):Int)] 14 Tryz.func93 rfl rfl sM ?_
 have hE0 : Ext w w := Ext.refl w
 refine wp_seq (wp_plain _ [0] rfl (lw_tvn 1 rfl (wp_seq (wp_plain _ [0,3,0] rfl (lw_tv 1 rfl (r_make (n := K) u25 ti2 rfl rfl rfl sD zN fun v1 w1 hX1 hz1 hO1 => ?_))))))
 have hzs1:=hX1.size
 have hE1:=hE0.trans hX1
 refine lw_tvn 1 rfl (wp_seq (wp_seq (wp_plain _ [0,0] rfl (lw_tv 1 rfl ?_))))
 by_cases hc2 : ((0 :Nat):Int) < ((K :Nat):Int)
 ·
  refine q_gtr true rfl rfl (decide_eq_true hc2) zN (lw_nil (c_cond_t rfl (wp_plain _ [0,0,0,4] rfl (lw_tv 2 rfl (q_idx (v := v1) 0 u25 ti2 rfl rfl hO1.isSl rfl sD zN ?_)))))
  refine e_setI (v := v1) (w := w1) sz2 rfl rfl _hx hO1 sD zN fun w3 F3 hC3 hz3 hF3 hO3 => ?_
  have hE3 : Ext w w3 := hC3.below hE1 (fun c hc => Nat.le_trans (Nat.le_refl _) (hF3 c hc).1) hE1.size
  have hzs3:=hC3.size
  exact lw_nil (wp_seq (wp_plain _ [0,0] rfl (lw_tvn 2 rfl (wp_ret (post_ret [4] rfl v1 rfl ⟨v1,rfl,hE3,(by exact hO3.up o1)⟩)))))
 ·
  exact q_gtr false rfl rfl (decide_eq_false hc2) zN (lw_nil (c_cond_f rfl (wp_skip (wp_seq (wp_plain _ [0,0] rfl (lw_tvn 2 rfl (wp_ret (post_ret [4] rfl v1 rfl ⟨v1,rfl,hE1,(by have h := hO1.up o1; obtain rfl : K = 0 := oM; exact h)⟩))))))))
theorem scl_eq (a : List Int) (y : Int) : scl a y = sclS a y := by
  unfold scl sclS
  exact leq_done (d := 0) (k := a.length) (fun r hr => by rw [map_getD (d := 0) hr, tab_get _ hr]) (by simp) (by simp)
theorem z152_0 {p : Prop} (h : p := by first | omega | assumption | (simp only [List.length_nil, List.length_cons, List.length_append, List.length_set, List.length_replicate, tab_len]; omega) | (simp [List.length_nil, List.length_cons, List.length_append, List.length_set, List.length_replicate, tab_len]; done) | (simp [List.length_nil, List.length_cons, List.length_append, List.length_set, List.length_replicate, tab_len]; omega)) : p := h
theorem c_spec_l01Add (w : World) (va : Value) (a : List Int) (vb : Value) (b : List Int) (ha : Rd (rdL rI) w.heap va a) (hb : Rd (rdL rI) w.heap vb b) (hla : a.length ≤ 1000000000000) (hl : a.length ≤ b.length) :
  Calls Tryz.prog 152 #[va,vb] w (fun e w' => ∃ v0 : Value,e = .returned (v0) ∧ Ext w w' ∧ Fr (owL rI 2) w.heap.size w'.heap.size w'.heap v0 (addS a b)) := by
 refine calls_mk [va,vb] 27 Tryz.func152 rfl rfl sM ?_
 have hE0 : Ext w w := Ext.refl w
 have hl_va := ha.lenle
 have hl_vb := hb.lenle
 refine wp_seq (wp_plain _ [0] rfl (lw_tvn 1 rfl (wp_seq (wp_plain _ [3,0] rfl (r_nil (rI) good_rI u25 ti2 zN fun v1 w1 hX1 hz1 hO1 => ?_)))))
 have hzs1:=hX1.size
 have hE1:=hE0.trans hX1
 refine lw_tvn 1 rfl (wp_seq (wp_seq (wp_plain _ [0] rfl (lw_tvn 1 rfl (wp_block ?_)))))
 refine c_loop (S := Nat × Value) (fun (⟨k,vo⟩ : Nat × Value) => ([(5,vo),(6,(.int .i64 ((k :Nat):Int))),(0,va),(1,vb)] : List (Nat × Value))) (fun (⟨k,vo⟩ : Nat × Value) (W : World) => Ext w W ∧ Fr (owL rI 2) w.heap.size W.heap.size W.heap vo (tab k (fun t => md (a.getD t 0 + b.getD t 0))) ∧ k ≤ a.length) (fun (⟨k,vo⟩ : Nat × Value) => a.length - k) (0,v1) ⟨rfl,rfl,rfl,rfl,trivial⟩ ⟨hE1,(by exact hO1.up o1),z152_0⟩ ?_
 clear hE0 hO1 hz1 hX1 hzs1 hE1
 rintro ⟨k,vo⟩ ρ2 w2 ⟨hE2,hL2_0,hp2_0⟩
 have hzs2 : w.heap.size ≤ w2.heap.size := hE2.size
 refine wp_seq (wp_seq (wp_plain _ [0,0,0,0] rfl (lw_tv 2 rfl (q_len (v := va) u25 rfl ha.isSl zN ?_))))
 by_cases hc3 : ((k :Nat):Int) < ((a.length :Nat):Int)
 ·
  refine q_lss true rfl rfl (decide_eq_true hc3) zN (lw_nil (c_cond_t rfl (wp_skip (wp_seq (wp_block (wp_draw _ [0,0,0,0,1,0,0,0,1,0,3,4,0] mixed (by kernel_rfl) (lw_tv 3 rfl (q_idx (v := va) k u25 ti2 rfl rfl ha.isSl rfl z152_0 zN ?_))))))))
  refine q_load (p := eptr va k 1) (.inl rfl) (.int .i64 (a.getD k 0)) one2 rfl (ldH_ext hE2.drew (ha.getI z152_0).1) zN (lw_tv 2 rfl ?_)
  refine q_idx (v := vb) k u25 ti2 rfl rfl hb.isSl rfl z152_0 zN ?_
  refine q_load (p := eptr vb k 1) (.inl rfl) (.int .i64 (b.getD k 0)) one2 rfl (ldH_ext hE2.drew (hb.getI z152_0).1) zN ?_
  refine lw_callq 167 [] [] [(.int .i64 (a.getD k 0)),(.int .i64 (b.getD k 0))] rfl rfl cf167 zN (.int .i64 (md ((a.getD k 0) + (b.getD k 0)))) (fun wq => c_spec_Plus wq _ _ (ha.getI z152_0).2 (hb.getI z152_0).2) ?_
  refine r_one (u := (.int .i64 (md ((a.getD k 0) + (b.getD k 0))))) (B := w2.heap.size) good_rI u25 ti2 rfl rfl (frI w2.heap.size w2.heap.size _ _ (md_rng _)) (Nat.le_refl _) zN fun v5 w5 hX5 hz5 hO5 => ?_
  replace hX5 := hX5.of_drew
  have hzs5:=hX5.size
  have hE5:=hE2.trans hX5
  have hL2_0x5 := hL2_0.ext (o1) hX5
  refine e_appI (v := vo) (a := v5) u25 ti2 rfl rfl rfl hL2_0x5 hE5.size hO5.rd1 z152_0 (by unfold maxLen; first | omega | assumption | (simp [tab_len]; done) | (simp [tab_len]; omega)) zN fun v6 w6 F6 hC6 hF6 hO6 => ?_
  have hE6 : Ext w w6 := hC6.below hE5 (fun c hc => Nat.le_trans (Nat.le_refl _) (hF6 c hc).1) hE5.size
  have hzs6:=hC6.size
  have hF7 := hO5.chg (o1) hC6 (fun c hc => by have := hF6 c hc; omega)
  refine lw_tvn 1 rfl (wp_plain _ [0,0,0] rfl (lw_tv 1 rfl (q_add ((k + 1 :Nat):Int) rfl rfl (w64n oM z152_0) zN (lw_tvn 1 rfl ?_))))
  exact ⟨((k + 1),v6),_,rfl,⟨rfl,rfl,rfl,rfl,trivial⟩,⟨hE6,(by rw [tab_succ]; exact hO6.up o1),z152_0⟩,by first | omega | (dsimp only; omega)⟩
 ·
  exact q_lss false rfl rfl (decide_eq_false hc3) zN (lw_nil (c_cond_f rfl (wp_exit (t_exit (t_exit (c_exit_here (wp_seq (wp_plain _ [0,0] rfl (lw_tvn 2 rfl (wp_ret (post_ret [4] rfl vo rfl ⟨vo,rfl,hE2,(by have h := hL2_0.up o1; rw [show k = a.length from by omega] at h; exact h)⟩)))))))))))
theorem c_spec_l01Sub (w : World) (va : Value) (a : List Int) (vb : Value) (b : List Int) (ha : Rd (rdL rI) w.heap va a) (hb : Rd (rdL rI) w.heap vb b) (hla : a.length ≤ 1000000000000) (hlb : b.length ≤ 1000000000000) (hl : a.length ≤ b.length) :
  Calls Tryz.prog 153 #[va,vb] w (fun e w' => ∃ v0 : Value,e = .returned (v0) ∧ Ext w w' ∧ Fr (owL rI 2) w.heap.size w'.heap.size w'.heap v0 (redS a b)) := by
 refine calls_mk [va,vb] 9 Tryz.func153 rfl rfl sM ?_
 have hE0 : Ext w w := Ext.refl w
 have hl_va := ha.lenle
 have hl_vb := hb.lenle
 refine wp_seq (wp_plain _ [0] rfl (lw_tvn 1 rfl (wp_seq (wp_plain _ [0,0,3,3,0] rfl (lw_tv 2 rfl (lw_call 149 [] [] [vb,(.int .i64 ((1000002 :Nat):Int))] rfl rfl cf149 zN (c_spec_l01Scale _ _ _ _ (hb.ext g1 hE0) oM (by exact hlb)) ?_))))))
 rintro e1 w1 ⟨v1_0,rfl,hX1,hO1_0⟩
 refine ⟨_,rfl,hX1,?_⟩
 have hzs1:=hX1.size
 have hE1:=hE0.trans hX1
 refine lw_call 152 [] [] [va,v1_0] rfl rfl cf152 zN (c_spec_l01Add _ _ _ _ _ (ha.ext g1 hE1) hO1_0.rd1 (by exact hla) (by unfold scl; simp; omega)) ?_
 rintro e2 w2 ⟨v2_0,rfl,hX2,hO2_0⟩
 refine ⟨_,rfl,hX2,?_⟩
 have hzs2:=hX2.size
 have hE2:=hE1.trans hX2
 have hO1_0x2 := hO1_0.ext (o1) hX2
 exact lw_tvn 1 rfl (wp_ret (post_ret [4] rfl v2_0 rfl ⟨v2_0,rfl,hE2,(by rw [← red_eq hl,← scl_eq]; exact (hO2_0.up o1).low hE1.size)⟩))
theorem z154_0 {p : Prop} (h : p := by first | omega | assumption | (simp only [List.length_nil, List.length_cons, List.length_append, List.length_set, List.length_replicate, tab_len]; omega) | (simp [List.length_nil, List.length_cons, List.length_append, List.length_set, List.length_replicate, tab_len]; done) | (simp [List.length_nil, List.length_cons, List.length_append, List.length_set, List.length_replicate, tab_len]; omega)) : p := h
theorem c_spec_l01Mul (w : World) (va : Value) (a : List Int) (vb : Value) (b : List Int) (ha : Rd (rdL rI) w.heap va a) (hb : Rd (rdL rI) w.heap vb b) (hla : a.length ≤ 1000000000000) (hl : a.length ≤ b.length) :
  Calls Tryz.prog 154 #[va,vb] w (fun e w' => ∃ v0 : Value,e = .returned (v0) ∧ Ext w w' ∧ Fr (owL rI 2) w.heap.size w'.heap.size w'.heap v0 (proS a b)) := by
 refine calls_mk [va,vb] 39 Tryz.func154 rfl rfl sM ?_
 have hE0 : Ext w w := Ext.refl w
 have hl_va := ha.lenle
 have hl_vb := hb.lenle
 refine wp_seq (wp_plain _ [0] rfl (lw_tvn 1 rfl (wp_seq (wp_plain _ [3,0] rfl (r_nil (rI) good_rI u25 ti2 zN fun v1 w1 hX1 hz1 hO1 => ?_)))))
 have hzs1:=hX1.size
 have hE1:=hE0.trans hX1
 refine lw_tvn 1 rfl (wp_seq (wp_seq (wp_plain _ [0] rfl (lw_tvn 1 rfl (wp_block ?_)))))
 refine c_loop (S := Nat × Value) (fun (⟨k,vo⟩ : Nat × Value) => ([(5,vo),(6,(.int .i64 ((k :Nat):Int))),(0,va),(1,vb)] : List (Nat × Value))) (fun (⟨k,vo⟩ : Nat × Value) (W : World) => Ext w W ∧ Fr (owL rI 2) w.heap.size W.heap.size W.heap vo (tab k (fun t => prk a b t (t + 1))) ∧ k ≤ a.length) (fun (⟨k,vo⟩ : Nat × Value) => a.length - k) (0,v1) ⟨rfl,rfl,rfl,rfl,trivial⟩ ⟨hE1,(by exact hO1.up o1),z154_0⟩ ?_
 clear hE0 hO1 hz1 hX1 hzs1 hE1
 rintro ⟨k,vo⟩ ρ2 w2 ⟨hE2,hL2_0,hp2_0⟩
 have hzs2 : w.heap.size ≤ w2.heap.size := hE2.size
 refine wp_seq (wp_seq (wp_plain _ [0,0,0,0] rfl (lw_tv 2 rfl (q_len (v := va) u25 rfl ha.isSl zN ?_))))
 by_cases hc3 : ((k :Nat):Int) < ((a.length :Nat):Int)
 ·
  refine q_lss true rfl rfl (decide_eq_true hc3) zN (lw_nil (c_cond_t rfl (wp_skip (wp_seq (wp_block (wp_seq (wp_plain _ [0] rfl (lw_tvn 1 rfl (wp_seq (wp_seq (wp_plain _ [0] rfl (lw_tvn 1 rfl (wp_block ?_)))))))))))))
  refine c_loop (S := Nat × Int) (fun (⟨i,s⟩ : Nat × Int) => ([(7,(.int .i64 s)),(8,(.int .i64 ((i :Nat):Int))),(0,va),(1,vb),(5,vo),(6,(.int .i64 ((k :Nat):Int)))] : List (Nat × Value))) (fun (⟨i,s⟩ : Nat × Int) (W : World) => Ext w W ∧ Fr (owL rI 2) w.heap.size W.heap.size W.heap vo (tab k (fun t => prk a b t (t + 1))) ∧ i ≤ k + 1 ∧ s = prk a b k i ∧ (0 ≤ s ∧ s < 1000003)) (fun (⟨i,s⟩ : Nat × Int) => k + 1 - i) (0,((0 :Nat):Int)) ⟨rfl,rfl,rfl,rfl,rfl,rfl,trivial⟩ ⟨hE2,hL2_0.up o1,z154_0,(by rfl),oM⟩ ?_
  clear hL2_0 hE2 hzs2
  rintro ⟨i,s⟩ ρ4 w4 ⟨hE4,hL4_0,hp4_0,hs,hsr⟩
  have hzs4 : w.heap.size ≤ w4.heap.size := hE4.size
  refine wp_seq (wp_seq (wp_plain _ [0,0,0] rfl (lw_tv 2 rfl ?_)))
  by_cases hc5 : ((i :Nat):Int) ≤ ((k :Nat):Int)
  ·
   refine q_leq true rfl rfl (decide_eq_true hc5) zN (lw_nil (c_cond_t rfl (wp_skip (wp_seq (wp_block (wp_draw _ [0,0,0,0,1,0,0,0,0,0,1,0,0,0] mixed (by kernel_rfl) (lw_tv 3 rfl (q_idx (v := va) i u25 ti2 rfl rfl ha.isSl rfl z154_0 zN ?_))))))))
   refine q_load (p := eptr va i 1) (.inl rfl) (.int .i64 (a.getD i 0)) one2 rfl (ldH_ext hE4.drew (ha.getI z154_0).1) zN (lw_tv 3 rfl (q_sub ((k - i :Nat):Int) rfl rfl (by rw [w64 oM oM]; omega) zN ?_))
   refine q_idx (v := vb) (k - i) u25 ti2 rfl rfl hb.isSl rfl z154_0 zN ?_
   refine q_load (p := eptr vb (k - i) 1) (.inl rfl) (.int .i64 (b.getD (k - i) 0)) one2 rfl (ldH_ext hE4.drew (hb.getI z154_0).1) zN ?_
   refine lw_callq 94 [] [] [(.int .i64 (a.getD i 0)),(.int .i64 (b.getD (k - i) 0))] rfl rfl cf94 zN (.int .i64 (md ((a.getD i 0) * (b.getD (k - i) 0)))) (fun wq => c_spec_Times wq _ _ (ha.getI z154_0).2 (hb.getI z154_0).2) ?_
   refine lw_callq 167 [] [] [(.int .i64 s),(.int .i64 (md ((a.getD i 0) * (b.getD (k - i) 0))))] rfl rfl cf167 zN (.int .i64 (md (s + (md ((a.getD i 0) * (b.getD (k - i) 0)))))) (fun wq => c_spec_Plus wq _ _ oM (md_rng _)) (lw_tvn 1 rfl (wp_plain _ [0,0,0] rfl (lw_tv 1 rfl (q_add ((i + 1 :Nat):Int) rfl rfl (w64n oM z154_0) zN (lw_tvn 1 rfl ?_)))))
   exact ⟨((i + 1),(md (s + (md ((a.getD i 0) * (b.getD (k - i) 0)))))),_,rfl,⟨rfl,rfl,rfl,rfl,rfl,rfl,trivial⟩,⟨hE4.drew,hL4_0.up o1,z154_0,(by rw [md_addr,hs]; rfl),(by exact md_num _)⟩,by first | omega | (dsimp only; omega)⟩
  ·
   refine q_leq false rfl rfl (decide_eq_false hc5) zN (lw_nil (c_cond_f rfl (wp_exit (t_exit (t_exit (c_exit_here (wp_plain _ [0,0,3,4,0] rfl (lw_tv 2 rfl (r_one (u := (.int .i64 s)) (B := w4.heap.size) good_rI u25 ti2 rfl rfl (frI w4.heap.size w4.heap.size _ _ oM) (Nat.le_refl _) zN fun v8 w8 hX8 hz8 hO8 => ?_)))))))))
   have hzs8:=hX8.size
   have hE8:=hE4.trans hX8
   have hL4_0x8 := hL4_0.ext (o1) hX8
   refine e_appI (v := vo) (a := v8) u25 ti2 rfl rfl rfl hL4_0x8 hE8.size hO8.rd1 z154_0 (by unfold maxLen; first | omega | assumption | (simp [tab_len]; done) | (simp [tab_len]; omega)) zN fun v9 w9 F9 hC9 hF9 hO9 => ?_
   have hE9 : Ext w w9 := hC9.below hE8 (fun c hc => Nat.le_trans (Nat.le_refl _) (hF9 c hc).1) hE8.size
   have hzs9:=hC9.size
   have hF10 := hO8.chg (o1) hC9 (fun c hc => by have := hF9 c hc; omega)
   refine lw_tvn 1 rfl (wp_plain _ [0,0,0] rfl (lw_tv 1 rfl (q_add ((k + 1 :Nat):Int) rfl rfl (w64n oM z154_0) zN (lw_tvn 1 rfl ?_))))
   exact ⟨((k + 1),v9),_,rfl,⟨rfl,rfl,rfl,rfl,trivial⟩,⟨hE9,(by rw [tab_succ]; have h := hO9.up o1; rw [hs,show i = k + 1 from by omega] at h; exact h),z154_0⟩,by first | omega | (dsimp only; omega)⟩
 ·
  exact q_lss false rfl rfl (decide_eq_false hc3) zN (lw_nil (c_cond_f rfl (wp_exit (t_exit (t_exit (c_exit_here (wp_seq (wp_plain _ [0,0] rfl (lw_tvn 2 rfl (wp_ret (post_ret [4] rfl vo rfl ⟨vo,rfl,hE2,(by have h := hL2_0.up o1; rw [show k = a.length from by omega] at h; exact h)⟩)))))))))))
theorem z155_0 {p : Prop} (h : p := by first | omega | assumption | (simp only [List.length_nil, List.length_cons, List.length_append, List.length_set, List.length_replicate, quL_len]; omega) | (simp [List.length_nil, List.length_cons, List.length_append, List.length_set, List.length_replicate, quL_len]; done) | (simp [List.length_nil, List.length_cons, List.length_append, List.length_set, List.length_replicate, quL_len]; omega)) : p := h
theorem c_spec_l01Div (w : World) (va : Value) (a : List Int) (vb : Value) (b : List Int) (ha : Rd (rdL rI) w.heap va a) (hb : Rd (rdL rI) w.heap vb b) (hla : a.length ≤ 1000000000000) (hl : a.length ≤ b.length) (h1 : 0 < b.length) (hqa : allN a = true) :
  Calls Tryz.prog 155 #[va,vb] w (fun e w' => ∃ v0 : Value,e = .returned (v0) ∧ Ext w w' ∧ Fr (owL rI 2) w.heap.size w'.heap.size w'.heap v0 (quoS a b)) := by
 refine calls_mk [va,vb] 50 Tryz.func155 rfl rfl sM ?_
 have hE0 : Ext w w := Ext.refl w
 have hl_va := ha.lenle
 have hl_vb := hb.lenle
 refine wp_seq (wp_plain _ [0] rfl (lw_tvn 1 rfl (wp_seq (wp_plain _ [3,0] rfl (r_nil (rI) good_rI u25 ti2 zN fun v1 w1 hX1 hz1 hO1 => ?_)))))
 have hzs1:=hX1.size
 have hE1:=hE0.trans hX1
 refine lw_tvn 1 rfl (wp_seq (wp_plain _ [0,0,2,0,0] rfl (lw_tv 1 rfl (q_idx (v := vb) 0 u25 ti2 rfl rfl hb.isSl rfl z155_0 zN ?_))))
 refine q_load (p := eptr vb 0 1) (.inr rfl) (.int .i64 (b.getD 0 0)) one2 rfl (ldH_ext hE1 (hb.getI z155_0).1) zN ?_
 refine lw_callq 98 [] [] [(.int .i64 (b.getD 0 0))] rfl rfl cf98 zN (.int .i64 (inv (b.getD 0 0))) (fun wq => c_spec_l01Inv wq _ (hb.getI z155_0).2) (lw_tvn 1 rfl (wp_seq (wp_seq (wp_plain _ [0] rfl (lw_tvn 1 rfl (wp_block ?_))))))
 refine c_loop (S := Nat × Value) (fun (⟨k,vo⟩ : Nat × Value) => ([(5,vo),(7,(.int .i64 ((k :Nat):Int))),(0,va),(1,vb),(6,(.int .i64 (inv (b.getD 0 0))))] : List (Nat × Value))) (fun (⟨k,vo⟩ : Nat × Value) (W : World) => Ext w W ∧ Fr (owL rI 2) w.heap.size W.heap.size W.heap vo (quL a b k) ∧ k ≤ a.length) (fun (⟨k,vo⟩ : Nat × Value) => a.length - k) (0,v1) ⟨rfl,rfl,rfl,rfl,rfl,trivial⟩ ⟨hE1,(by exact hO1.up o1),z155_0⟩ ?_
 clear hE0 hO1 hz1 hX1 hzs1 hE1
 rintro ⟨k,vo⟩ ρ3 w3 ⟨hE3,hL3_0,hp3_0⟩
 have hzs3 : w.heap.size ≤ w3.heap.size := hE3.size
 refine wp_seq (wp_seq (wp_plain _ [0,0,0,0] rfl (lw_tv 2 rfl (q_len (v := va) u25 rfl ha.isSl zN ?_))))
 by_cases hc4 : ((k :Nat):Int) < ((a.length :Nat):Int)
 ·
  refine q_lss true rfl rfl (decide_eq_true hc4) zN (lw_nil (c_cond_t rfl (wp_skip (wp_seq (wp_block (wp_seq (wp_plain _ [0,0,0,2,0] rfl (lw_tv 2 rfl (q_idx (v := va) k u25 ti2 rfl rfl ha.isSl rfl z155_0 zN ?_)))))))))
  refine q_load (p := eptr va k 1) (.inr rfl) (.int .i64 (a.getD k 0)) one2 rfl (ldH_ext hE3 (ha.getI z155_0).1) zN (lw_tvn 1 rfl (wp_seq (wp_seq (wp_plain _ [0] rfl (lw_tvn 1 rfl (wp_block ?_))))))
  refine c_loop (S := Nat × Int) (fun (⟨i,t⟩ : Nat × Int) => ([(8,(.int .i64 t)),(9,(.int .i64 ((i :Nat):Int))),(0,va),(1,vb),(5,vo),(6,(.int .i64 (inv (b.getD 0 0)))),(7,(.int .i64 ((k :Nat):Int)))] : List (Nat × Value))) (fun (⟨i,t⟩ : Nat × Int) (W : World) => Ext w W ∧ Fr (owL rI 2) w.heap.size W.heap.size W.heap vo (quL a b k) ∧ i ≤ k ∧ t = qrk a b (quL a b k) k i ∧ (0 ≤ t ∧ t < 1000003)) (fun (⟨i,t⟩ : Nat × Int) => k - i) (0,(a.getD k 0)) ⟨rfl,rfl,rfl,rfl,rfl,rfl,rfl,trivial⟩ ⟨hE3,hL3_0.up o1,z155_0,(by rfl),(by exact allN_get hqa k)⟩ ?_
  clear hL3_0 hE3 hzs3
  rintro ⟨i,t⟩ ρ5 w5 ⟨hE5,hL5_0,hp5_0,ht,htr⟩
  have hzs5 : w.heap.size ≤ w5.heap.size := hE5.size
  refine wp_seq (wp_seq (wp_plain _ [0,0,0] rfl (lw_tv 2 rfl ?_)))
  by_cases hc6 : ((i :Nat):Int) < ((k :Nat):Int)
  ·
   refine q_lss true rfl rfl (decide_eq_true hc6) zN (lw_nil (c_cond_t rfl (wp_skip (wp_seq (wp_block (wp_draw _ [0,0,0,0,1,0,0,0,0,0,1,0,0,0] mixed (by kernel_rfl) ?_))))))
   have hmn := md_num ((quL a b k).getD i 0 * b.getD (k - i) 0)
   refine lw_tv 3 rfl (q_idx (v := vo) i u25 ti2 rfl rfl hL5_0.isSl rfl z155_0 zN ?_)
   refine q_load (p := eptr vo i 1) (.inl rfl) (.int .i64 ((quL a b k).getD i 0)) one2 rfl (hL5_0.rd1.getI z155_0).1 zN (lw_tv 3 rfl (q_sub ((k - i :Nat):Int) rfl rfl (by rw [w64 oM oM]; omega) zN ?_))
   refine q_idx (v := vb) (k - i) u25 ti2 rfl rfl hb.isSl rfl z155_0 zN ?_
   refine q_load (p := eptr vb (k - i) 1) (.inl rfl) (.int .i64 (b.getD (k - i) 0)) one2 rfl (ldH_ext hE5.drew (hb.getI z155_0).1) zN ?_
   refine lw_callq 94 [] [] [(.int .i64 ((quL a b k).getD i 0)),(.int .i64 (b.getD (k - i) 0))] rfl rfl cf94 zN (.int .i64 (md (((quL a b k).getD i 0) * (b.getD (k - i) 0)))) (fun wq => c_spec_Times wq _ _ (hL5_0.rd1.getI z155_0).2 (hb.getI z155_0).2) ?_
   refine lw_callq 168 [] [] [(.int .i64 t),(.int .i64 (md (((quL a b k).getD i 0) * (b.getD (k - i) 0))))] rfl rfl cf168 zN (.int .i64 (md (t - (md (((quL a b k).getD i 0) * (b.getD (k - i) 0)))))) (fun wq => c_spec_l01Minus wq _ _ oM (md_rng _) oM) (lw_tvn 1 rfl (wp_plain _ [0,0,0] rfl (lw_tv 1 rfl (q_add ((i + 1 :Nat):Int) rfl rfl (w64n oM z155_0) zN (lw_tvn 1 rfl ?_)))))
   exact ⟨((i + 1),(md (t - (md (((quL a b k).getD i 0) * (b.getD (k - i) 0)))))),_,rfl,⟨rfl,rfl,rfl,rfl,rfl,rfl,rfl,trivial⟩,⟨hE5.drew,hL5_0.up o1,z155_0,(by rw [md_subr,ht]; rfl),(by exact md_num _)⟩,by first | omega | (dsimp only; omega)⟩
  ·
   refine q_lss false rfl rfl (decide_eq_false hc6) zN (lw_nil (c_cond_f rfl (wp_exit (t_exit (t_exit (c_exit_here (wp_plain _ [0,0,0,0,3,4,0] rfl (lw_tv 3 rfl (lw_callq 94 [] [] [(.int .i64 t),(.int .i64 (inv (b.getD 0 0)))] rfl rfl cf94 zN (.int .i64 (md (t * (inv (b.getD 0 0))))) (fun wq => c_spec_Times wq _ _ oM (inv_rng _)) (r_one (u := (.int .i64 (md (t * (inv (b.getD 0 0)))))) (B := w5.heap.size) good_rI u25 ti2 rfl rfl (frI w5.heap.size w5.heap.size _ _ (md_rng _)) (Nat.le_refl _) zN fun v10 w10 hX10 hz10 hO10 => ?_))))))))))
   have hzs10:=hX10.size
   have hE10:=hE5.trans hX10
   have hL5_0x10 := hL5_0.ext (o1) hX10
   refine e_appI (v := vo) (a := v10) u25 ti2 rfl rfl rfl hL5_0x10 hE10.size hO10.rd1 z155_0 (by unfold maxLen; first | omega | assumption | (simp [quL_len]; done) | (simp [quL_len]; omega)) zN fun v11 w11 F11 hC11 hF11 hO11 => ?_
   have hE11 : Ext w w11 := hC11.below hE10 (fun c hc => Nat.le_trans (Nat.le_refl _) (hF11 c hc).1) hE10.size
   have hzs11:=hC11.size
   have hF12 := hO10.chg (o1) hC11 (fun c hc => by have := hF11 c hc; omega)
   refine lw_tvn 1 rfl (wp_plain _ [0,0,0] rfl (lw_tv 1 rfl (q_add ((k + 1 :Nat):Int) rfl rfl (w64n oM z155_0) zN (lw_tvn 1 rfl ?_))))
   exact ⟨((k + 1),v11),_,rfl,⟨rfl,rfl,rfl,rfl,rfl,trivial⟩,⟨hE11,(by have h := hO11.up o1; rw [ht,show i = k from by omega] at h; exact h),z155_0⟩,by first | omega | (dsimp only; omega)⟩
 ·
  exact q_lss false rfl rfl (decide_eq_false hc4) zN (lw_nil (c_cond_f rfl (wp_exit (t_exit (t_exit (c_exit_here (wp_seq (wp_plain _ [0,0] rfl (lw_tvn 2 rfl (wp_ret (post_ret [4] rfl vo rfl ⟨vo,rfl,hE3,(by have h := hL3_0.up o1; rw [show k = a.length from by omega] at h; exact h)⟩)))))))))))
end Go.Proofs.YtnofbmdpabcjaaaGreat
namespace Go.Proofs.YtnofbmdpabcjaaaGreat
open Go Go.RowKit
set_option linter.unusedVariables false
set_option linter.unusedSimpArgs false
set_option maxHeartbeats 4000000
set_option maxRecDepth 100000
attribute [local irreducible] LW
/-- What the reference does when it evaluates an expression. -/
def SV (F d : Nat) : Prop := ∀ (w : World) (S : List Nat) (g : Nat) (pp : Value) (dp n s0 : Nat) (c0 : Int) (p : List Fn) (ve : Value) (ex : Ex) (vv : Value) (env : List (List Int)) (hS : ∀ b ∈ S, b < w.heap.size) (hgS : g ∈ S) (hB0 : BX w.heap g [pp, .int .i64 ((n : Nat) : Int), .int .i64 ((s0 : Nat) : Int), .int .i64 c0]) (hp : RN S (rP (rPr dp)) w.heap pp p) (hn : 1 ≤ n ∧ n ≤ 13) (hs0 : s0 ≤ 3000) (hc0 : 0 ≤ c0 ∧ c0 ≤ 9) (hex : RN S (rP (rEx d)) w.heap ve ex) (henv : RN S (rdL (rdL rI)) w.heap vv env) (hqenv : CapS vv)
  (hvp : VPr p) (hF : F ≤ p.length) (hwf : wf p ((F : Nat) : Int) ex ((env.length : Nat) : Int) = true) (hse : SrE n env) (hdp : env.length + ex.deep ≤ 1000000),
  Calls Tryz.prog 134 #[.pointer (some ⟨g, 0, none⟩), ve, vv] w (fun e w' => ∃ (v : Value) (x : List Int) (s1 : Nat) (c1 : Int), e = .returned v ∧ Chg [g] w w' ∧ BX w'.heap g [pp, .int .i64 ((n : Nat) : Int), .int .i64 ((s1 : Nat) : Int), .int .i64 c1] ∧ RN S (rdL rI) w'.heap v x ∧ Ser1 n x ∧ s1 ≤ 3000 ∧ (0 ≤ c1 ∧ c1 ≤ 9) ∧ RelV (go c0 (evE n (evC p n F) ex env s0)) x s1 c1)
def SC (F d : Nat) : Prop := ∀ (w : World) (S : List Nat) (g : Nat) (pp : Value) (dp n s0 : Nat) (c0 : Int) (p : List Fn) (ve : Value) (ex : Ex) (vv : Value) (env : List (List Int)) (hS : ∀ b ∈ S, b < w.heap.size) (hgS : g ∈ S) (hB0 : BX w.heap g [pp, .int .i64 ((n : Nat) : Int), .int .i64 ((s0 : Nat) : Int), .int .i64 c0]) (hp : RN S (rP (rPr dp)) w.heap pp p) (hn : 1 ≤ n ∧ n ≤ 13) (hs0 : s0 ≤ 3000) (hc0 : 0 ≤ c0 ∧ c0 ≤ 9) (hex : RN S (rP (rEx d)) w.heap ve ex) (henv : RN S (rdL (rdL rI)) w.heap vv env) (hqenv : CapS vv)
  (hvp : VPr p) (hF : F ≤ p.length) (hwf : wf p ((F : Nat) : Int) ex ((env.length : Nat) : Int) = true) (hse : SrE n env) (hdp : env.length + ex.deep ≤ 1000000) (hk : ex.kind = 10 ∨ ex.kind = 11),
  Calls Tryz.prog 151 #[.pointer (some ⟨g, 0, none⟩), ve, vv] w (fun e w' => ∃ (v : Value) (x : List Int) (s1 : Nat) (c1 : Int), e = .returned v ∧ Chg [g] w w' ∧ BX w'.heap g [pp, .int .i64 ((n : Nat) : Int), .int .i64 ((s1 : Nat) : Int), .int .i64 c1] ∧ RN S (rdL rI) w'.heap v x ∧ Ser1 n x ∧ s1 ≤ 3000 ∧ (0 ≤ c1 ∧ c1 ≤ 9) ∧ RelV (go c0 (callV n (evC p n F) ex env s0)) x s1 c1)
def SO (F : Nat) : Prop := ∀ (w : World) (S : List Nat) (g : Nat) (pp : Value) (dp n s0 : Nat) (c0 : Int) (p : List Fn) (dfx : Nat) (vf : Value) (fx : Fn) (va : Value) (env : List (List Int)) (hS : ∀ b ∈ S, b < w.heap.size) (hgS : g ∈ S) (hB0 : BX w.heap g [pp, .int .i64 ((n : Nat) : Int), .int .i64 ((s0 : Nat) : Int), .int .i64 c0]) (hp : RN S (rP (rPr dp)) w.heap pp p) (hn : 1 ≤ n ∧ n ≤ 13) (hs0 : s0 ≤ 3000) (hc0 : 0 ≤ c0 ∧ c0 ≤ 9) (hfx : RN S (rP (rFn dfx)) w.heap vf fx) (henv : RN S (rdL (rdL rI)) w.heap va env) (hqenv : CapS va)
  (hvp : VPr p) (hF : F ≤ p.length) (hwf : ∀ k, k < fx.outs.length → wf p ((F : Nat) : Int) (fx.outs.getD k Ex.zero) ((env.length : Nat) : Int) = true) (hse : SrE n env) (hdp : ∀ k, k < fx.outs.length → env.length + (fx.outs.getD k Ex.zero).deep ≤ 1000000) (hll : fx.outs.length ≤ 1000000),
  Calls Tryz.prog 102 #[.pointer (some ⟨g, 0, none⟩), vf, va] w (fun e w' => ∃ (v : Value) (x : List (List Int)) (s1 : Nat) (c1 : Int), e = .returned v ∧ Chg [g] w w' ∧ BX w'.heap g [pp, .int .i64 ((n : Nat) : Int), .int .i64 ((s1 : Nat) : Int), .int .i64 c1] ∧ RN S (rdL (rdL rI)) w'.heap v x ∧ (CapS v ∧ x.length = fx.outs.length ∧ SrE n x) ∧ s1 ≤ 3000 ∧ (0 ≤ c1 ∧ c1 ≤ 9) ∧ RelV (go c0 (evs n (evC p n F) fx.outs env s0)) x s1 c1)
theorem c_spec_l02Run_fail (w : World) (S : List Nat) (g : Nat) (pp : Value) (dp n s0 : Nat) (c0 : Int) (p : List Fn) (code : Int) (hS : ∀ b ∈ S,b < w.heap.size) (hgS : g ∈ S) (hB0 : BX w.heap g [pp,.int .i64 ((n :Nat):Int),.int .i64 ((s0 :Nat):Int),.int .i64 c0]) (hp : RN S (rP (rPr dp)) w.heap pp p) (hn : 1 ≤ n ∧ n ≤ 13) (hs0 : s0 ≤ 3000) (hc0 : 0 ≤ c0 ∧ c0 ≤ 9) (_hcode : -9223372036854775808 ≤ code ∧ code ≤ 9223372036854775807) (hcd : 1 ≤ code ∧ code ≤ 9) :
  Calls Tryz.prog 148 #[.pointer (some ⟨g,0,none⟩),.int .i64 code] w (fun e w' => ∃ (v : Value) (x : List Int) (s1 : Nat) (c1 : Int),e = .returned v ∧ Chg [g] w w' ∧ BX w'.heap g [pp,.int .i64 ((n :Nat):Int),.int .i64 ((s1 :Nat):Int),.int .i64 c1] ∧ RN S (rdL rI) w'.heap v x ∧ Ser1 n x ∧ s1 ≤ 3000 ∧ (0 ≤ c1 ∧ c1 ≤ 9) ∧ (s1 = s0 ∧ c1 = if c0 = 0 then code else c0)) := by
 refine calls_mk [.pointer (some ⟨g,0,none⟩),.int .i64 code] 19 Tryz.func148 rfl rfl sM ?_
 have hE0 : Chg [g] w w := Chg.refl [g] w
 have hgl := hB0.lt
 refine wp_seq (wp_plain _ [0] rfl (lw_tvn 1 rfl (wp_seq (wp_seq (wp_plain _ [0,0,0,2,0] rfl (lw_tv 1 rfl (q_nil rfl zN (q_fldP (p := (.pointer (some ⟨g,0,none⟩))) (b := g) (o := 0) 3 fd123_3 rfl rfl zN (q_load (p := (padd (.pointer (some ⟨g,0,none⟩)) 3)) (.inr rfl) (.int .i64 c0) one2 rfl (hB0.ldp (i := 3) sM) zN ?_)))))))))
 by_cases hc1 : c0 = ((0 :Nat):Int)
 ·
  refine q_eql true rfl rfl (decide_eq_true hc1) zN (lw_nil (c_cond_t rfl (wp_plain _ [0,0,0,0,4] rfl (lw_tv 2 rfl (q_nil rfl zN (q_fldP (p := (.pointer (some ⟨g,0,none⟩))) (b := g) (o := 0) 3 fd123_3 rfl rfl zN (e_setB (k := 3) (w := w) sz2 rfl rfl ⟨rfl,rfl⟩ hB0 sM zN fun w2 hC2 hz2 hB2 => ?_)))))))
  replace hB2 : BX w2.heap g [pp,(.int .i64 ((n :Nat):Int)),(.int .i64 ((s0 :Nat):Int)),(.int .i64 code)] := hB2
  have hE2 : Chg [g] w w2 := hE0.trans hC2
  have hzs2:=hC2.size
  refine lw_nil (wp_seq (wp_plain _ [0,0,0,2,3,0] rfl (lw_tv 1 rfl (q_nil rfl zN (q_fldP (p := (.pointer (some ⟨g,0,none⟩))) (b := g) (o := 0) 1 fd123_1 rfl rfl zN (q_load (p := (padd (.pointer (some ⟨g,0,none⟩)) 1)) (.inr rfl) (.int .i64 ((n :Nat):Int)) one3 rfl (hB2.ldp (i := 1) sM) zN ?_))))))
  refine lw_call 93 [] [] [(.int .i64 ((0 :Nat):Int)),(.int .i64 ((n :Nat):Int))] rfl rfl cf93 zN (c_spec_l01Const _ _ (n) oM sD oM) ?_
  rintro e3 w3 ⟨v3_0,rfl,hX3,hO3_0⟩
  refine ⟨_,rfl,hX3,?_⟩
  have hzs3:=hX3.size
  have hE3 : Chg [g] w w3 := hE2.ext hX3
  have hB2x3 := hB2.ext hX3
  exact lw_tvn 1 rfl (wp_ret (post_ret [4] rfl v3_0 rfl ⟨v3_0,cst n ((0 :Nat):Int),s0,code,rfl,hE3,hB2x3,(RN.of_fr1 hO3_0 (fun b hb => by have := hS b hb; omega)),(by exact cst_ser (by decide)),oM,oM,(by exact ⟨rfl,by first | (rw [if_pos oM]) | (rw [if_neg oM])⟩)⟩))
 ·
  refine q_eql false rfl rfl (decide_eq_false hc1) zN (lw_nil (c_cond_f rfl (wp_skip (wp_seq (wp_plain _ [0,0,0,2,3,0] rfl (lw_tv 1 rfl (q_nil rfl zN (q_fldP (p := (.pointer (some ⟨g,0,none⟩))) (b := g) (o := 0) 1 fd123_1 rfl rfl zN (q_load (p := (padd (.pointer (some ⟨g,0,none⟩)) 1)) (.inr rfl) (.int .i64 ((n :Nat):Int)) one3 rfl (hB0.ldp (i := 1) sM) zN ?_)))))))))
  refine lw_call 93 [] [] [(.int .i64 ((0 :Nat):Int)),(.int .i64 ((n :Nat):Int))] rfl rfl cf93 zN (c_spec_l01Const _ _ (n) oM sD oM) ?_
  rintro e4 w4 ⟨v4_0,rfl,hX4,hO4_0⟩
  refine ⟨_,rfl,hX4,?_⟩
  have hzs4:=hX4.size
  have hE4 : Chg [g] w w4 := hE0.ext hX4
  have hB0x4 := hB0.ext hX4
  exact lw_tvn 1 rfl (wp_ret (post_ret [4] rfl v4_0 rfl ⟨v4_0,cst n ((0 :Nat):Int),s0,c0,rfl,hE4,hB0x4,(RN.of_fr1 hO4_0 (fun b hb => by have := hS b hb; omega)),(by exact cst_ser (by decide)),oM,oM,(by exact ⟨rfl,by first | (rw [if_pos oM]) | (rw [if_neg oM])⟩)⟩))
theorem z150_0 {p : Prop} (h : p := by unfold maxLen; first | omega | assumption | (simp only [List.length_nil, List.length_cons, List.length_append, List.length_set, List.length_replicate]; omega) | (simp [List.length_nil, List.length_cons, List.length_append, List.length_set, List.length_replicate]; done) | (simp [List.length_nil, List.length_cons, List.length_append, List.length_set, List.length_replicate]; omega)) : p := h
theorem c_spec_l02Env (w : World) (S : List Nat) (vv : Value) (env : List (List Int)) (vx : Value) (x : List Int) (hS : ∀ b ∈ S,b < w.heap.size) (henv : RN S (rdL (rdL rI)) w.heap vv env) (hqenv : CapS vv) (hx : RN S (rdL rI) w.heap vx x) (hel : env.length ≤ 1000000) :
  Calls Tryz.prog 150 #[vv,vx] w (fun e w' => ∃ v,e = .returned v ∧ Ext w w' ∧ RN S (rdL (rdL rI)) w'.heap v (env ++ [x]) ∧ CapS v) := by
 refine calls_mk [vv,vx] 25 Tryz.func150 rfl rfl sM ?_
 have hE0 : Ext w w := Ext.refl w
 have hl_vv := henv.lenL
 unfold maxLen at hl_vv
 have hl_vx := hx.lenL
 unfold maxLen at hl_vx
 refine wp_seq (wp_plain _ [0] rfl (lw_tvn 1 rfl (wp_seq (wp_plain _ [3,0] rfl (r_nil rV good_rV u27 ti25 zN fun v1 w1 hX1 hz1 hO1 => ?_)))))
 have hzs1:=hX1.size
 have hE1:=hE0.trans hX1
 obtain ⟨us1,F1,hb1⟩ := Bld.nil (S := S) (hO1.low (B' := w.heap.size) (Nat.le_refl _))
 refine lw_tvn 1 rfl (wp_seq (wp_seq (wp_plain _ [0] rfl (lw_tvn 1 rfl (wp_block (c_loop (S := Nat × Value) (fun (⟨k,vo⟩ : Nat × Value) => ([(5,vo),(6,(.int .i64 ((k :Nat):Int))),(0,vv),(1,vx)] : List (Nat × Value))) (fun (⟨k,vo⟩ : Nat × Value) (W : World) => Ext w W ∧ k ≤ env.length ∧ BldE 25 S w.heap.size W.heap vo (env.take k)) (fun (⟨k,vo⟩ : Nat × Value) => env.length - k) (0,v1) ⟨rfl,rfl,rfl,rfl,trivial⟩ ⟨hE1,sD,(by exact ⟨_,_,by assumption⟩)⟩ ?_))))))
 clear hE0 hO1 hz1 hX1 hzs1 hE1
 rintro ⟨k,vo⟩ ρ2 w2 ⟨hE2,hp2_0,hbld⟩
 have hzs2 : w.heap.size ≤ w2.heap.size := hE2.size
 obtain ⟨us4,F4,hbl3⟩ := hbld
 refine wp_seq (wp_seq (wp_plain _ [0,0,0,0] rfl (lw_tv 2 rfl (q_len (v := vv) u27 rfl henv.slL zN ?_))))
 by_cases hc5 : ((k :Nat):Int) < ((env.length :Nat):Int)
 ·
  refine q_lss true rfl rfl (decide_eq_true hc5) zN (lw_nil (c_cond_t rfl (wp_skip (wp_seq (wp_block (wp_plain _ [0,0,0,0,2,3,4,0] rfl (lw_tv 3 rfl (q_idx (v := vv) k u27 ti25 rfl rfl henv.slL rfl sD zN ?_))))))))
  obtain ⟨ue6,hl6,hr6⟩ := RN.getL (w := w) g1 [] (k := k) henv sD
  have hln6 := hr6.lenL
  unfold maxLen at hln6
  refine q_load (p := eptr vv k 1) (.inr rfl) ue6 one25 rfl (hl6 _ (Chg.of_ext S hE2)) zN (r_one (u := ue6) (B := w2.heap.size) good_rV u27 ti25 rfl rfl (frV w2.heap.size w2.heap.size _ (hr6.one1 g1)) (Nat.le_refl _) zN fun v7 w7 hX7 hz7 hO7 => ?_)
  have hzs7:=hX7.size
  have hE7:=hE2.trans hX7
  have hN8 := hbl3.ext hX7
  refine e_appB (v := vo) (a := v7) (u := ue6) u27 ti25 rfl rfl rfl hN8 oM hO7 ((hr6.add (F := F4) g1 hN8.low).ext g1 hE7) sD z150_0 zN ?_
  rintro v9 w9 G9 hC9 hF9 ⟨us9,F9,hb9⟩
  have hzs9:=hC9.size
  have hE9 : Ext w w9 := hC9.below hE7 (fun c hc => hN8.low c (hF9 c hc)) hE7.size
  refine lw_tvn 1 rfl (wp_plain _ [0,0,0] rfl (lw_tv 1 rfl (q_add ((k + 1 :Nat):Int) rfl rfl (w64n oM sD) zN (lw_tvn 1 rfl ?_))))
  exact ⟨((k + 1),v9),_,rfl,⟨rfl,rfl,rfl,rfl,trivial⟩,⟨hE9,sD,(by rw [take_snoc [] oM]; exact ⟨_,_,by assumption⟩)⟩,by first | omega | (dsimp only; omega)⟩
 ·
  refine q_lss false rfl rfl (decide_eq_false hc5) zN (lw_nil (c_cond_f rfl (wp_exit (t_exit (t_exit (c_exit_here (wp_seq (wp_plain _ [0,0,3,4,0] rfl (lw_tv 2 rfl (r_one (u := vx) (B := w2.heap.size) good_rV u27 ti25 rfl rfl (frV w2.heap.size w2.heap.size _ (hx.one1 g1)) (Nat.le_refl _) zN fun v10 w10 hX10 hz10 hO10 => ?_))))))))))
  have hzs10:=hX10.size
  have hE10:=hE2.trans hX10
  have hN11 := hbl3.ext hX10
  refine e_appB (v := vo) (a := v10) (u := vx) u27 ti25 rfl rfl rfl hN11 oM hO10 ((hx.add (F := F4) g1 hN11.low).ext g1 hE10) sD z150_0 zN ?_
  rintro v12 w12 G12 hC12 hF12 ⟨us12,F12,hb12⟩
  have hzs12:=hC12.size
  have hE12 : Ext w w12 := hC12.below hE10 (fun c hc => hN11.low c (hF12 c hc)) hE10.size
  exact lw_tvn 1 rfl (wp_ret (post_ret [4] rfl v12 rfl ⟨v12,rfl,hE12,(by have h9 := (hb12.done hS); rw [List.take_of_length_le oM] at h9; exact h9),hb12.cap⟩))
theorem c_spec_l02Run_outs (w : World) (S : List Nat) (F : Nat) (g : Nat) (pp : Value) (dp n s0 : Nat) (c0 : Int) (p : List Fn) (dfx : Nat) (vf : Value) (fx : Fn) (va : Value) (env : List (List Int)) (hS : ∀ b ∈ S,b < w.heap.size) (hgS : g ∈ S) (hB0 : BX w.heap g [pp,.int .i64 ((n :Nat):Int),.int .i64 ((s0 :Nat):Int),.int .i64 c0]) (hp : RN S (rP (rPr dp)) w.heap pp p) (hn : 1 ≤ n ∧ n ≤ 13) (hs0 : s0 ≤ 3000) (hc0 : 0 ≤ c0 ∧ c0 ≤ 9) (hfx : RN S (rP (rFn dfx)) w.heap vf fx) (henv : RN S (rdL (rdL rI)) w.heap va env) (hqenv : CapS va) (hvp : VPr p) (hF : F ≤ p.length) (hwf : ∀ k,k < fx.outs.length → wf p ((F :Nat):Int) (fx.outs.getD k Ex.zero) ((env.length :Nat):Int) = true) (hse : SrE n env) (hdp : ∀ k,k < fx.outs.length → env.length + (fx.outs.getD k Ex.zero).deep ≤ 1000000) (hll : fx.outs.length ≤ 1000000) (IHv : ∀ d,SV F d) :
  Calls Tryz.prog 102 #[.pointer (some ⟨g,0,none⟩),vf,va] w (fun e w' => ∃ (v : Value) (x : List (List Int)) (s1 : Nat) (c1 : Int),e = .returned v ∧ Chg [g] w w' ∧ BX w'.heap g [pp,.int .i64 ((n :Nat):Int),.int .i64 ((s1 :Nat):Int),.int .i64 c1] ∧ RN S (rdL (rdL rI)) w'.heap v x ∧ (CapS v ∧ x.length = fx.outs.length ∧ SrE n x) ∧ s1 ≤ 3000 ∧ (0 ≤ c1 ∧ c1 ≤ 9) ∧ RelV (go c0 (evs n (evC p n F) fx.outs env s0)) x s1 c1) := by
 refine calls_mk [.pointer (some ⟨g,0,none⟩),vf,va] 32 Tryz.func102 rfl rfl sM ?_
 have hE0 : Chg [g] w w := Chg.refl [g] w
 have hl_va := henv.lenL
 unfold maxLen at hl_va
 have hgl := hB0.lt
 refine wp_seq (wp_plain _ [0] rfl (lw_tvn 1 rfl (wp_seq (wp_plain _ [3,0] rfl (r_nil rV good_rV u27 ti25 zN fun v1 w1 hX1 hz1 hO1 => ?_)))))
 have hzs1:=hX1.size
 have hE1 : Chg [g] w w1 := hE0.ext hX1
 have hB0x1 := hB0.ext hX1
 obtain ⟨us1,F1,hb1⟩ := Bld.nil (S := S) (hO1.low (B' := w.heap.size) (Nat.le_refl _))
 refine lw_tvn 1 rfl (wp_seq (wp_seq (wp_plain _ [0] rfl (lw_tvn 1 rfl (wp_block ?_)))))
 refine c_loop (S := Nat × Value × List (List Int) × Nat × Int) (fun (⟨k,vo,xs,s9,c9⟩ : Nat × Value × List (List Int) × Nat × Int) => ([(7,vo),(8,(.int .i64 ((k :Nat):Int))),(0,(.pointer (some ⟨g,0,none⟩))),(1,vf),(2,va)] : List (Nat × Value))) (fun (⟨k,vo,xs,s9,c9⟩ : Nat × Value × List (List Int) × Nat × Int) (W : World) => Chg [g] w W ∧ BX W.heap g [pp,.int .i64 ((n :Nat):Int),.int .i64 ((s9 :Nat):Int),.int .i64 c9] ∧ k ≤ fx.outs.length ∧ BldE 25 S w.heap.size W.heap vo xs ∧ xs.length = k ∧ SrE n xs ∧ s9 ≤ 3000 ∧ (0 ≤ c9 ∧ c9 ≤ 9) ∧ RelV (go c0 (evs n (evC p n F) (fx.outs.take k) env s0)) xs s9 c9) (fun (⟨k,vo,xs,s9,c9⟩ : Nat × Value × List (List Int) × Nat × Int) => fx.outs.length - k) (0,v1,([] : List (List Int)),s0,c0) ⟨rfl,rfl,rfl,rfl,rfl,trivial⟩ ⟨hE1,hB0x1,sD,(by exact ⟨_,_,by assumption⟩),(by rfl),(by intro j hj; simp at hj),oM,oM,(by exact all_start _ _ _ _ _ _)⟩ ?_
 clear hE0 hO1 hz1 hX1 hzs1 hE1
 rintro ⟨k,vo,xs,s9,c9⟩ ρ2 w2 ⟨hE2,hL2_0,hp2_0,hbld,hxl,hxs,hp2_4,hp2_5,hrl⟩
 have hzs2 : w.heap.size ≤ w2.heap.size := hE2.size
 have hq3 := hL2_0.lt
 obtain ⟨us5,F5,hbl4⟩ := hbld
 refine wp_seq (wp_seq (wp_plain _ [0,0,0,0,2,0,0] rfl (lw_tv 2 rfl (q_nilP (hfx.isPtr) rfl zN ?_))))
 obtain ⟨cs6,hr6,hl6⟩ := RN.at (good_rFn _) hfx
 obtain ⟨ve6,rfl,hx6⟩ := RF.of hr6
 have hln6 := hx6.rn.lenle
 unfold maxLen at hln6
 refine q_fldL (p := vf) 2 fd80_2 rfl (hl6 _ (hE2.sub (subS hgS))) zN (q_load (p := (padd vf 2)) (.inr rfl) ve6 one78 rfl ((hl6 _ (hE2.sub (subS hgS))).ld (i := 2) (by simp [exC,fnC])) zN (q_len (v := ve6) u78 rfl hx6.rn.isSl zN ?_))
 by_cases hc7 : ((k :Nat):Int) < ((fx.outs.length :Nat):Int)
 ·
  refine q_lss true rfl rfl (decide_eq_true hc7) zN (lw_nil (c_cond_t rfl (wp_skip (wp_seq (wp_block (wp_plain _ [0,0,0,0,0,2,0,0,0,4,3,4,0] rfl (lw_tv 3 rfl (q_nilP (hfx.isPtr) rfl zN (q_fldL (p := vf) 2 fd80_2 rfl (hl6 _ (hE2.sub (subS hgS))) zN (q_load (p := (padd vf 2)) (.inr rfl) ve6 one78 rfl ((hl6 _ (hE2.sub (subS hgS))).ld (i := 2) (by simp [exC,fnC])) zN (lw_tv 1 rfl ?_)))))))))))
  refine q_idx (v := ve6) k u78 tiS94 rfl rfl hx6.rn.isSl rfl sD zN (lw_tv 1 rfl ?_)
  refine lw_callE 134 [] [] [(.pointer (some ⟨g,0,none⟩)),(eptr ve6 k 5),va] rfl rfl cf134 zN (IHv dfx _ (S ++ F5) g pp dp (n) (s9) (c9) (p) (eptr ve6 k 5) (fx.outs.getD k Ex.zero) va (env) (fun b hb => (by rcases List.mem_append.1 hb with hb | hb; (have := hS b hb; omega); exact hbl4.lt b hb : b < w2.heap.size)) (List.mem_append_left _ hgS) hL2_0 ((hp.add (F := F5) (good_rP (good_rPr dp)) hbl4.low).chg (good_rP (good_rPr dp)) (hE2.sub (subA hgS))) oM oM oM (RN.ptr (good_rEx dfx) (by decide) Ex.zero ((hx6.rn.add (F := F5) (good_rdS (good_rEx dfx)) hbl4.low).chg (good_rdS (good_rEx dfx)) (hE2.sub (subA hgS))) sD) ((henv.add (F := F5) g2 hbl4.low).chg g2 (hE2.sub (subA hgS))) hqenv (by exact hvp) oM (by exact hwf k oM) (by exact hse) (by exact hdp k oM)) ?_
  rintro e8 w8 ⟨v8,x8,s8,c8,rfl,hC8,hB8,hr8,hse8,hsb8,hcb8,hrl8⟩
  refine ⟨_,rfl,?_⟩
  have hzs8:=hC8.size
  have hE8 : Chg [g] w w8 := hE2.trans hC8
  have hF12 := hbl4.run hgS oM hC8
  have hsn8 := hse8.1
  replace hr8 : RN (S ++ F5) (rdL rI) w8.heap v8 x8 := hr8
  refine r_one (u := v8) (B := w8.heap.size) good_rV u27 ti25 rfl rfl (frV w8.heap.size w8.heap.size _ (hr8.one1 g1)) (Nat.le_refl _) zN fun v14 w14 hX14 hz14 hO14 => ?_
  have hzs14:=hX14.size
  have hE14 : Chg [g] w w14 := hE8.ext hX14
  have hB8x14 := hB8.ext hX14
  have hN15 := hF12.ext hX14
  have hN16 := hr8.ext g1 hX14
  refine e_appB (v := vo) (a := v14) (u := v8) u27 ti25 rfl rfl rfl hN15 oM hO14 hN16 sD (by unfold maxLen; first | omega | assumption | (simp; done) | (simp; omega)) zN ?_
  rintro v17 w17 G17 hC17 hF17 ⟨us17,F17,hb17⟩
  have hzs17:=hC17.size
  have hE17 : Chg [g] w w17 := hE14.fresh hC17 (fun c hc => hN15.low c (hF17 c hc))
  have hF18 := hB8x14.chg hC17 (fun hm => by have := hN15.low _ (hF17 _ hm); have := hN15.lt _ (hF17 _ hm); omega)
  refine lw_tvn 1 rfl (wp_plain _ [0,0,0] rfl (lw_tv 1 rfl (q_add ((k + 1 :Nat):Int) rfl rfl (w64n oM sD) zN (lw_tvn 1 rfl ?_))))
  exact ⟨((k + 1),v17,(xs ++ [x8]),s8,c8),_,rfl,⟨rfl,rfl,rfl,rfl,rfl,trivial⟩,⟨hE17,hF18,sD,(by exact ⟨_,_,by assumption⟩),(by rw [List.length_append,List.length_singleton,hxl]),(by exact SrE.snoc hxs (by assumption)),oM,oM,(by exact rel_snoc oM hrl (by assumption))⟩,by first | omega | (dsimp only; omega)⟩
 ·
  exact q_lss false rfl rfl (decide_eq_false hc7) zN (lw_nil (c_cond_f rfl (wp_exit (t_exit (t_exit (c_exit_here (wp_seq (wp_plain _ [0,0] rfl (lw_tvn 2 rfl (wp_ret (post_ret [6] rfl vo rfl ⟨vo,xs,s9,c9,rfl,hE2,hL2_0,(hbl4.done hS),(by exact ⟨hbl4.cap,by omega,hxs⟩),oM,oM,(by rw [List.take_of_length_le oM] at hrl; exact hrl)⟩)))))))))))
theorem c_outs (F : Nat) (IH : ∀ d,SV F d) : SO F := by
 intro w S g pp dp n s0 c0 p dfx vf fx va env hS hgS hB0 hp hn hs0 hc0 hfx henv hqenv hvp hF hwf hse hdp hll
 exact c_spec_l02Run_outs w S F g pp dp n s0 c0 p dfx vf fx va env hS hgS hB0 hp hn hs0 hc0 hfx henv hqenv hvp hF hwf hse hdp hll IH
theorem z151_0 {p : Prop} (h : p := by first | exact rel_cone oM oM hKr (by assumption) | exact rel_clop oM oM hKr (by rw [show (ex.count).toNat = i from by omega]; exact hrl9)) : p := h
theorem z151_1 {p : Prop} (h : p := by simp [exC, fnC]) : p := h
theorem c_spec_l02Run_call (w : World) (S : List Nat) (F : Nat) (g : Nat) (pp : Value) (dp n s0 : Nat) (c0 : Int) (p : List Fn) (dex : Nat) (ve : Value) (ex : Ex) (vv : Value) (env : List (List Int)) (hS : ∀ b ∈ S,b < w.heap.size) (hgS : g ∈ S) (hB0 : BX w.heap g [pp,.int .i64 ((n :Nat):Int),.int .i64 ((s0 :Nat):Int),.int .i64 c0]) (hp : RN S (rP (rPr dp)) w.heap pp p) (hn : 1 ≤ n ∧ n ≤ 13) (hs0 : s0 ≤ 3000) (hc0 : 0 ≤ c0 ∧ c0 ≤ 9) (hex : RN S (rP (rEx dex)) w.heap ve ex) (henv : RN S (rdL (rdL rI)) w.heap vv env) (hqenv : CapS vv) (hvp : VPr p) (hF : F ≤ p.length) (hwf : wf p ((F :Nat):Int) ex ((env.length :Nat):Int) = true) (hse : SrE n env) (hdp : env.length + ex.deep ≤ 1000000) (hk : ex.kind = 10 ∨ ex.kind = 11) (IH1 : ∀ F',F' < F → ∀ d,SV F' d) (IH2 : ∀ d',d' < dex → SV F d') :
  Calls Tryz.prog 151 #[.pointer (some ⟨g,0,none⟩),ve,vv] w (fun e w' => ∃ (v : Value) (x : List Int) (s1 : Nat) (c1 : Int),e = .returned v ∧ Chg [g] w w' ∧ BX w'.heap g [pp,.int .i64 ((n :Nat):Int),.int .i64 ((s1 :Nat):Int),.int .i64 c1] ∧ RN S (rdL rI) w'.heap v x ∧ Ser1 n x ∧ s1 ≤ 3000 ∧ (0 ≤ c1 ∧ c1 ≤ 9) ∧ RelV (go c0 (callV n (evC p n F) ex env s0)) x s1 c1) := by
 refine calls_mk [.pointer (some ⟨g,0,none⟩),ve,vv] 81 Tryz.func151 rfl rfl sM ?_
 have hE0 : Chg [g] w w := Chg.refl [g] w
 have hl_vv := henv.lenL
 unfold maxLen at hl_vv
 have hgl := hB0.lt
 have hwk := wk_call hwf hk
 have hk9 : ex.kind ≠ 9 := by omega
 have hkH := hidI hk
 clear hk
 have hdk := deep_kids ex
 refine wp_seq (wp_plain _ [0] rfl (lw_tvn 1 rfl (wp_seq (wp_plain _ [3,0] rfl (r_nil rV good_rV u27 ti25 zN fun v1 w1 hX1 hz1 hO1 => ?_)))))
 have hzs1:=hX1.size
 have hE1 : Chg [g] w w1 := hE0.ext hX1
 have hB0x1 := hB0.ext hX1
 obtain ⟨us1,F1,hb1⟩ := Bld.nil (S := S) (hO1.low (B' := w.heap.size) (Nat.le_refl _))
 refine lw_tvn 1 rfl (wp_seq (wp_seq (wp_plain _ [0] rfl (lw_tvn 1 rfl (wp_block ?_)))))
 refine c_loop (S := Nat × Value × List (List Int) × Nat × Int) (fun (⟨k,vo,xs,s9,c9⟩ : Nat × Value × List (List Int) × Nat × Int) => ([(7,vo),(8,(.int .i64 ((k :Nat):Int))),(0,(.pointer (some ⟨g,0,none⟩))),(1,ve),(2,vv)] : List (Nat × Value))) (fun (⟨k,vo,xs,s9,c9⟩ : Nat × Value × List (List Int) × Nat × Int) (W : World) => Chg [g] w W ∧ BX W.heap g [pp,.int .i64 ((n :Nat):Int),.int .i64 ((s9 :Nat):Int),.int .i64 c9] ∧ k ≤ ex.kids.length ∧ BldE 25 S w.heap.size W.heap vo xs ∧ xs.length = k ∧ SrE n xs ∧ s9 ≤ 3000 ∧ (0 ≤ c9 ∧ c9 ≤ 9) ∧ RelV (go c0 (evs n (evC p n F) (ex.kids.take k) env s0)) xs s9 c9) (fun (⟨k,vo,xs,s9,c9⟩ : Nat × Value × List (List Int) × Nat × Int) => ex.kids.length - k) (0,v1,([] : List (List Int)),s0,c0) ⟨rfl,rfl,rfl,rfl,rfl,trivial⟩ ⟨hE1,hB0x1,sD,(by exact ⟨_,_,by assumption⟩),(by rfl),(by intro j hj; simp at hj),oM,oM,(by exact all_start _ _ _ _ _ _)⟩ ?_
 clear hE0 hO1 hz1 hX1 hzs1 hE1
 rintro ⟨k,vo,xs,s9,c9⟩ ρ2 w2 ⟨hE2,hL2_0,hp2_0,hbld,hxl,hxs,hp2_4,hp2_5,hrl⟩
 have hzs2 : w.heap.size ≤ w2.heap.size := hE2.size
 have hq3 := hL2_0.lt
 obtain ⟨us5,F5,hbl4⟩ := hbld
 refine wp_seq (wp_seq (wp_plain _ [0,0,0,0,2,0,0] rfl (lw_tv 2 rfl (q_nilP (hex.isPtr) rfl zN ?_))))
 obtain ⟨cs6,hr6,hl6⟩ := RN.at (good_rEx _) hex
 obtain ⟨dd6,ve6,hd6,rfl,hx6⟩ := RX.of hr6
 have hln6 := hx6.rn.lenle
 unfold maxLen at hln6
 refine q_fldL (p := ve) 4 fd94_4 rfl (hl6 _ (hE2.sub (subS hgS))) zN (q_load (p := (padd ve 4)) (.inr rfl) ve6 one78 rfl ((hl6 _ (hE2.sub (subS hgS))).ld (i := 4) z151_1) zN (q_len (v := ve6) u78 rfl hx6.rn.isSl zN ?_))
 by_cases hc7 : ((k :Nat):Int) < ((ex.kids.length :Nat):Int)
 ·
  refine q_lss true rfl rfl (decide_eq_true hc7) zN (lw_nil (c_cond_t rfl (wp_skip (wp_seq (wp_block (wp_plain _ [0,0,0,0,0,2,0,0,0,4,3,4,0] rfl ?_))))))
  have hvo := hvp.outs (ex.num).toNat oM
  have hvr := hvp.par (ex.num).toNat oM
  have hkd := kd_at (l := ex.kids) (k := k) oM
  have hkb : ex.kids.length ≤ 412 := by omega
  refine lw_tv 3 rfl (q_nilP (hex.isPtr) rfl zN (q_fldL (p := ve) 4 fd94_4 rfl (hl6 _ (hE2.sub (subS hgS))) zN (q_load (p := (padd ve 4)) (.inr rfl) ve6 one78 rfl ((hl6 _ (hE2.sub (subS hgS))).ld (i := 4) z151_1) zN (lw_tv 1 rfl (q_idx (v := ve6) k u78 tiS94 rfl rfl hx6.rn.isSl rfl sD zN (lw_tv 1 rfl ?_))))))
  refine lw_callE 134 [] [] [(.pointer (some ⟨g,0,none⟩)),(eptr ve6 k 5),vv] rfl rfl cf134 zN (IH2 dd6 oM _ (S ++ F5) g pp dp (n) (s9) (c9) (p) (eptr ve6 k 5) (ex.kids.getD k Ex.zero) vv (env) (fun b hb => (by rcases List.mem_append.1 hb with hb | hb; (have := hS b hb; omega); exact hbl4.lt b hb : b < w2.heap.size)) (List.mem_append_left _ hgS) hL2_0 ((hp.add (F := F5) (good_rP (good_rPr dp)) hbl4.low).chg (good_rP (good_rPr dp)) (hE2.sub (subA hgS))) oM oM oM (RN.ptr (good_rEx dd6) (by decide) Ex.zero ((hx6.rn.add (F := F5) (good_rdS (good_rEx dd6)) hbl4.low).chg (good_rdS (good_rEx dd6)) (hE2.sub (subA hgS))) sD) ((henv.add (F := F5) g2 hbl4.low).chg g2 (hE2.sub (subA hgS))) hqenv (by exact hvp) oM (by exact wf_at0 hwf oM oM) (by exact hse) oM) ?_
  rintro e8 w8 ⟨v8,x8,s8,c8,rfl,hC8,hB8,hr8,hse8,hsb8,hcb8,hrl8⟩
  refine ⟨_,rfl,?_⟩
  have hzs8:=hC8.size
  have hE8 : Chg [g] w w8 := hE2.trans hC8
  have hF12 := hbl4.run hgS oM hC8
  have hsn8 := hse8.1
  replace hr8 : RN (S ++ F5) (rdL rI) w8.heap v8 x8 := hr8
  refine r_one (u := v8) (B := w8.heap.size) good_rV u27 ti25 rfl rfl (frV w8.heap.size w8.heap.size _ (hr8.one1 g1)) (Nat.le_refl _) zN fun v14 w14 hX14 hz14 hO14 => ?_
  have hzs14:=hX14.size
  have hE14 : Chg [g] w w14 := hE8.ext hX14
  have hB8x14 := hB8.ext hX14
  have hN15 := hF12.ext hX14
  have hN16 := hr8.ext g1 hX14
  refine e_appB (v := vo) (a := v14) (u := v8) u27 ti25 rfl rfl rfl hN15 oM hO14 hN16 sD (by unfold maxLen; first | omega | assumption | (simp; done) | (simp; omega)) zN ?_
  rintro v17 w17 G17 hC17 hF17 ⟨us17,F17,hb17⟩
  have hzs17:=hC17.size
  have hE17 : Chg [g] w w17 := hE14.fresh hC17 (fun c hc => hN15.low c (hF17 c hc))
  have hF18 := hB8x14.chg hC17 (fun hm => by have := hN15.low _ (hF17 _ hm); have := hN15.lt _ (hF17 _ hm); omega)
  refine lw_tvn 1 rfl (wp_plain _ [0,0,0] rfl (lw_tv 1 rfl (q_add ((k + 1 :Nat):Int) rfl rfl (w64n oM sD) zN (lw_tvn 1 rfl ?_))))
  exact ⟨((k + 1),v17,(xs ++ [x8]),s8,c8),_,rfl,⟨rfl,rfl,rfl,rfl,rfl,trivial⟩,⟨hE17,hF18,sD,(by exact ⟨_,_,by assumption⟩),(by rw [List.length_append,List.length_singleton,hxl]),(by exact SrE.snoc hxs (by assumption)),oM,oM,(by exact rel_snoc oM hrl (by assumption))⟩,by first | omega | (dsimp only; omega)⟩
 ·
  refine q_lss false rfl rfl (decide_eq_false hc7) zN (lw_nil (c_cond_f rfl (wp_exit (t_exit (t_exit (c_exit_here (wp_seq (wp_draw _ [0,0,0,1,0,0,1,0,0,0,1,0,0] mixed (by kernel_rfl) ?_))))))))
  have hfn19 := hbl4.done hS
  have hfn19c := hbl4.cap
  have hvo := hvp.outs (ex.num).toNat oM
  have hvr := hvp.par (ex.num).toNat oM
  have hxk : xs.length = ex.kids.length := by omega
  have hKr : RelV (go c0 (evs n (evC p n F) ex.kids env s0)) xs s9 c9 := by rw [List.take_of_length_le oM] at hrl; exact hrl
  refine lw_tv 1 rfl (q_nil rfl zN (q_fldP (p := (.pointer (some ⟨g,0,none⟩))) (b := g) (o := 0) 0 fd123_0 rfl rfl zN (q_load (p := (padd (.pointer (some ⟨g,0,none⟩)) 0)) (.inl rfl) pp one61 rfl (hL2_0.ldp (i := 0) sM) zN (q_nilP (hp.isPtr) rfl zN ?_))))
  obtain ⟨cs20,hr20,hl20⟩ := RN.at (good_rPr _) hp
  obtain ⟨ve20,rfl,hx20⟩ := RPr.of hr20
  have hln20 := hx20.lenle
  unfold maxLen at hln20
  refine q_fldL (p := pp) 0 fd32_0 rfl (hl20 _ (hE2.drew.sub (subS hgS))) zN (q_load (p := (padd pp 0)) (.inl rfl) ve20 one30 rfl ((hl20 _ (hE2.drew.sub (subS hgS))).ld (i := 0) z151_1) zN (lw_tv 1 rfl (q_nilP (hex.isPtr) rfl zN (q_fldL (p := ve) 1 fd94_1 rfl (hl6 _ (hE2.drew.sub (subS hgS))) zN (q_load (p := (padd ve 1)) (.inl rfl) (.int .i64 ex.num) one2 rfl ((hl6 _ (hE2.drew.sub (subS hgS))).ld (i := 1) z151_1) zN ?_)))))
  refine q_idx (v := ve20) ((ex.num).toNat) u30 tiS80 rfl rfl hx20.isSl oM sD zN (lw_tvn 1 rfl (wp_seq (wp_seq (wp_plain _ [0,0,0,2,0] rfl (lw_tv 1 rfl (q_nilP (hex.isPtr) rfl zN (q_fldL (p := ve) 0 fd94_0 rfl (hl6 _ (hE2.drew.sub (subS hgS))) zN (q_load (p := (padd ve 0)) (.inr rfl) (.int .i64 ex.kind) one2 rfl ((hl6 _ (hE2.drew.sub (subS hgS))).ld (i := 0) z151_1) zN ?_))))))))
  by_cases hc21 : ex.kind = ((10 :Nat):Int)
  ·
   refine q_eql true rfl rfl (decide_eq_true hc21) zN (lw_nil (c_cond_t rfl (wp_seq (wp_draw _ [0,0,0,0,1,0,0,0,1,0,0,4,0] mixed (by kernel_rfl) (lw_tv 2 rfl ?_)))))
   have hvd := hvp.deep (ex.num).toNat oM (ex.pick).toNat oM
   refine q_nilP (RN.isPtr (RN.ptr (good_rFn dp) (by decide) Fn.zero hx20 sD)) rfl zN ?_
   obtain ⟨cs22,hr22,hl22⟩ := hx20.get (good_rFn dp) Fn.zero (k := ((ex.num).toNat)) sD
   obtain ⟨ve22,rfl,hx22⟩ := RF.of hr22
   have hln22 := hx22.rn.lenle
   unfold maxLen at hln22
   refine q_fldL (p := eptr ve20 ((ex.num).toNat) 3) 2 fd80_2 rfl (hl22 _ (hE2.drew.drew.sub (subS hgS))) zN (q_load (p := (padd (eptr ve20 ((ex.num).toNat) 3) 2)) (.inl rfl) ve22 one78 rfl ((hl22 _ (hE2.drew.drew.sub (subS hgS))).ld (i := 2) z151_1) zN (lw_tv 1 rfl (q_nilP (hex.isPtr) rfl zN (q_fldL (p := ve) 2 fd94_2 rfl (hl6 _ (hE2.drew.drew.sub (subS hgS))) zN (q_load (p := (padd ve 2)) (.inl rfl) (.int .i64 ex.pick) one2 rfl ((hl6 _ (hE2.drew.drew.sub (subS hgS))).ld (i := 2) z151_1) zN ?_)))))
   refine q_idx (v := ve22) ((ex.pick).toNat) u78 tiS94 rfl rfl hx22.rn.isSl oM sD zN (lw_tv 1 rfl ?_)
   refine lw_callE 134 [] [] [(.pointer (some ⟨g,0,none⟩)),(eptr ve22 ((ex.pick).toNat) 5),vo] rfl rfl cf134 zN (IH1 (ex.num).toNat oM dp _ S g pp dp (n) (s9) (c9) (p) (eptr ve22 ((ex.pick).toNat) 5) (((p.getD ((ex.num).toNat) Fn.zero).outs).getD ((ex.pick).toNat) Ex.zero) vo (xs) (fun b hb => (by have := hS b hb; omega : b < w2.heap.size)) hgS hL2_0 (hp.chg (good_rP (good_rPr dp)) (hE2.drew.drew.sub (subS hgS))) oM oM oM (RN.ptr (good_rEx dp) (by decide) Ex.zero (hx22.rn.chg (good_rdS (good_rEx dp)) (hE2.drew.drew.sub (subS hgS))) sD) hfn19 hfn19c (by exact hvp) oM (by have h9 := hvp.wf (ex.num).toNat oM (ex.pick).toNat oM; rw [show ((xs.length :Nat):Int) = (p.getD (ex.num).toNat Fn.zero).params from by omega]; exact h9) (by exact hxs) oM) ?_
   rintro e23 w23 ⟨v23,x23,s23,c23,rfl,hC23,hB23,hr23,hse23,hsb23,hcb23,hrl23⟩
   refine ⟨_,rfl,?_⟩
   replace hC23 := hC23.of_drew
   replace hC23 := hC23.of_drew
   have hzs23:=hC23.size
   have hE23 : Chg [g] w w23 := hE2.trans hC23
   have hF27 := hfn19.run g2 hgS hC23
   have hsn23 := hse23.1
   exact lw_tvn 1 rfl (wp_ret (t_ret (post_ret [6] rfl v23 rfl ⟨v23,x23,s23,c23,rfl,hE23,hB23,hr23,(by first | assumption | exact hks _ oM),oM,oM,z151_0⟩)))
  ·
   refine q_eql false rfl rfl (decide_eq_false hc21) zN (lw_nil (c_cond_f rfl (wp_skip (wp_seq (wp_seq (wp_plain _ [0] rfl ?_))))))
   have hk11 : ex.kind = 11 := by have h9 : ex.kind = 10 ∨ ex.kind = 11 := hkH; omega
   have hwl := wk_loop hwf hk11
   refine lw_tvn 1 rfl (wp_block ?_)
   refine c_loop (S := Nat × Value × List (List Int) × Nat × Int) (fun (⟨i,vk,ks,s8,c8⟩ : Nat × Value × List (List Int) × Nat × Int) => ([(7,vk),(10,(.int .i64 ((i :Nat):Int))),(0,(.pointer (some ⟨g,0,none⟩))),(1,ve),(9,(eptr ve20 ((ex.num).toNat) 3))] : List (Nat × Value))) (fun (⟨i,vk,ks,s8,c8⟩ : Nat × Value × List (List Int) × Nat × Int) (W : World) => Chg [g] w W ∧ BX W.heap g [pp,.int .i64 ((n :Nat):Int),.int .i64 ((s8 :Nat):Int),.int .i64 c8] ∧ i ≤ (ex.count).toNat ∧ RN S (rdL (rdL rI)) W.heap vk ks ∧ CapS vk ∧ ks.length = (p.getD (ex.num).toNat Fn.zero).outs.length ∧ SrE n ks ∧ s8 ≤ 3000 ∧ (0 ≤ c8 ∧ c8 ≤ 9) ∧ RelV (go c9 (lop (fun a t => evs n (evC p n (ex.num).toNat) (p.getD (ex.num).toNat Fn.zero).outs a t) i xs s9)) ks s8 c8) (fun (⟨i,vk,ks,s8,c8⟩ : Nat × Value × List (List Int) × Nat × Int) => (ex.count).toNat - i) (0,vo,xs,s9,c9) ⟨rfl,rfl,rfl,rfl,rfl,trivial⟩ ⟨hE2.drew,hL2_0,oM,(by assumption),(by assumption),oM,(by assumption),oM,oM,(by exact rel_lop0 rfl)⟩ ?_
   clear hL2_0 hE2 hzs2 hln6 hln20
   rintro ⟨i,vk,ks,s8,c8⟩ ρ31 w31 ⟨hE31,hL31_0,hp31_0,hrk,hck,hkl,hks,hp31_5,hp31_6,hrl9⟩
   have hzs31 : w.heap.size ≤ w31.heap.size := hE31.size
   have hq32 := hL31_0.lt
   refine wp_seq (wp_seq (wp_plain _ [0,0,0,0,2,0] rfl (lw_tv 2 rfl (q_nilP (hex.isPtr) rfl zN (q_fldL (p := ve) 3 fd94_3 rfl (hl6 _ (hE31.sub (subS hgS))) zN (q_load (p := (padd ve 3)) (.inr rfl) (.int .i64 ex.count) one2 rfl ((hl6 _ (hE31.sub (subS hgS))).ld (i := 3) z151_1) zN ?_))))))
   by_cases hc33 : ((i :Nat):Int) < ex.count
   ·
    refine q_lss true rfl rfl (decide_eq_true hc33) zN (lw_nil (c_cond_t rfl (wp_skip (wp_seq (wp_block (wp_plain _ [0,0,0,4,0] rfl (lw_tv 3 rfl ?_)))))))
    refine lw_callE 102 [] [] [(.pointer (some ⟨g,0,none⟩)),(eptr ve20 ((ex.num).toNat) 3),vk] rfl rfl cf102 zN (c_outs (ex.num).toNat (fun d9 => IH1 (ex.num).toNat oM d9) _ S g pp dp (n) (s8) (c8) (p) dp (eptr ve20 ((ex.num).toNat) 3) (p.getD ((ex.num).toNat) Fn.zero) vk (ks) (fun b hb => (by have := hS b hb; omega : b < w31.heap.size)) hgS hL31_0 (hp.chg (good_rP (good_rPr dp)) (hE31.sub (subS hgS))) oM oM oM (RN.ptr (good_rFn dp) (by decide) Fn.zero (hx20.chg (good_rdS (good_rFn dp)) (hE31.sub (subS hgS))) sD) hrk hck (by exact hvp) oM (by intro k9 hk9; have h9 := hvp.wf (ex.num).toNat oM k9 hk9; rw [show ((ks.length :Nat):Int) = (p.getD (ex.num).toNat Fn.zero).params from by omega]; exact h9) (by exact hks) (by intro k9 hk9; have := hvp.deep (ex.num).toNat oM k9 hk9; omega) oM) ?_
    rintro e34 w34 ⟨v34,x34,s34,c34,rfl,hC34,hB34,hr34,hse34,hsb34,hcb34,hrl34⟩
    refine ⟨_,rfl,?_⟩
    have hzs34:=hC34.size
    have hE34 : Chg [g] w w34 := hE31.trans hC34
    have hF40 := hrk.run g2 hgS hC34
    have hsn34 := hse34.2.1
    have hsr34 := hse34.2.2
    have hcp34 := hse34.1
    exact lw_tvn 1 rfl (wp_plain _ [0,0,0] rfl (lw_tv 1 rfl (q_add ((i + 1 :Nat):Int) rfl rfl (w64n oM oM) zN (lw_tvn 1 rfl ⟨((i + 1),v34,x34,s34,c34),_,rfl,⟨rfl,rfl,rfl,rfl,rfl,trivial⟩,⟨hE34,hB34,oM,(by assumption),(by assumption),oM,(by assumption),oM,oM,(by exact rel_lop' hrl9 (by assumption))⟩,by first | omega | (dsimp only; omega)⟩))))
   ·
    refine q_lss false rfl rfl (decide_eq_false hc33) zN (lw_nil (c_cond_f rfl (wp_exit (t_exit (t_exit (c_exit_here (wp_seq (wp_plain _ [0,0,0,0,2,0,2,0] rfl (lw_tv 2 rfl (q_nilP (hex.isPtr) rfl zN (q_fldL (p := ve) 2 fd94_2 rfl (hl6 _ (hE31.sub (subS hgS))) zN (q_load (p := (padd ve 2)) (.inr rfl) (.int .i64 ex.pick) one2 rfl ((hl6 _ (hE31.sub (subS hgS))).ld (i := 2) z151_1) zN ?_))))))))))))
    refine q_idx (v := vk) ((ex.pick).toNat) u27 ti25 rfl rfl hrk.slL oM sD zN ?_
    obtain ⟨ue41,hl41,hr41⟩ := RN.getL (w := w31) g1 [] (k := (ex.pick).toNat) hrk sD
    have hln41 := hr41.lenL
    unfold maxLen at hln41
    exact q_load (p := eptr vk ((ex.pick).toNat) 1) (.inr rfl) ue41 one25 rfl (hl41 _ (Chg.refl _ _)) zN (lw_tvn 1 rfl (wp_ret (post_ret [6] rfl ue41 rfl ⟨ue41,ks.getD ((ex.pick).toNat) [],s8,c8,rfl,hE31,hL31_0,hr41,(by first | assumption | exact hks _ oM),oM,oM,z151_0⟩)))
end Go.Proofs.YtnofbmdpabcjaaaGreat
namespace Go.Proofs.YtnofbmdpabcjaaaGreat
open Go Go.RowKit
set_option linter.unusedVariables false
set_option linter.unusedSimpArgs false
set_option maxHeartbeats 4000000
set_option maxRecDepth 100000
attribute [local irreducible] LW
theorem c_call (F d : Nat) (IH1 : ∀ F',F' < F → ∀ d,SV F' d) (IH2 : ∀ d',d' < d → SV F d') : SC F d := by
 intro w S g pp dp n s0 c0 p ve ex vv env hS hgS hB0 hp hn hs0 hc0 hex henv hqenv hvp hF hwf hse hdp hk
 exact c_spec_l02Run_call w S F g pp dp n s0 c0 p d ve ex vv env hS hgS hB0 hp hn hs0 hc0 hex henv hqenv hvp hF hwf hse hdp hk IH1 IH2
theorem z134_0 {p : Prop} (h : p := by first | exact rel_if0 hc00 hs1 oM oM ‹RelV (go c0 (evE _ _ (ex.kids.getD 0 _) _ _)) _ _ _› oM (by assumption) | exact rel_if1 hc00 hs1 oM oM ‹RelV (go c0 (evE _ _ (ex.kids.getD 0 _) _ _)) _ _ _› oM (by assumption)) : p := h
theorem z134_1 {p : Prop} (h : p := by have := kd_at (l := ex.kids) (k := 0) oM; omega) : p := h
theorem z134_2 {p : Prop} (h : p := by exact wf_at0 hwf oM oM) : p := h
theorem z134_3 {p : Prop} (h : p := by simp [exC, fnC]) : p := h
theorem c_spec_l02Run_expr (w : World) (S : List Nat) (F : Nat) (g : Nat) (pp : Value) (dp n s0 : Nat) (c0 : Int) (p : List Fn) (dex : Nat) (ve : Value) (ex : Ex) (vv : Value) (env : List (List Int)) (hS : ∀ b ∈ S,b < w.heap.size) (hgS : g ∈ S) (hB0 : BX w.heap g [pp,.int .i64 ((n :Nat):Int),.int .i64 ((s0 :Nat):Int),.int .i64 c0]) (hp : RN S (rP (rPr dp)) w.heap pp p) (hn : 1 ≤ n ∧ n ≤ 13) (hs0 : s0 ≤ 3000) (hc0 : 0 ≤ c0 ∧ c0 ≤ 9) (hex : RN S (rP (rEx dex)) w.heap ve ex) (henv : RN S (rdL (rdL rI)) w.heap vv env) (hqenv : CapS vv) (hvp : VPr p) (hF : F ≤ p.length) (hwf : wf p ((F :Nat):Int) ex ((env.length :Nat):Int) = true) (hse : SrE n env) (hdp : env.length + ex.deep ≤ 1000000) (IH1 : ∀ F',F' < F → ∀ d,SV F' d) (IH2 : ∀ d',d' < dex → SV F d') :
  Calls Tryz.prog 134 #[.pointer (some ⟨g,0,none⟩),ve,vv] w (fun e w' => ∃ (v : Value) (x : List Int) (s1 : Nat) (c1 : Int),e = .returned v ∧ Chg [g] w w' ∧ BX w'.heap g [pp,.int .i64 ((n :Nat):Int),.int .i64 ((s1 :Nat):Int),.int .i64 c1] ∧ RN S (rdL rI) w'.heap v x ∧ Ser1 n x ∧ s1 ≤ 3000 ∧ (0 ≤ c1 ∧ c1 ≤ 9) ∧ RelV (go c0 (evE n (evC p n F) ex env s0)) x s1 c1) := by
 refine calls_mk [.pointer (some ⟨g,0,none⟩),ve,vv] 186 Tryz.func134 rfl rfl sM ?_
 have hE0 : Chg [g] w w := Chg.refl [g] w
 have hl_vv := henv.lenL
 unfold maxLen at hl_vv
 have hgl := hB0.lt
 have hdk := deep_kids ex
 refine wp_seq (wp_plain _ [0] rfl (lw_tvn 1 rfl (wp_seq (wp_seq (wp_plain _ [0,0,0,2,0] rfl (lw_tv 1 rfl (q_nil rfl zN (q_fldP (p := (.pointer (some ⟨g,0,none⟩))) (b := g) (o := 0) 3 fd123_3 rfl rfl zN (q_load (p := (padd (.pointer (some ⟨g,0,none⟩)) 3)) (.inr rfl) (.int .i64 c0) one2 rfl (hB0.ldp (i := 3) sM) zN ?_)))))))))
 by_cases hc1 : c0 ≠ ((0 :Nat):Int)
 ·
  refine q_neq true rfl rfl (decide_eq_true hc1) zN (lw_nil (c_cond_t rfl (wp_seq (wp_plain _ [0,0,0,0,2,4,0] rfl (lw_tv 2 rfl (q_nil rfl zN (q_fldP (p := (.pointer (some ⟨g,0,none⟩))) (b := g) (o := 0) 3 fd123_3 rfl rfl zN (q_load (p := (padd (.pointer (some ⟨g,0,none⟩)) 3)) (.inr rfl) (.int .i64 c0) one2 rfl (hB0.ldp (i := 3) sM) zN (lw_callE 148 [] [] [(.pointer (some ⟨g,0,none⟩)),(.int .i64 c0)] rfl rfl cf148 zN (c_spec_l02Run_fail _ S g pp dp (n) (s0) (c0) (p) (c0) (fun b hb => (by have := hS b hb; omega : b < w.heap.size)) hgS hB0 (hp.chg (good_rP (good_rPr dp)) (hE0.sub (subS hgS))) oM oM oM oM oM) ?_)))))))))
  rintro e2 w2 ⟨v2,x2,s2,c2,rfl,hC2,hB2,hr2,hse2,hsb2,hcb2,hrl2⟩
  refine ⟨_,rfl,?_⟩
  have hzs2:=hC2.size
  have hE2 : Chg [g] w w2 := hE0.trans hC2
  have hsn2 := hse2.1
  have hfs := hrl2.1
  have hff := hrl2.2
  exact lw_tvn 1 rfl (wp_ret (t_ret (post_ret [6] rfl v2 rfl ⟨v2,x2,s2,c2,rfl,hE2,hB2,hr2,(by assumption),oM,oM,(by rw [hff,if_neg oM]; exact rel_code oM)⟩)))
 ·
  refine q_neq false rfl rfl (decide_eq_false hc1) zN (lw_nil (c_cond_f rfl (wp_skip (wp_seq (wp_seq (wp_plain _ [0,0,0,2,0] rfl (lw_tv 1 rfl (q_nil rfl zN (q_fldP (p := (.pointer (some ⟨g,0,none⟩))) (b := g) (o := 0) 2 fd123_2 rfl rfl zN (q_load (p := (padd (.pointer (some ⟨g,0,none⟩)) 2)) (.inr rfl) (.int .i64 ((s0 :Nat):Int)) one2 rfl (hB0.ldp (i := 2) sM) zN ?_))))))))))
  by_cases hc6 : ((s0 :Nat):Int) = ((3000 :Nat):Int)
  ·
   refine q_eql true rfl rfl (decide_eq_true hc6) zN (lw_nil (c_cond_t rfl (wp_seq (wp_plain _ [0,4,0] rfl (lw_tv 1 rfl (lw_callE 148 [] [] [(.pointer (some ⟨g,0,none⟩)),(.int .i64 ((7 :Nat):Int))] rfl rfl cf148 zN (c_spec_l02Run_fail _ S g pp dp (n) (s0) (c0) (p) (((7 :Nat):Int)) (fun b hb => (by have := hS b hb; omega : b < w.heap.size)) hgS hB0 (hp.chg (good_rP (good_rPr dp)) (hE0.sub (subS hgS))) oM oM oM oM oM) ?_))))))
   rintro e7 w7 ⟨v7,x7,s7,c7,rfl,hC7,hB7,hr7,hse7,hsb7,hcb7,hrl7⟩
   refine ⟨_,rfl,?_⟩
   have hzs7:=hC7.size
   have hE7 : Chg [g] w w7 := hE0.trans hC7
   have hsn7 := hse7.1
   have hfs := hrl7.1
   have hff := hrl7.2
   exact lw_tvn 1 rfl (wp_ret (t_ret (post_ret [6] rfl v7 rfl ⟨v7,x7,s7,c7,rfl,hE7,hB7,hr7,(by assumption),oM,oM,(by rw [hff,if_pos oM]; exact rel_budget oM oM)⟩)))
  ·
   refine q_eql false rfl rfl (decide_eq_false hc6) zN (lw_nil (c_cond_f rfl (wp_skip (wp_seq (wp_plain _ [0,0,0,2,0,0,0,4] rfl (lw_tv 1 rfl (q_nil rfl zN (q_fldP (p := (.pointer (some ⟨g,0,none⟩))) (b := g) (o := 0) 2 fd123_2 rfl rfl zN (q_load (p := (padd (.pointer (some ⟨g,0,none⟩)) 2)) (.inr rfl) (.int .i64 ((s0 :Nat):Int)) one2 rfl (hB0.ldp (i := 2) sM) zN (q_add ((s0 + 1 :Nat):Int) rfl rfl (w64n oM oM) zN (q_nil rfl zN (q_fldP (p := (.pointer (some ⟨g,0,none⟩))) (b := g) (o := 0) 2 fd123_2 rfl rfl zN (e_setB (k := 2) (w := w) sz2 rfl rfl ⟨rfl,rfl⟩ hB0 sM zN fun w11 hC11 hz11 hB11 => ?_)))))))))))))
   replace hB11 : BX w11.heap g [pp,(.int .i64 ((n :Nat):Int)),(.int .i64 ((s0 + 1 :Nat):Int)),(.int .i64 c0)] := hB11
   have hE11 : Chg [g] w w11 := hE0.trans hC11
   have hzs11:=hC11.size
   refine lw_nil (wp_seq (wp_seq (wp_plain _ [0,0,0,2] rfl ?_)))
   have hc00 : c0 = 0 := by omega
   have hs1 : s0 + 1 ≤ 3000 := by omega
   refine lw_tv 1 rfl (q_nilP (hex.isPtr) rfl zN ?_)
   obtain ⟨cs12,hr12,hl12⟩ := RN.at (good_rEx _) hex
   obtain ⟨dd12,ve12,hd12,rfl,hx12⟩ := RX.of hr12
   have hln12 := hx12.rn.lenle
   unfold maxLen at hln12
   refine q_fldL (p := ve) 0 fd94_0 rfl (hl12 _ (hE11.sub (subS hgS))) zN (q_load (p := (padd ve 0)) (.inr rfl) (.int .i64 ex.kind) one2 rfl ((hl12 _ (hE11.sub (subS hgS))).ld (i := 0) z134_3) zN (lw_nil (wp_block (wp_seq (wp_plain _ [0,0] rfl ?_)))))
   by_cases hc13 : ex.kind = ((1 :Nat):Int)
   ·
    refine q_eql true rfl rfl (decide_eq_true hc13) zN (lw_tvn 1 rfl (c_cond_t rfl (wp_seq (wp_draw _ [0,0,0,1,0,0,0,1,3,0] mixed (by kernel_rfl) ?_))))
    have hwk := wk_num hwf oM
    refine lw_tv 1 rfl (q_nilP (hex.isPtr) rfl zN (q_fldL (p := ve) 1 fd94_1 rfl (hl12 _ (hE11.drew.sub (subS hgS))) zN (q_load (p := (padd ve 1)) (.inl rfl) (.int .i64 ex.num) one2 rfl ((hl12 _ (hE11.drew.sub (subS hgS))).ld (i := 1) z134_3) zN (lw_tv 1 rfl (q_nil rfl zN (q_fldP (p := (.pointer (some ⟨g,0,none⟩))) (b := g) (o := 0) 1 fd123_1 rfl rfl zN (q_load (p := (padd (.pointer (some ⟨g,0,none⟩)) 1)) (.inl rfl) (.int .i64 ((n :Nat):Int)) one3 rfl (hB11.ldp (i := 1) sM) zN ?_)))))))
    refine lw_call 93 [] [] [(.int .i64 ex.num),(.int .i64 ((n :Nat):Int))] rfl rfl cf93 zN (c_spec_l01Const _ _ (n) hx12.rng.num sD oM) ?_
    rintro e14 w14 ⟨v14_0,rfl,hX14,hO14_0⟩
    refine ⟨_,rfl,hX14,?_⟩
    replace hX14 := hX14.of_drew
    have hzs14:=hX14.size
    have hE14 : Chg [g] w w14 := hE11.ext hX14
    have hB11x14 := hB11.ext hX14
    replace hO14_0 := hO14_0.low (B' := w11.heap.size) (Nat.le_refl _)
    exact lw_tvn 1 rfl (wp_ret (b_ret (t_ret (post_ret [6] rfl v14_0 rfl ⟨v14_0,cst n ex.num,s0 + 1,c0,rfl,hE14,hB11x14,(RN.of_fr1 hO14_0 (fun b hb => by have := hS b hb; omega)),(by exact cst_ser (isN_iff.2 oM)),oM,oM,(by exact rel_num hc00 hs1 oM)⟩))))
   ·
    refine q_eql false rfl rfl (decide_eq_false hc13) zN (lw_tvn 1 rfl (c_cond_f rfl (wp_seq (wp_plain _ [0,0] rfl ?_))))
    by_cases hc15 : ex.kind = ((2 :Nat):Int)
    ·
     refine q_eql true rfl rfl (decide_eq_true hc15) zN (lw_tvn 1 rfl (c_cond_t rfl (wp_seq (wp_plain _ [0,0,0,0,2,0,2,0] rfl ?_))))
     have hwk := wk_var hwf oM
     refine lw_tv 2 rfl (q_nilP (hex.isPtr) rfl zN (q_fldL (p := ve) 1 fd94_1 rfl (hl12 _ (hE11.sub (subS hgS))) zN (q_load (p := (padd ve 1)) (.inr rfl) (.int .i64 ex.num) one2 rfl ((hl12 _ (hE11.sub (subS hgS))).ld (i := 1) z134_3) zN (q_idx (v := vv) ((ex.num).toNat) u27 ti25 rfl rfl henv.slL oM sD zN ?_))))
     obtain ⟨ue16,hl16,hr16⟩ := RN.getL (w := w) g1 [] (k := (ex.num).toNat) henv sD
     have hln16 := hr16.lenL
     unfold maxLen at hln16
     exact q_load (p := eptr vv ((ex.num).toNat) 1) (.inr rfl) ue16 one25 rfl (hl16 _ (hE11.sub (subS hgS))) zN (lw_tvn 1 rfl (wp_ret (b_ret (t_ret (post_ret [6] rfl ue16 rfl ⟨ue16,env.getD ((ex.num).toNat) [],s0 + 1,c0,rfl,hE11,hB11,(hr16.chg g1 (hE11.sub (subS hgS))),(by exact hse _ oM),oM,oM,(by exact rel_var hc00 hs1 oM)⟩)))))
    ·
     refine q_eql false rfl rfl (decide_eq_false hc15) zN (lw_tvn 1 rfl (c_cond_f rfl (wp_seq (wp_plain _ [0,0] rfl ?_))))
     by_cases hc17 : ex.kind = ((7 :Nat):Int)
     ·
      refine q_eql true rfl rfl (decide_eq_true hc17) zN (lw_tvn 1 rfl (c_cond_t rfl (wp_seq (wp_plain _ [0,0,0,0,2,0,0,4,3,0] rfl ?_))))
      have hwk := wk_neg hwf oM
      refine lw_tv 2 rfl (q_nilP (hex.isPtr) rfl zN (q_fldL (p := ve) 4 fd94_4 rfl (hl12 _ (hE11.sub (subS hgS))) zN (q_load (p := (padd ve 4)) (.inr rfl) ve12 one78 rfl ((hl12 _ (hE11.sub (subS hgS))).ld (i := 4) z134_3) zN (q_idx (v := ve12) 0 u78 tiS94 rfl rfl hx12.rn.isSl rfl sD zN (lw_tv 1 rfl ?_)))))
      refine lw_callE 134 [] [] [(.pointer (some ⟨g,0,none⟩)),(eptr ve12 0 5),vv] rfl rfl cf134 zN (IH2 dd12 oM _ S g pp dp (n) (s0 + 1) (c0) (p) (eptr ve12 0 5) (ex.kids.getD 0 Ex.zero) vv (env) (fun b hb => (by have := hS b hb; omega : b < w11.heap.size)) hgS hB11 (hp.chg (good_rP (good_rPr dp)) (hE11.sub (subS hgS))) oM oM oM (RN.ptr (good_rEx dd12) (by decide) Ex.zero (hx12.rn.chg (good_rdS (good_rEx dd12)) (hE11.sub (subS hgS))) sD) (henv.chg g2 (hE11.sub (subS hgS))) hqenv (by exact hvp) oM z134_2 (by exact hse) z134_1) ?_
      rintro e18 w18 ⟨v18,x18,s18,c18,rfl,hC18,hB18,hr18,hse18,hsb18,hcb18,hrl18⟩
      refine ⟨_,rfl,?_⟩
      have hzs18:=hC18.size
      have hE18 : Chg [g] w w18 := hE11.trans hC18
      have hsn18 := hse18.1
      refine lw_call 149 [] [] [v18,(.int .i64 ((1000002 :Nat):Int))] rfl rfl cf149 zN (c_spec_l01Scale _ _ _ _ (hr18).rd oM oM) ?_
      rintro e23 w23 ⟨v23_0,rfl,hX23,hO23_0⟩
      refine ⟨_,rfl,hX23,?_⟩
      have hzs23:=hX23.size
      have hE23 : Chg [g] w w23 := hE18.ext hX23
      have hB18x23 := hB18.ext hX23
      have hN24 := hr18.ext g1 hX23
      exact lw_tvn 1 rfl (wp_ret (b_ret (t_ret (post_ret [6] rfl v23_0 rfl ⟨v23_0,scl x18 ((1000002 :Nat):Int),s18,c18,rfl,hE23,hB18x23,(RN.of_fr1 hO23_0 (fun b hb => by have := hS b hb; omega)),(by rw [scl_eq]; exact sclS_ser (by assumption)),oM,oM,(by exact rel_ops hc00 hs1 oM (rel_k1 oM ‹RelV (go c0 (evE _ _ (ex.kids.getD 0 _) _ _)) _ _ _›) (fun h0 => by rw [h0,scl_eq]; exact op_neg oM) (fun _ => rfl))⟩))))
     ·
      refine q_eql false rfl rfl (decide_eq_false hc17) zN (lw_tvn 1 rfl (c_cond_f rfl (wp_seq (wp_plain _ [0,0] rfl ?_))))
      by_cases hc25 : ex.kind = ((8 :Nat):Int)
      ·
       refine q_eql true rfl rfl (decide_eq_true hc25) zN (lw_tvn 1 rfl (c_cond_t rfl (wp_seq (wp_seq (wp_plain _ [0,0,0,0,2,0,0,4,0,2,0] rfl ?_)))))
       have hwk := wk_if hwf oM
       refine lw_tv 2 rfl (q_nilP (hex.isPtr) rfl zN (q_fldL (p := ve) 4 fd94_4 rfl (hl12 _ (hE11.sub (subS hgS))) zN (q_load (p := (padd ve 4)) (.inr rfl) ve12 one78 rfl ((hl12 _ (hE11.sub (subS hgS))).ld (i := 4) z134_3) zN (q_idx (v := ve12) 0 u78 tiS94 rfl rfl hx12.rn.isSl rfl sD zN (lw_tv 1 rfl ?_)))))
       refine lw_callE 134 [] [] [(.pointer (some ⟨g,0,none⟩)),(eptr ve12 0 5),vv] rfl rfl cf134 zN (IH2 dd12 oM _ S g pp dp (n) (s0 + 1) (c0) (p) (eptr ve12 0 5) (ex.kids.getD 0 Ex.zero) vv (env) (fun b hb => (by have := hS b hb; omega : b < w11.heap.size)) hgS hB11 (hp.chg (good_rP (good_rPr dp)) (hE11.sub (subS hgS))) oM oM oM (RN.ptr (good_rEx dd12) (by decide) Ex.zero (hx12.rn.chg (good_rdS (good_rEx dd12)) (hE11.sub (subS hgS))) sD) (henv.chg g2 (hE11.sub (subS hgS))) hqenv (by exact hvp) oM z134_2 (by exact hse) z134_1) ?_
       rintro e26 w26 ⟨v26,x26,s26,c26,rfl,hC26,hB26,hr26,hse26,hsb26,hcb26,hrl26⟩
       refine ⟨_,rfl,?_⟩
       have hzs26:=hC26.size
       have hE26 : Chg [g] w w26 := hE11.trans hC26
       have hsn26 := hse26.1
       refine q_idx (v := v26) 0 u25 ti2 rfl rfl hr26.slL rfl sD zN ?_
       have hg31 := RN.getI (w := w26) (k := 0) hr26 sD
       refine q_load (p := eptr v26 0 1) (.inr rfl) (.int .i64 (x26.getD 0 0)) one2 rfl (hg31.1 _ (Chg.refl _ _)) zN ?_
       by_cases hc32 : x26.getD 0 0 = ((0 :Nat):Int)
       ·
        refine q_eql true rfl rfl (decide_eq_true hc32) zN (lw_nil (c_cond_t rfl (wp_seq (wp_plain _ [0,0,0,0,2,0,0,4,0] rfl (lw_tv 2 rfl (q_nilP (hex.isPtr) rfl zN (q_fldL (p := ve) 4 fd94_4 rfl (hl12 _ (hE26.sub (subS hgS))) zN (q_load (p := (padd ve 4)) (.inr rfl) ve12 one78 rfl ((hl12 _ (hE26.sub (subS hgS))).ld (i := 4) z134_3) zN (q_idx (v := ve12) 1 u78 tiS94 rfl rfl hx12.rn.isSl rfl sD zN ?_)))))))))
        refine lw_tv 1 rfl ?_
        refine lw_callE 134 [] [] [(.pointer (some ⟨g,0,none⟩)),(eptr ve12 1 5),vv] rfl rfl cf134 zN (IH2 dd12 oM _ S g pp dp (n) (s26) (c26) (p) (eptr ve12 1 5) (ex.kids.getD 1 Ex.zero) vv (env) (fun b hb => (by have := hS b hb; omega : b < w26.heap.size)) hgS hB26 (hp.chg (good_rP (good_rPr dp)) (hE26.sub (subS hgS))) oM oM oM (RN.ptr (good_rEx dd12) (by decide) Ex.zero (hx12.rn.chg (good_rdS (good_rEx dd12)) (hE26.sub (subS hgS))) sD) (henv.chg g2 (hE26.sub (subS hgS))) hqenv (by exact hvp) oM z134_2 (by exact hse) (by have := kd_at (l := ex.kids) (k := 1) oM; omega)) ?_
        rintro e33 w33 ⟨v33,x33,s33,c33,rfl,hC33,hB33,hr33,hse33,hsb33,hcb33,hrl33⟩
        refine ⟨_,rfl,?_⟩
        have hzs33:=hC33.size
        have hE33 : Chg [g] w w33 := hE26.trans hC33
        have hF38 := hr26.run g1 hgS hC33
        have hsn33 := hse33.1
        exact lw_tvn 1 rfl (wp_ret (t_ret (b_ret (t_ret (post_ret [6] rfl v33 rfl ⟨v33,x33,s33,c33,rfl,hE33,hB33,hr33,(by assumption),oM,oM,z134_0⟩)))))
       ·
        refine q_eql false rfl rfl (decide_eq_false hc32) zN (lw_nil (c_cond_f rfl (wp_skip (wp_seq (wp_plain _ [0,0,0,0,2,0,0,4,0] rfl (lw_tv 2 rfl (q_nilP (hex.isPtr) rfl zN (q_fldL (p := ve) 4 fd94_4 rfl (hl12 _ (hE26.sub (subS hgS))) zN (q_load (p := (padd ve 4)) (.inr rfl) ve12 one78 rfl ((hl12 _ (hE26.sub (subS hgS))).ld (i := 4) z134_3) zN ?_)))))))))
        refine q_idx (v := ve12) 2 u78 tiS94 rfl rfl hx12.rn.isSl rfl sD zN (lw_tv 1 rfl ?_)
        refine lw_callE 134 [] [] [(.pointer (some ⟨g,0,none⟩)),(eptr ve12 2 5),vv] rfl rfl cf134 zN (IH2 dd12 oM _ S g pp dp (n) (s26) (c26) (p) (eptr ve12 2 5) (ex.kids.getD 2 Ex.zero) vv (env) (fun b hb => (by have := hS b hb; omega : b < w26.heap.size)) hgS hB26 (hp.chg (good_rP (good_rPr dp)) (hE26.sub (subS hgS))) oM oM oM (RN.ptr (good_rEx dd12) (by decide) Ex.zero (hx12.rn.chg (good_rdS (good_rEx dd12)) (hE26.sub (subS hgS))) sD) (henv.chg g2 (hE26.sub (subS hgS))) hqenv (by exact hvp) oM z134_2 (by exact hse) (by have := kd_at (l := ex.kids) (k := 2) oM; omega)) ?_
        rintro e39 w39 ⟨v39,x39,s39,c39,rfl,hC39,hB39,hr39,hse39,hsb39,hcb39,hrl39⟩
        refine ⟨_,rfl,?_⟩
        have hzs39:=hC39.size
        have hE39 : Chg [g] w w39 := hE26.trans hC39
        have hF44 := hr26.run g1 hgS hC39
        have hsn39 := hse39.1
        exact lw_tvn 1 rfl (wp_ret (b_ret (t_ret (post_ret [6] rfl v39 rfl ⟨v39,x39,s39,c39,rfl,hE39,hB39,hr39,(by assumption),oM,oM,z134_0⟩))))
      ·
       refine q_eql false rfl rfl (decide_eq_false hc25) zN (lw_tvn 1 rfl (c_cond_f rfl (wp_seq (wp_plain _ [0,0] rfl ?_))))
       by_cases hc45 : ex.kind = ((9 :Nat):Int)
       ·
        refine q_eql true rfl rfl (decide_eq_true hc45) zN (lw_tvn 1 rfl (c_cond_t rfl (wp_seq (wp_plain _ [0,0,0,0,2,0,0,4,0] rfl ?_))))
        have hwk := wk_let hwf oM
        refine lw_tv 2 rfl (q_nilP (hex.isPtr) rfl zN (q_fldL (p := ve) 4 fd94_4 rfl (hl12 _ (hE11.sub (subS hgS))) zN (q_load (p := (padd ve 4)) (.inr rfl) ve12 one78 rfl ((hl12 _ (hE11.sub (subS hgS))).ld (i := 4) z134_3) zN (q_idx (v := ve12) 0 u78 tiS94 rfl rfl hx12.rn.isSl rfl sD zN (lw_tv 1 rfl ?_)))))
        refine lw_callE 134 [] [] [(.pointer (some ⟨g,0,none⟩)),(eptr ve12 0 5),vv] rfl rfl cf134 zN (IH2 dd12 oM _ S g pp dp (n) (s0 + 1) (c0) (p) (eptr ve12 0 5) (ex.kids.getD 0 Ex.zero) vv (env) (fun b hb => (by have := hS b hb; omega : b < w11.heap.size)) hgS hB11 (hp.chg (good_rP (good_rPr dp)) (hE11.sub (subS hgS))) oM oM oM (RN.ptr (good_rEx dd12) (by decide) Ex.zero (hx12.rn.chg (good_rdS (good_rEx dd12)) (hE11.sub (subS hgS))) sD) (henv.chg g2 (hE11.sub (subS hgS))) hqenv (by exact hvp) oM z134_2 (by exact hse) z134_1) ?_
        rintro e46 w46 ⟨v46,x46,s46,c46,rfl,hC46,hB46,hr46,hse46,hsb46,hcb46,hrl46⟩
        refine ⟨_,rfl,?_⟩
        have hzs46:=hC46.size
        have hE46 : Chg [g] w w46 := hE11.trans hC46
        have hsn46 := hse46.1
        refine lw_tvn 1 rfl (wp_seq (wp_draw _ [0,0,0,0,1,0,0,0,3,4,0] mixed (by kernel_rfl) (lw_tv 2 rfl (q_nilP (hex.isPtr) rfl zN (q_fldL (p := ve) 4 fd94_4 rfl (hl12 _ (hE46.drew.sub (subS hgS))) zN (q_load (p := (padd ve 4)) (.inl rfl) ve12 one78 rfl ((hl12 _ (hE46.drew.sub (subS hgS))).ld (i := 4) z134_3) zN (q_idx (v := ve12) 1 u78 tiS94 rfl rfl hx12.rn.isSl rfl sD zN (lw_tv 2 rfl ?_))))))))
        refine lw_call 150 [] [] [vv,v46] rfl rfl cf150 zN (c_spec_l02Env _ S vv (env) v46 (x46) (fun b hb => (by have := hS b hb; omega : b < w46.heap.size)) (henv.chg g2 (hE46.drew.sub (subS hgS))) hqenv hr46 oM) ?_
        rintro e51 w51 ⟨v51,rfl,hX51,hr51,hcp51⟩
        refine ⟨_,rfl,hX51,?_⟩
        replace hX51 := hX51.of_drew
        have hzs51:=hX51.size
        have hE51 : Chg [g] w w51 := hE46.ext hX51
        have hB46x51 := hB46.ext hX51
        have hN52 := hr46.ext g1 hX51
        refine lw_callE 134 [] [] [(.pointer (some ⟨g,0,none⟩)),(eptr ve12 1 5),v51] rfl rfl cf134 zN (IH2 dd12 oM _ S g pp dp (n) (s46) (c46) (p) (eptr ve12 1 5) (ex.kids.getD 1 Ex.zero) v51 (env ++ [x46]) (fun b hb => (by have := hS b hb; omega : b < w51.heap.size)) hgS hB46x51 (hp.chg (good_rP (good_rPr dp)) (hE51.sub (subS hgS))) oM oM oM (RN.ptr (good_rEx dd12) (by decide) Ex.zero (hx12.rn.chg (good_rdS (good_rEx dd12)) (hE51.sub (subS hgS))) sD) hr51 hcp51 (by exact hvp) oM (by have h9 := wf_at1 hwf oM oM; rw [List.length_append,List.length_singleton]; exact h9) (by exact hse.snoc (by assumption)) (by have := kd_at (l := ex.kids) (k := 1) oM; rw [List.length_append,List.length_singleton]; omega)) ?_
        rintro e53 w53 ⟨v53,x53,s53,c53,rfl,hC53,hB53,hr53,hse53,hsb53,hcb53,hrl53⟩
        refine ⟨_,rfl,?_⟩
        have hzs53:=hC53.size
        have hE53 : Chg [g] w w53 := hE51.trans hC53
        have hF58 := hN52.run g1 hgS hC53
        have hF59 := hr51.run g2 hgS hC53
        have hsn53 := hse53.1
        exact lw_tvn 1 rfl (wp_ret (b_ret (t_ret (post_ret [6] rfl v53 rfl ⟨v53,x53,s53,c53,rfl,hE53,hB53,hr53,(by assumption),oM,oM,(by exact rel_let hc00 hs1 oM oM ‹RelV (go c0 (evE _ _ (ex.kids.getD 0 _) _ _)) _ _ _› (by assumption))⟩))))
       ·
        refine q_eql false rfl rfl (decide_eq_false hc45) zN (lw_tvn 1 rfl (c_cond_f rfl (wp_seq (wp_seq (wp_plain _ [0,0] rfl ?_)))))
        by_cases hc60 : ex.kind = ((10 :Nat):Int)
        ·
         refine q_eql true rfl rfl (decide_eq_true hc60) zN (lw_tvn 1 rfl (c_cond_t rfl (wp_skip (c_cond_t rfl (wp_seq (wp_plain _ [0,0,0,4,0] rfl (lw_tv 3 rfl (lw_callE 151 [] [] [(.pointer (some ⟨g,0,none⟩)),ve,vv] rfl rfl cf151 zN (c_call F dex IH1 IH2 _ S g pp dp (n) (s0 + 1) (c0) (p) ve (ex) vv (env) (fun b hb => (by have := hS b hb; omega : b < w11.heap.size)) hgS hB11 (hp.chg (good_rP (good_rPr dp)) (hE11.sub (subS hgS))) oM oM oM (hex.chg (good_rP (good_rEx dex)) (hE11.sub (subS hgS))) (henv.chg g2 (hE11.sub (subS hgS))) hqenv (by exact hvp) oM (by exact hwf) (by exact hse) oM oM) ?_))))))))
         rintro e61 w61 ⟨v61,x61,s61,c61,rfl,hC61,hB61,hr61,hse61,hsb61,hcb61,hrl61⟩
         refine ⟨_,rfl,?_⟩
         have hzs61:=hC61.size
         have hE61 : Chg [g] w w61 := hE11.trans hC61
         have hsn61 := hse61.1
         exact lw_tvn 1 rfl (wp_ret (b_ret (t_ret (post_ret [6] rfl v61 rfl ⟨v61,x61,s61,c61,rfl,hE61,hB61,hr61,(by assumption),oM,oM,(by exact rel_callV hc00 hs1 oM (by assumption))⟩))))
        ·
         refine q_eql false rfl rfl (decide_eq_false hc60) zN (lw_tvn 1 rfl (c_cond_f rfl (wp_plain _ [0,0] rfl ?_)))
         by_cases hc66 : ex.kind = ((11 :Nat):Int)
         ·
          refine q_eql true rfl rfl (decide_eq_true hc66) zN (lw_tvn 1 rfl (c_cond_t rfl (wp_seq (wp_plain _ [0,0,0,4,0] rfl (lw_tv 3 rfl (lw_callE 151 [] [] [(.pointer (some ⟨g,0,none⟩)),ve,vv] rfl rfl cf151 zN (c_call F dex IH1 IH2 _ S g pp dp (n) (s0 + 1) (c0) (p) ve (ex) vv (env) (fun b hb => (by have := hS b hb; omega : b < w11.heap.size)) hgS hB11 (hp.chg (good_rP (good_rPr dp)) (hE11.sub (subS hgS))) oM oM oM (hex.chg (good_rP (good_rEx dex)) (hE11.sub (subS hgS))) (henv.chg g2 (hE11.sub (subS hgS))) hqenv (by exact hvp) oM (by exact hwf) (by exact hse) oM oM) ?_))))))
          rintro e67 w67 ⟨v67,x67,s67,c67,rfl,hC67,hB67,hr67,hse67,hsb67,hcb67,hrl67⟩
          refine ⟨_,rfl,?_⟩
          have hzs67:=hC67.size
          have hE67 : Chg [g] w w67 := hE11.trans hC67
          have hsn67 := hse67.1
          exact lw_tvn 1 rfl (wp_ret (b_ret (t_ret (post_ret [6] rfl v67 rfl ⟨v67,x67,s67,c67,rfl,hE67,hB67,hr67,(by assumption),oM,oM,(by exact rel_callV hc00 hs1 oM (by assumption))⟩))))
         ·
          refine q_eql false rfl rfl (decide_eq_false hc66) zN (lw_tvn 1 rfl (c_cond_f rfl (wp_skip (wp_seq (wp_plain _ [0,0,0,0,2,0,0,4,0] rfl ?_)))))
          have hkk : ex.kind = 3 ∨ ex.kind = 4 ∨ ex.kind = 5 ∨ ex.kind = 6 := wk_bin hwf oM
          have hk2 : ex.kids.length = 2 := wk_op2 hwf hkk
          have hd0 := kd_at (l := ex.kids) (k := 0) oM
          have hd1 := kd_at (l := ex.kids) (k := 1) oM
          refine lw_tv 2 rfl (q_nilP (hex.isPtr) rfl zN (q_fldL (p := ve) 4 fd94_4 rfl (hl12 _ (hE11.sub (subS hgS))) zN (q_load (p := (padd ve 4)) (.inr rfl) ve12 one78 rfl ((hl12 _ (hE11.sub (subS hgS))).ld (i := 4) z134_3) zN (q_idx (v := ve12) 0 u78 tiS94 rfl rfl hx12.rn.isSl rfl sD zN (lw_tv 1 rfl ?_)))))
          refine lw_callE 134 [] [] [(.pointer (some ⟨g,0,none⟩)),(eptr ve12 0 5),vv] rfl rfl cf134 zN (IH2 dd12 oM _ S g pp dp (n) (s0 + 1) (c0) (p) (eptr ve12 0 5) (ex.kids.getD 0 Ex.zero) vv (env) (fun b hb => (by have := hS b hb; omega : b < w11.heap.size)) hgS hB11 (hp.chg (good_rP (good_rPr dp)) (hE11.sub (subS hgS))) oM oM oM (RN.ptr (good_rEx dd12) (by decide) Ex.zero (hx12.rn.chg (good_rdS (good_rEx dd12)) (hE11.sub (subS hgS))) sD) (henv.chg g2 (hE11.sub (subS hgS))) hqenv (by exact hvp) oM z134_2 (by exact hse) z134_1) ?_
          rintro e72 w72 ⟨v72,x72,s72,c72,rfl,hC72,hB72,hr72,hse72,hsb72,hcb72,hrl72⟩
          refine ⟨_,rfl,?_⟩
          have hzs72:=hC72.size
          have hE72 : Chg [g] w w72 := hE11.trans hC72
          have hsn72 := hse72.1
          have hra := hrl72
          have ha1 := hse72
          refine lw_tvn 1 rfl (wp_seq (wp_plain _ [0,0,0,0,2,0,0,4,0] rfl (lw_tv 2 rfl (q_nilP (hex.isPtr) rfl zN (q_fldL (p := ve) 4 fd94_4 rfl (hl12 _ (hE72.sub (subS hgS))) zN (q_load (p := (padd ve 4)) (.inr rfl) ve12 one78 rfl ((hl12 _ (hE72.sub (subS hgS))).ld (i := 4) z134_3) zN (q_idx (v := ve12) 1 u78 tiS94 rfl rfl hx12.rn.isSl rfl sD zN (lw_tv 1 rfl ?_))))))))
          refine lw_callE 134 [] [] [(.pointer (some ⟨g,0,none⟩)),(eptr ve12 1 5),vv] rfl rfl cf134 zN (IH2 dd12 oM _ S g pp dp (n) (s72) (c72) (p) (eptr ve12 1 5) (ex.kids.getD 1 Ex.zero) vv (env) (fun b hb => (by have := hS b hb; omega : b < w72.heap.size)) hgS hB72 (hp.chg (good_rP (good_rPr dp)) (hE72.sub (subS hgS))) oM oM oM (RN.ptr (good_rEx dd12) (by decide) Ex.zero (hx12.rn.chg (good_rdS (good_rEx dd12)) (hE72.sub (subS hgS))) sD) (henv.chg g2 (hE72.sub (subS hgS))) hqenv (by exact hvp) oM z134_2 (by exact hse) (by have := kd_at (l := ex.kids) (k := 1) oM; omega)) ?_
          rintro e77 w77 ⟨v77,x77,s77,c77,rfl,hC77,hB77,hr77,hse77,hsb77,hcb77,hrl77⟩
          refine ⟨_,rfl,?_⟩
          have hzs77:=hC77.size
          have hE77 : Chg [g] w w77 := hE72.trans hC77
          have hF82 := hr72.run g1 hgS hC77
          have hsn77 := hse77.1
          have hrb := hrl77
          have hb1 := hse77
          have hlb := hsn77
          have hzz : x77.getD 0 0 = 0 ∨ ¬ x77.getD 0 0 = 0 := Decidable.em _
          refine lw_tvn 1 rfl (wp_seq (wp_block (wp_seq (wp_plain _ [0,0,0,2,0,0] rfl (lw_tv 1 rfl (q_nilP (hex.isPtr) rfl zN (q_fldL (p := ve) 0 fd94_0 rfl (hl12 _ (hE77.sub (subS hgS))) zN (q_load (p := (padd ve 0)) (.inr rfl) (.int .i64 ex.kind) one2 rfl ((hl12 _ (hE77.sub (subS hgS))).ld (i := 0) z134_3) zN ?_))))))))
          by_cases hc83 : ex.kind = ((3 :Nat):Int)
          ·
           refine q_eql true rfl rfl (decide_eq_true hc83) zN (lw_tvn 1 rfl (c_cond_t rfl (wp_seq (wp_plain _ [0,0,3,0] rfl (lw_tv 2 rfl (lw_call 152 [] [] [v72,v77] rfl rfl cf152 zN (c_spec_l01Add _ _ _ _ _ (hF82).rd (hr77).rd oM oM) ?_))))))
           rintro e84 w84 ⟨v84_0,rfl,hX84,hO84_0⟩
           refine ⟨_,rfl,hX84,?_⟩
           have hzs84:=hX84.size
           have hE84 : Chg [g] w w84 := hE77.ext hX84
           have hB77x84 := hB77.ext hX84
           have hN85 := hF82.ext g1 hX84
           have hN86 := hr77.ext g1 hX84
           exact lw_tvn 1 rfl (wp_ret (b_ret (t_ret (post_ret [6] rfl v84_0 rfl ⟨v84_0,addS x72 x77,s77,c77,rfl,hE84,hB77x84,(RN.of_fr1 hO84_0 (fun b hb => by have := hS b hb; omega)),(by exact addS_ser ha1),oM,oM,(by exact rel_ops hc00 hs1 oM (rel_k2 oM hra hrb) (fun h0 => by rw [h0]; exact op_add oM) (fun _ => rfl))⟩))))
          ·
           refine q_eql false rfl rfl (decide_eq_false hc83) zN (lw_tvn 1 rfl (c_cond_f rfl (wp_seq (wp_plain _ [0,0,0,2,0,0] rfl (lw_tv 1 rfl (q_nilP (hex.isPtr) rfl zN (q_fldL (p := ve) 0 fd94_0 rfl (hl12 _ (hE77.sub (subS hgS))) zN (q_load (p := (padd ve 0)) (.inr rfl) (.int .i64 ex.kind) one2 rfl ((hl12 _ (hE77.sub (subS hgS))).ld (i := 0) z134_3) zN ?_))))))))
           by_cases hc87 : ex.kind = ((4 :Nat):Int)
           ·
            refine q_eql true rfl rfl (decide_eq_true hc87) zN (lw_tvn 1 rfl (c_cond_t rfl (wp_seq (wp_plain _ [0,0,3,0] rfl (lw_tv 2 rfl (lw_call 153 [] [] [v72,v77] rfl rfl cf153 zN (c_spec_l01Sub _ _ _ _ _ (hF82).rd (hr77).rd oM oM oM) ?_))))))
            rintro e88 w88 ⟨v88_0,rfl,hX88,hO88_0⟩
            refine ⟨_,rfl,hX88,?_⟩
            have hzs88:=hX88.size
            have hE88 : Chg [g] w w88 := hE77.ext hX88
            have hB77x88 := hB77.ext hX88
            have hN89 := hF82.ext g1 hX88
            have hN90 := hr77.ext g1 hX88
            exact lw_tvn 1 rfl (wp_ret (b_ret (t_ret (post_ret [6] rfl v88_0 rfl ⟨v88_0,redS x72 x77,s77,c77,rfl,hE88,hB77x88,(RN.of_fr1 hO88_0 (fun b hb => by have := hS b hb; omega)),(by exact redS_ser ha1),oM,oM,(by exact rel_ops hc00 hs1 oM (rel_k2 oM hra hrb) (fun h0 => by rw [h0]; exact op_sub oM) (fun _ => rfl))⟩))))
           ·
            refine q_eql false rfl rfl (decide_eq_false hc87) zN (lw_tvn 1 rfl (c_cond_f rfl (wp_seq (wp_plain _ [0,0,0,2,0,0] rfl (lw_tv 1 rfl (q_nilP (hex.isPtr) rfl zN (q_fldL (p := ve) 0 fd94_0 rfl (hl12 _ (hE77.sub (subS hgS))) zN (q_load (p := (padd ve 0)) (.inr rfl) (.int .i64 ex.kind) one2 rfl ((hl12 _ (hE77.sub (subS hgS))).ld (i := 0) z134_3) zN ?_))))))))
            by_cases hc91 : ex.kind = ((5 :Nat):Int)
            ·
             refine q_eql true rfl rfl (decide_eq_true hc91) zN (lw_tvn 1 rfl (c_cond_t rfl (wp_seq (wp_plain _ [0,0,3,0] rfl (lw_tv 2 rfl (lw_call 154 [] [] [v72,v77] rfl rfl cf154 zN (c_spec_l01Mul _ _ _ _ _ (hF82).rd (hr77).rd oM oM) ?_))))))
             rintro e92 w92 ⟨v92_0,rfl,hX92,hO92_0⟩
             refine ⟨_,rfl,hX92,?_⟩
             have hzs92:=hX92.size
             have hE92 : Chg [g] w w92 := hE77.ext hX92
             have hB77x92 := hB77.ext hX92
             have hN93 := hF82.ext g1 hX92
             have hN94 := hr77.ext g1 hX92
             exact lw_tvn 1 rfl (wp_ret (b_ret (t_ret (post_ret [6] rfl v92_0 rfl ⟨v92_0,proS x72 x77,s77,c77,rfl,hE92,hB77x92,(RN.of_fr1 hO92_0 (fun b hb => by have := hS b hb; omega)),(by exact proS_ser ha1),oM,oM,(by exact rel_ops hc00 hs1 oM (rel_k2 oM hra hrb) (fun h0 => by rw [h0]; exact op_mul oM) (fun _ => rfl))⟩))))
            ·
             refine q_eql false rfl rfl (decide_eq_false hc91) zN (lw_tvn 1 rfl (c_cond_f rfl (wp_seq (wp_plain _ [0,0,0,2,0,0,0,0,2,0,0,0] rfl (lw_tv 1 rfl (q_nil rfl zN (q_fldP (p := (.pointer (some ⟨g,0,none⟩))) (b := g) (o := 0) 3 fd123_3 rfl rfl zN (q_load (p := (padd (.pointer (some ⟨g,0,none⟩)) 3)) (.inr rfl) (.int .i64 c77) one2 rfl (hB77.ldp (i := 3) sM) zN ?_))))))))
             by_cases hc95 : c77 ≠ ((0 :Nat):Int)
             ·
              refine q_neq true rfl rfl (decide_eq_true hc95) zN (lw_tvn 7 rfl (c_cond_t rfl (wp_seq (wp_plain _ [0,4,0] rfl (lw_tv 1 rfl (lw_callE 148 [] [] [(.pointer (some ⟨g,0,none⟩)),(.int .i64 ((6 :Nat):Int))] rfl rfl cf148 zN (c_spec_l02Run_fail _ S g pp dp (n) (s77) (c77) (p) (((6 :Nat):Int)) (fun b hb => (by have := hS b hb; omega : b < w77.heap.size)) hgS hB77 (hp.chg (good_rP (good_rPr dp)) (hE77.sub (subS hgS))) oM oM oM oM oM) ?_))))))
              rintro e96 w96 ⟨v96,x96,s96,c96,rfl,hC96,hB96,hr96,hse96,hsb96,hcb96,hrl96⟩
              refine ⟨_,rfl,?_⟩
              have hzs96:=hC96.size
              have hE96 : Chg [g] w w96 := hE77.trans hC96
              have hF101 := hF82.run g1 hgS hC96
              have hF102 := hr77.run g1 hgS hC96
              have hsn96 := hse96.1
              have hfs := hrl96.1
              have hff := hrl96.2
              exact lw_tvn 1 rfl (wp_ret (b_ret (t_ret (post_ret [6] rfl v96 rfl ⟨v96,x96,s96,c96,rfl,hE96,hB96,hr96,(by assumption),oM,oM,(by rw [hfs]; exact rel_ops hc00 hs1 oM (rel_k2 oM hra hrb) (fun h0 => absurd h0 oM) (fun h0 => by rw [hff,if_neg h0]))⟩))))
             ·
              refine q_neq false rfl rfl (decide_eq_false hc95) zN (lw_tv 2 rfl (q_idx (v := v77) 0 u25 ti2 rfl rfl hr77.slL rfl (by rw [hlb]; omega) (zS (e := 175) rfl rfl rfl) ?_))
              have hg103 := RN.getI (w := w77) (k := 0) hr77 (by rw [hlb]; omega)
              refine q_load (p := eptr v77 0 1) (.inr rfl) (.int .i64 (x77.getD 0 0)) one2 rfl (hg103.1 _ (Chg.refl _ _)) (zS (e := 175) rfl rfl rfl) ?_
              by_cases hc104 : x77.getD 0 0 = ((0 :Nat):Int)
              ·
               refine q_eql true rfl rfl (decide_eq_true hc104) (zS (e := 175) rfl rfl rfl) (lw_tvn 2 rfl (c_cond_t rfl (wp_seq (wp_plain _ [0,4,0] rfl (lw_tv 1 rfl (lw_callE 148 [] [] [(.pointer (some ⟨g,0,none⟩)),(.int .i64 ((6 :Nat):Int))] rfl rfl cf148 zN (c_spec_l02Run_fail _ S g pp dp (n) (s77) (c77) (p) (((6 :Nat):Int)) (fun b hb => (by have := hS b hb; omega : b < w77.heap.size)) hgS hB77 (hp.chg (good_rP (good_rPr dp)) (hE77.sub (subS hgS))) oM oM oM oM oM) ?_))))))
               rintro e105 w105 ⟨v105,x105,s105,c105,rfl,hC105,hB105,hr105,hse105,hsb105,hcb105,hrl105⟩
               refine ⟨_,rfl,?_⟩
               have hzs105:=hC105.size
               have hE105 : Chg [g] w w105 := hE77.trans hC105
               have hF110 := hF82.run g1 hgS hC105
               have hF111 := hr77.run g1 hgS hC105
               have hsn105 := hse105.1
               have hfs := hrl105.1
               have hff := hrl105.2
               exact lw_tvn 1 rfl (wp_ret (b_ret (t_ret (post_ret [6] rfl v105 rfl ⟨v105,x105,s105,c105,rfl,hE105,hB105,hr105,(by assumption),oM,oM,(by rw [hfs]; exact rel_ops hc00 hs1 oM (rel_k2 oM hra hrb) (fun h0 => by rw [hff,if_pos h0]; exact op_div0 (xs := [_,_]) oM (hzz.resolve_right oM)) (fun h0 => by rw [hff,if_neg h0]))⟩))))
              ·
               refine q_eql false rfl rfl (decide_eq_false hc104) (zS (e := 175) rfl rfl rfl) (lw_tvn 2 rfl (c_cond_f rfl (wp_skip (wp_seq (wp_plain _ [0,0,3,0] rfl (lw_tv 2 rfl (lw_call 155 [] [] [v72,v77] rfl rfl cf155 zN (c_spec_l01Div _ _ _ _ _ (hF82).rd (hr77).rd oM oM oM (by exact ha1.2)) ?_)))))))
               rintro e112 w112 ⟨v112_0,rfl,hX112,hO112_0⟩
               refine ⟨_,rfl,hX112,?_⟩
               have hzs112:=hX112.size
               have hE112 : Chg [g] w w112 := hE77.ext hX112
               have hB77x112 := hB77.ext hX112
               have hN113 := hF82.ext g1 hX112
               have hN114 := hr77.ext g1 hX112
               exact lw_tvn 1 rfl (wp_ret (post_ret [6] rfl v112_0 rfl ⟨v112_0,quoS x72 x77,s77,c77,rfl,hE112,hB77x112,(RN.of_fr1 hO112_0 (fun b hb => by have := hS b hb; omega)),(by exact quoS_ser ha1),oM,oM,(by exact rel_ops hc00 hs1 oM (rel_k2 oM hra hrb) (fun h0 => by rw [h0]; exact op_div (xs := [_,_]) oM (hzz.resolve_left oM)) (fun _ => rfl))⟩))
end Go.Proofs.YtnofbmdpabcjaaaGreat
namespace Go.Proofs.YtnofbmdpabcjaaaGreat
open Go Go.RowKit
set_option linter.unusedVariables false
set_option linter.unusedSimpArgs false
set_option maxHeartbeats 4000000
set_option maxRecDepth 100000
attribute [local irreducible] LW
theorem c_spec_l00Max (w : World) (a : Int) (b : Int) (_ha : -9223372036854775808 ≤ a ∧ a ≤ 9223372036854775807) (_hb : -9223372036854775808 ≤ b ∧ b ≤ 9223372036854775807)  :
  Calls Tryz.prog 170 #[.int .i64 a,.int .i64 b] w (fun e w' => e = .returned (.int .i64 (max a b)) ∧ w' = w) := by
 refine calls_mk [.int .i64 a,.int .i64 b] 10 Tryz.func170 rfl rfl sM ?_
 have hE0 : w = w := rfl
 refine wp_seq (wp_plain _ [0] rfl (lw_tvn 1 rfl (wp_seq (wp_seq (wp_plain _ [0,0,0] rfl (lw_tv 2 rfl ?_))))))
 by_cases hc1 : b < a
 ·
  exact q_gtr true rfl rfl (decide_eq_true hc1) zN (lw_nil (c_cond_t rfl (wp_seq (wp_plain _ [0,0] rfl (lw_tvn 2 rfl (wp_ret (t_ret (post_ret [4] rfl (.int .i64 a) rfl ⟨(ret_int oM),hE0⟩))))))))
 ·
  exact q_gtr false rfl rfl (decide_eq_false hc1) zN (lw_nil (c_cond_f rfl (wp_skip (wp_seq (wp_plain _ [0,0] rfl (lw_tvn 2 rfl (wp_ret (post_ret [4] rfl (.int .i64 b) rfl ⟨(ret_int oM),hE0⟩))))))))
theorem z138_0 {p : Prop} (h : p := by rw [lftE_eq, hx]; first | rw [List.take_of_length_le oM] | exact (lfts_stop oM).symm) : p := h
theorem c_spec_l02Left (w : World) (dex : Nat) (ve : Value) (ex : Ex) (left : Int) (hex : RN [] (rP (rEx dex)) w.heap ve ex) (_hleft : -9223372036854775808 ≤ left ∧ left ≤ 9223372036854775807) (hl0 : 0 ≤ left ∧ left ≤ 100000) (hs : ex.size ≤ 1000000000) :
  Calls Tryz.prog 138 #[ve,.int .i64 left] w (fun e w' => e = .returned (.int .i64 (lftE ex left)) ∧ Ext w w') := by
 induction dex using Nat.strongRecOn generalizing w ve ex left
 rename_i dex ih
 refine calls_mk [ve,.int .i64 left] 30 Tryz.func138 rfl rfl sM ?_
 have hE0 : Ext w w := Ext.refl w
 have hsk := size_kids ex
 refine wp_seq (wp_plain _ [0] rfl (lw_tvn 1 rfl (wp_seq (wp_plain _ [0,0,0] rfl (lw_tv 1 rfl (q_sub (left - 1) rfl rfl (w64 oM oM) zN (lw_tvn 1 rfl (wp_seq (wp_seq (wp_plain _ [0] rfl (lw_tvn 1 rfl (wp_block ?_))))))))))))
 refine c_loop (S := Nat × Int) (fun (⟨k,x⟩ : Nat × Int) => ([(1,(.int .i64 x)),(5,(.int .i64 ((k :Nat):Int))),(0,ve)] : List (Nat × Value))) (fun (⟨k,x⟩ : Nat × Int) (W : World) => Ext w W ∧ k ≤ ex.kids.length ∧ x = lfts (ex.kids.take k) (left - 1) ∧ (-1 ≤ x ∧ x ≤ left)) (fun (⟨k,x⟩ : Nat × Int) => ex.kids.length - k) (0,(left - 1)) ⟨rfl,rfl,rfl,trivial⟩ ⟨hE0,sD,(by rw [List.take_zero,lfts]),oM⟩ ?_
 clear hE0
 rintro ⟨k,x⟩ ρ1 w1 ⟨hE1,hp1_0,hx,hp1_2⟩
 have hzs1 : w.heap.size ≤ w1.heap.size := hE1.size
 refine wp_seq (wp_seq (wp_plain _ [0,0,0,0,2,0,0,0,0,0,0] rfl (lw_tv 2 rfl (q_nilP (hex.isPtr) rfl zN ?_))))
 obtain ⟨cs2,hr2,hl2⟩ := RN.at (good_rEx _) hex
 obtain ⟨dd2,ve2,hd2,rfl,hx2⟩ := RX.of hr2
 have hln2 := hx2.rn.lenle
 unfold maxLen at hln2
 refine q_fldL (p := ve) 4 fd94_4 rfl (hl2 _ (Chg.of_ext [] hE1)) zN (q_load (p := (padd ve 4)) (.inr rfl) ve2 one78 rfl ((hl2 _ (Chg.of_ext [] hE1)).ld (i := 4) (by simp [exC,fnC])) zN (q_len (v := ve2) u78 rfl hx2.rn.isSl zN ?_))
 by_cases hc3 : ((k :Nat):Int) < ((ex.kids.length :Nat):Int)
 ·
  refine q_lss true rfl rfl (decide_eq_true hc3) zN (lw_tv 2 rfl ?_)
  by_cases hc4 : ((0 :Nat):Int) ≤ x
  ·
   refine q_geq true rfl rfl (decide_eq_true hc4) (zS (e := 15) rfl rfl rfl) (lw_tvn 1 rfl (c_cond_t rfl (wp_skip (wp_seq (wp_block (wp_plain _ [0,0,0,2,0,0,0,3,0] rfl ?_))))))
   have hst := sizes_step (l := ex.kids) (k := k) oM
   have hle := sizes_take ex.kids (k + 1)
   have hnx := lfts_step (l := ex.kids) (k := k) (x := left - 1) oM oM
   have hnr := lftE_rng (e := ex.kids.getD k Ex.zero) (x := x) oM
   refine lw_tv 1 rfl (q_nilP (hex.isPtr) rfl zN (q_fldL (p := ve) 4 fd94_4 rfl (hl2 _ (Chg.of_ext [] hE1)) zN (q_load (p := (padd ve 4)) (.inr rfl) ve2 one78 rfl ((hl2 _ (Chg.of_ext [] hE1)).ld (i := 4) (by simp [exC,fnC])) zN (lw_tv 1 rfl (q_idx (v := ve2) k u78 tiS94 rfl rfl hx2.rn.isSl rfl sD zN (lw_tv 1 rfl ?_))))))
   refine lw_call 138 [] [] [(eptr ve2 k 5),(.int .i64 x)] rfl rfl cf138 zN (ih dd2 oM _ (eptr ve2 k 5) (ex.kids.getD k Ex.zero) _ (RN.ptr (good_rEx dd2) (by decide) Ex.zero (hx2.rn.ext (good_rdS (good_rEx dd2)) hE1) sD) oM oM oM) ?_
   rintro e5 w5 ⟨rfl,hX5⟩
   refine ⟨_,rfl,hX5,?_⟩
   have hzs5:=hX5.size
   have hE5:=hE1.trans hX5
   refine lw_tvn 1 rfl (wp_plain _ [0,0,0] rfl (lw_tv 1 rfl (q_add ((k + 1 :Nat):Int) rfl rfl (w64n oM sD) zN (lw_tvn 1 rfl ?_))))
   exact ⟨((k + 1),(lftE (ex.kids.getD k Ex.zero) x)),_,rfl,⟨rfl,rfl,rfl,trivial⟩,⟨hE5,sD,(by rw [hnx,hx]),oM⟩,by first | omega | (dsimp only; omega)⟩
  ·
   exact q_geq false rfl rfl (decide_eq_false hc4) (zS (e := 15) rfl rfl rfl) (lw_tvn 1 rfl (c_cond_f rfl (wp_exit (t_exit (t_exit (c_exit_here (wp_seq (wp_plain _ [0,0] rfl (lw_tvn 2 rfl (wp_ret (post_ret [4] rfl (.int .i64 x) rfl ⟨(ret_int z138_0),hE1⟩)))))))))))
 ·
  exact q_lss false rfl rfl (decide_eq_false hc3) zN (lw_tvn 4 rfl (c_cond_f rfl (wp_exit (t_exit (t_exit (c_exit_here (wp_seq (wp_plain _ [0,0] rfl (lw_tvn 2 rfl (wp_ret (post_ret [4] rfl (.int .i64 x) rfl ⟨(ret_int z138_0),hE1⟩)))))))))))
theorem c_spec_l02Depth (w : World) (dex : Nat) (ve : Value) (ex : Ex) (hex : RN [] (rP (rEx dex)) w.heap ve ex) (hs : ex.size ≤ 1000000000) :
  Calls Tryz.prog 164 #[ve] w (fun e w' => e = .returned (.int .i64 ((ex.deep :Nat):Int)) ∧ Ext w w') := by
 induction dex using Nat.strongRecOn generalizing w ve ex
 rename_i dex ih
 refine calls_mk [ve] 25 Tryz.func164 rfl rfl sM ?_
 have hE0 : Ext w w := Ext.refl w
 have hsk := size_kids ex
 have hdk := deep_kids ex
 refine wp_seq (wp_plain _ [0] rfl (lw_tvn 1 rfl (wp_seq (wp_plain _ [0] rfl (lw_tvn 1 rfl (wp_seq (wp_seq (wp_plain _ [0] rfl (lw_tvn 1 rfl (wp_block ?_))))))))))
 refine c_loop (S := Nat × Int) (fun (⟨k,sz⟩ : Nat × Int) => ([(3,(.int .i64 sz)),(4,(.int .i64 ((k :Nat):Int))),(0,ve)] : List (Nat × Value))) (fun (⟨k,sz⟩ : Nat × Int) (W : World) => Ext w W ∧ k ≤ ex.kids.length ∧ sz = ((Ex.deeps (ex.kids.take k) :Nat):Int) ∧ (0 ≤ sz ∧ sz ≤ 1000000000)) (fun (⟨k,sz⟩ : Nat × Int) => ex.kids.length - k) (0,((0 :Nat):Int)) ⟨rfl,rfl,rfl,trivial⟩ ⟨hE0,sD,(by rw [List.take_zero,deeps_nil] <;> rfl),oM⟩ ?_
 clear hE0
 rintro ⟨k,sz⟩ ρ1 w1 ⟨hE1,hp1_0,hsz,hp1_2⟩
 have hzs1 : w.heap.size ≤ w1.heap.size := hE1.size
 refine wp_seq (wp_seq (wp_plain _ [0,0,0,0,2,0,0] rfl (lw_tv 2 rfl (q_nilP (hex.isPtr) rfl zN ?_))))
 obtain ⟨cs2,hr2,hl2⟩ := RN.at (good_rEx _) hex
 obtain ⟨dd2,ve2,hd2,rfl,hx2⟩ := RX.of hr2
 have hln2 := hx2.rn.lenle
 unfold maxLen at hln2
 refine q_fldL (p := ve) 4 fd94_4 rfl (hl2 _ (Chg.of_ext [] hE1)) zN (q_load (p := (padd ve 4)) (.inr rfl) ve2 one78 rfl ((hl2 _ (Chg.of_ext [] hE1)).ld (i := 4) (by simp [exC,fnC])) zN (q_len (v := ve2) u78 rfl hx2.rn.isSl zN ?_))
 by_cases hc3 : ((k :Nat):Int) < ((ex.kids.length :Nat):Int)
 ·
  refine q_lss true rfl rfl (decide_eq_true hc3) zN (lw_nil (c_cond_t rfl (wp_skip (wp_seq (wp_block (wp_plain _ [0,0,0,0,2,0,0,3,0,0] rfl ?_))))))
  have hst := sizes_step (l := ex.kids) (k := k) oM
  have hle := sizes_take ex.kids (k + 1)
  have hdt := deeps_step (l := ex.kids) (k := k) oM
  have hda := deep_size (ex.kids.getD k Ex.zero)
  have hdz := deeps_size (ex.kids.take k)
  refine lw_tv 2 rfl (q_nilP (hex.isPtr) rfl zN (q_fldL (p := ve) 4 fd94_4 rfl (hl2 _ (Chg.of_ext [] hE1)) zN (q_load (p := (padd ve 4)) (.inr rfl) ve2 one78 rfl ((hl2 _ (Chg.of_ext [] hE1)).ld (i := 4) (by simp [exC,fnC])) zN (lw_tv 1 rfl (q_idx (v := ve2) k u78 tiS94 rfl rfl hx2.rn.isSl rfl sD zN ?_)))))
  refine lw_call 164 [] [] [(eptr ve2 k 5)] rfl rfl cf164 zN (ih dd2 oM _ (eptr ve2 k 5) (ex.kids.getD k Ex.zero) (RN.ptr (good_rEx dd2) (by decide) Ex.zero (hx2.rn.ext (good_rdS (good_rEx dd2)) hE1) sD) oM) ?_
  rintro e4 w4 ⟨rfl,hX4⟩
  refine ⟨_,rfl,hX4,?_⟩
  have hzs4:=hX4.size
  have hE4:=hE1.trans hX4
  refine lw_callq 170 [] [] [(.int .i64 sz),(.int .i64 (((ex.kids.getD k Ex.zero).deep :Nat):Int))] rfl rfl cf170 zN (.int .i64 (max sz (((ex.kids.getD k Ex.zero).deep :Nat):Int))) (fun wq => c_spec_l00Max wq _ _ oM (by have := deep_size (ex.kids.getD k Ex.zero); omega)) (lw_tvn 1 rfl (wp_plain _ [0,0,0] rfl (lw_tv 1 rfl (q_add ((k + 1 :Nat):Int) rfl rfl (w64n oM sD) zN (lw_tvn 1 rfl ?_)))))
  exact ⟨((k + 1),(max sz (((ex.kids.getD k Ex.zero).deep :Nat):Int))),_,rfl,⟨rfl,rfl,rfl,trivial⟩,⟨hE4,sD,oM,oM⟩,by first | omega | (dsimp only; omega)⟩
 ·
  refine q_lss false rfl rfl (decide_eq_false hc3) zN (lw_nil (c_cond_f rfl (wp_exit (t_exit (t_exit (c_exit_here (wp_seq (wp_plain _ [0,0,0] rfl ?_))))))))
  have h8 := deeps_all (l := ex.kids) (k := k) oM
  have h9 := deep_size ex
  exact lw_tv 1 rfl (q_add (sz + 1) rfl rfl (w64 oM oM) zN (lw_tvn 1 rfl (wp_ret (post_ret [2] rfl (.int .i64 (sz + 1)) rfl ⟨(ret_int oM),hE1⟩))))
theorem z110_0 {p : Prop} (h : p := by unfold kdN; repeat (first | rfl | (rw [if_pos oM]) | (rw [if_neg oM]))) : p := h
theorem c_spec_l02Kids (w : World) (kind : Int) (_hkind : -9223372036854775808 ≤ kind ∧ kind ≤ 9223372036854775807)  :
  Calls Tryz.prog 110 #[.int .i64 kind] w (fun e w' => e = .returned (.int .i64 (kdN kind)) ∧ w' = w) := by
 refine calls_mk [.int .i64 kind] 17 Tryz.func110 rfl rfl sM ?_
 have hE0 : w = w := rfl
 refine wp_seq (wp_plain _ [0] rfl (lw_tvn 1 rfl (wp_seq (wp_seq (wp_plain _ [0] rfl (lw_tvn 1 rfl (wp_block (wp_seq (wp_seq (wp_plain _ [0,0] rfl ?_))))))))))
 by_cases hc1 : kind = ((1 :Nat):Int)
 ·
  exact q_eql true rfl rfl (decide_eq_true hc1) zN (lw_tvn 1 rfl (c_cond_t rfl (wp_skip (c_cond_t rfl (wp_seq (wp_plain _ [0] rfl (lw_tvn 1 rfl (wp_ret (b_ret (t_ret (post_ret [2] rfl (.int .i64 ((0 :Nat):Int)) rfl ⟨(ret_int z110_0),hE0⟩)))))))))))
 ·
  refine q_eql false rfl rfl (decide_eq_false hc1) zN (lw_tvn 1 rfl (c_cond_f rfl (wp_plain _ [0,0] rfl ?_)))
  by_cases hc2 : kind = ((2 :Nat):Int)
  ·
   exact q_eql true rfl rfl (decide_eq_true hc2) zN (lw_tvn 1 rfl (c_cond_t rfl (wp_seq (wp_plain _ [0] rfl (lw_tvn 1 rfl (wp_ret (b_ret (t_ret (post_ret [2] rfl (.int .i64 ((0 :Nat):Int)) rfl ⟨(ret_int z110_0),hE0⟩)))))))))
  ·
   refine q_eql false rfl rfl (decide_eq_false hc2) zN (lw_tvn 1 rfl (c_cond_f rfl (wp_seq (wp_seq (wp_plain _ [0,0] rfl ?_)))))
   by_cases hc3 : kind = ((3 :Nat):Int)
   ·
    exact q_eql true rfl rfl (decide_eq_true hc3) zN (lw_tvn 1 rfl (c_cond_t rfl (wp_skip (c_cond_t rfl (wp_seq (wp_plain _ [0] rfl (lw_tvn 1 rfl (wp_ret (b_ret (t_ret (post_ret [2] rfl (.int .i64 ((2 :Nat):Int)) rfl ⟨(ret_int z110_0),hE0⟩)))))))))))
   ·
    refine q_eql false rfl rfl (decide_eq_false hc3) zN (lw_tvn 1 rfl (c_cond_f rfl (wp_seq (wp_plain _ [0,0] rfl ?_))))
    by_cases hc4 : kind = ((4 :Nat):Int)
    ·
     exact q_eql true rfl rfl (decide_eq_true hc4) zN (lw_tvn 1 rfl (c_cond_t rfl (wp_skip (c_cond_t rfl (wp_seq (wp_plain _ [0] rfl (lw_tvn 1 rfl (wp_ret (b_ret (t_ret (post_ret [2] rfl (.int .i64 ((2 :Nat):Int)) rfl ⟨(ret_int z110_0),hE0⟩)))))))))))
    ·
     refine q_eql false rfl rfl (decide_eq_false hc4) zN (lw_tvn 1 rfl (c_cond_f rfl (wp_seq (wp_plain _ [0,0] rfl ?_))))
     by_cases hc5 : kind = ((5 :Nat):Int)
     ·
      exact q_eql true rfl rfl (decide_eq_true hc5) zN (lw_tvn 1 rfl (c_cond_t rfl (wp_skip (c_cond_t rfl (wp_seq (wp_plain _ [0] rfl (lw_tvn 1 rfl (wp_ret (b_ret (t_ret (post_ret [2] rfl (.int .i64 ((2 :Nat):Int)) rfl ⟨(ret_int z110_0),hE0⟩)))))))))))
     ·
      refine q_eql false rfl rfl (decide_eq_false hc5) zN (lw_tvn 1 rfl (c_cond_f rfl (wp_seq (wp_plain _ [0,0] rfl ?_))))
      by_cases hc6 : kind = ((6 :Nat):Int)
      ·
       exact q_eql true rfl rfl (decide_eq_true hc6) zN (lw_tvn 1 rfl (c_cond_t rfl (wp_skip (c_cond_t rfl (wp_seq (wp_plain _ [0] rfl (lw_tvn 1 rfl (wp_ret (b_ret (t_ret (post_ret [2] rfl (.int .i64 ((2 :Nat):Int)) rfl ⟨(ret_int z110_0),hE0⟩)))))))))))
      ·
       refine q_eql false rfl rfl (decide_eq_false hc6) zN (lw_tvn 1 rfl (c_cond_f rfl (wp_plain _ [0,0] rfl ?_)))
       by_cases hc7 : kind = ((9 :Nat):Int)
       ·
        exact q_eql true rfl rfl (decide_eq_true hc7) zN (lw_tvn 1 rfl (c_cond_t rfl (wp_seq (wp_plain _ [0] rfl (lw_tvn 1 rfl (wp_ret (b_ret (t_ret (post_ret [2] rfl (.int .i64 ((2 :Nat):Int)) rfl ⟨(ret_int z110_0),hE0⟩)))))))))
       ·
        refine q_eql false rfl rfl (decide_eq_false hc7) zN (lw_tvn 1 rfl (c_cond_f rfl (wp_seq (wp_plain _ [0,0] rfl ?_))))
        by_cases hc8 : kind = ((7 :Nat):Int)
        ·
         exact q_eql true rfl rfl (decide_eq_true hc8) zN (lw_tvn 1 rfl (c_cond_t rfl (wp_seq (wp_plain _ [0] rfl (lw_tvn 1 rfl (wp_ret (b_ret (t_ret (post_ret [2] rfl (.int .i64 ((1 :Nat):Int)) rfl ⟨(ret_int z110_0),hE0⟩)))))))))
        ·
         refine q_eql false rfl rfl (decide_eq_false hc8) zN (lw_tvn 1 rfl (c_cond_f rfl (wp_seq (wp_plain _ [0,0] rfl ?_))))
         by_cases hc9 : kind = ((8 :Nat):Int)
         ·
          exact q_eql true rfl rfl (decide_eq_true hc9) zN (lw_tvn 1 rfl (c_cond_t rfl (wp_seq (wp_plain _ [0] rfl (lw_tvn 1 rfl (wp_ret (b_ret (t_ret (post_ret [2] rfl (.int .i64 ((3 :Nat):Int)) rfl ⟨(ret_int z110_0),hE0⟩)))))))))
         ·
          exact q_eql false rfl rfl (decide_eq_false hc9) zN (lw_tvn 1 rfl (c_cond_f rfl (wp_skip (wp_seq (wp_plain _ [0] rfl (lw_tvn 1 rfl (wp_ret (post_ret [2] rfl (.int .i64 (-1)) rfl ⟨(ret_int z110_0),hE0⟩))))))))
theorem z171_0 {p : Prop} (h : p := by first | exact ret_bool (nd_bad oM oM oM) | exact ret_bool (nd_1 oM oM oM oM) | exact ret_bool (nd_2 oM oM oM oM) | exact ret_bool ((decide_congr oM).trans (nd_o oM oM oM oM oM oM oM)) | exact ret_bool (by unfold wfN plainB inB; first | (simp [*]; done) | (simp [*]; omega) | (simp [*] <;> intros <;> omega) | (simp_all; done) | (simp_all <;> omega))) : p := h
theorem z171_1 {p : Prop} (h : p := by simp [exC, fnC]) : p := h
theorem c_spec_l02Node (w : World) (dp : Nat) (vp : Value) (p : List Fn) (dex : Nat) (ve : Value) (ex : Ex) (vars : Int) (funcs : Int) (hp : RN [] (rP (rPr dp)) w.heap vp p) (hex : RN [] (rP (rEx dex)) w.heap ve ex) (_hvars : -9223372036854775808 ≤ vars ∧ vars ≤ 9223372036854775807) (_hfuncs : -9223372036854775808 ≤ funcs ∧ funcs ≤ 9223372036854775807) (hv : 0 ≤ vars ∧ vars ≤ 2000000000) (hf : 0 ≤ funcs ∧ funcs ≤ ((p.length :Nat):Int)) :
  Calls Tryz.prog 171 #[vp,ve,.int .i64 vars,.int .i64 funcs] w (fun e w' => e = .returned (.bool (wfN p funcs vars ex)) ∧ Ext w w') := by
 refine calls_mk [vp,ve,.int .i64 vars,.int .i64 funcs] 140 Tryz.func171 rfl rfl sM ?_
 have hE0 : Ext w w := Ext.refl w
 refine wp_seq (wp_plain _ [0] rfl (lw_tvn 1 rfl (wp_seq (wp_seq (wp_plain _ [0,0,0,2,0,0,0,0,0,2,0,0] rfl (lw_tv 1 rfl (q_nilP (hex.isPtr) rfl zN ?_)))))))
 obtain ⟨cs1,hr1,hl1⟩ := RN.at (good_rEx _) hex
 obtain ⟨dd1,ve1,hd1,rfl,hx1⟩ := RX.of hr1
 have hln1 := hx1.rn.lenle
 unfold maxLen at hln1
 refine q_fldL (p := ve) 0 fd94_0 rfl (hl1 _ (Chg.of_ext [] hE0)) zN (q_load (p := (padd ve 0)) (.inr rfl) (.int .i64 ex.kind) one2 rfl ((hl1 _ (Chg.of_ext [] hE0)).ld (i := 0) z171_1) zN ?_)
 by_cases hc2 : ex.kind = ((10 :Nat):Int)
 ·
  refine q_eql true rfl rfl (decide_eq_true hc2) zN (lw_tvn 7 rfl (c_cond_t rfl (wp_seq (wp_seq (wp_plain _ [0,0,0,2,0,0,0,0] rfl (lw_tv 1 rfl (q_nilP (hex.isPtr) rfl zN (q_fldL (p := ve) 1 fd94_1 rfl (hl1 _ (Chg.of_ext [] hE0)) zN (q_load (p := (padd ve 1)) (.inr rfl) (.int .i64 ex.num) one2 rfl ((hl1 _ (Chg.of_ext [] hE0)).ld (i := 1) z171_1) zN (lw_tv 1 rfl (q_sub (funcs - 1) rfl rfl (w64 oM oM) zN (lw_callq 63 [] [] [(.int .i64 ex.num),(.int .i64 ((0 :Nat):Int)),(.int .i64 (funcs - 1))] rfl rfl cf63 zN (.bool (decide (((0 :Nat):Int) ≤ ex.num) && decide (ex.num ≤ (funcs - 1)))) (fun wq => c_spec_l00In wq _ _ _ hx1.rng.num oM oM) ?_))))))))))))
  refine q_not (!(decide (((0 :Nat):Int) ≤ ex.num) && decide (ex.num ≤ (funcs - 1)))) rfl rfl zN (lw_nil ?_)
  cases hb4 : (!(decide (((0 :Nat):Int) ≤ ex.num) && decide (ex.num ≤ (funcs - 1))))
  ·
   refine c_cond_f (by first | rfl | (show Value.bool _ = _; rw [hb4])) (wp_skip (wp_seq (wp_draw _ [0,0,0,1,0,0,0,1,0,0] mixed (by kernel_rfl) ?_)))
   have hnr := inB_e (bn_f (by assumption) : (decide (((0 :Nat):Int) ≤ ex.num) && decide (ex.num ≤ funcs - 1)) = true)
   refine lw_tv 1 rfl (q_nilP (hp.isPtr) rfl zN ?_)
   obtain ⟨cs5,hr5,hl5⟩ := RN.at (good_rPr _) hp
   obtain ⟨ve5,rfl,hx5⟩ := RPr.of hr5
   have hln5 := hx5.lenle
   unfold maxLen at hln5
   refine q_fldL (p := vp) 0 fd32_0 rfl (hl5 _ (Chg.of_ext [] hE0.drew)) zN (q_load (p := (padd vp 0)) (.inl rfl) ve5 one30 rfl ((hl5 _ (Chg.of_ext [] hE0.drew)).ld (i := 0) z171_1) zN (lw_tv 1 rfl (q_nilP (hex.isPtr) rfl zN (q_fldL (p := ve) 1 fd94_1 rfl (hl1 _ (Chg.of_ext [] hE0.drew)) zN (q_load (p := (padd ve 1)) (.inl rfl) (.int .i64 ex.num) one2 rfl ((hl1 _ (Chg.of_ext [] hE0.drew)).ld (i := 1) z171_1) zN ?_)))))
   refine q_idx (v := ve5) ((ex.num).toNat) u30 tiS80 rfl rfl hx5.isSl oM sD zN (lw_tvn 1 rfl (wp_seq (wp_seq (wp_draw _ [0,0,0,1,0,0,0,1,0,0,0,0,0,0,0,0,1,0,0,0,0,1,0,0] mixed (by kernel_rfl) (lw_tv 1 rfl (q_nilP (hex.isPtr) rfl zN (q_fldL (p := ve) 2 fd94_2 rfl (hl1 _ (Chg.of_ext [] hE0.drew.drew)) zN ?_)))))))
   refine q_load (p := (padd ve 2)) (.inl rfl) (.int .i64 ex.pick) one2 rfl ((hl1 _ (Chg.of_ext [] hE0.drew.drew)).ld (i := 2) z171_1) zN (lw_tv 1 rfl (q_nilP (RN.isPtr (RN.ptr (good_rFn dp) (by decide) Fn.zero hx5 sD)) rfl zN ?_))
   obtain ⟨cs6,hr6,hl6⟩ := hx5.get (good_rFn dp) Fn.zero (k := ((ex.num).toNat)) sD
   obtain ⟨ve6,rfl,hx6⟩ := RF.of hr6
   have hln6 := hx6.rn.lenle
   unfold maxLen at hln6
   refine q_fldL (p := eptr ve5 ((ex.num).toNat) 3) 2 fd80_2 rfl (hl6 _ (Chg.of_ext [] hE0.drew.drew)) zN (q_load (p := (padd (eptr ve5 ((ex.num).toNat) 3) 2)) (.inl rfl) ve6 one78 rfl ((hl6 _ (Chg.of_ext [] hE0.drew.drew)).ld (i := 2) z171_1) zN (q_len (v := ve6) u78 rfl hx6.rn.isSl zN (q_sub ((((p.getD (ex.num).toNat Fn.zero).outs.length :Nat):Int) - 1) rfl rfl (w64 oM oM) zN (lw_callq 63 [] [] [(.int .i64 ex.pick),(.int .i64 ((0 :Nat):Int)),(.int .i64 ((((p.getD (ex.num).toNat Fn.zero).outs.length :Nat):Int) - 1))] rfl rfl cf63 zN (.bool (decide (((0 :Nat):Int) ≤ ex.pick) && decide (ex.pick ≤ ((((p.getD (ex.num).toNat Fn.zero).outs.length :Nat):Int) - 1)))) (fun wq => c_spec_l00In wq _ _ _ hx1.rng.pick oM oM) ?_))))
   refine q_not (!(decide (((0 :Nat):Int) ≤ ex.pick) && decide (ex.pick ≤ ((((p.getD (ex.num).toNat Fn.zero).outs.length :Nat):Int) - 1)))) rfl rfl zN (lw_tv 1 rfl ?_)
   cases hb8 : (!(decide (((0 :Nat):Int) ≤ ex.pick) && decide (ex.pick ≤ ((((p.getD (ex.num).toNat Fn.zero).outs.length :Nat):Int) - 1))))
   ·
    refine lw_tv 1 rfl (q_nilP (hex.isPtr) rfl (zS (e := 51) rfl rfl rfl) (q_fldL (p := ve) 4 fd94_4 rfl (hl1 _ (Chg.of_ext [] hE0.drew.drew)) (zS (e := 51) rfl rfl rfl) (q_load (p := (padd ve 4)) (.inl rfl) ve1 one78 rfl ((hl1 _ (Chg.of_ext [] hE0.drew.drew)).ld (i := 4) z171_1) (zS (e := 51) rfl rfl rfl) (q_len (v := ve1) u78 rfl hx1.rn.isSl (zS (e := 51) rfl rfl rfl) (lw_tv 1 rfl ?_)))))
    refine q_nilP (RN.isPtr (RN.ptr (good_rFn dp) (by decide) Fn.zero hx5 sD)) rfl (zS (e := 51) rfl rfl rfl) (q_fldL (p := eptr ve5 ((ex.num).toNat) 3) 1 fd80_1 rfl (hl6 _ (Chg.of_ext [] hE0.drew.drew)) (zS (e := 51) rfl rfl rfl) (q_load (p := (padd (eptr ve5 ((ex.num).toNat) 3) 1)) (.inl rfl) (.int .i64 ((p.getD ((ex.num).toNat) Fn.zero).params)) one2 rfl ((hl6 _ (Chg.of_ext [] hE0.drew.drew)).ld (i := 1) z171_1) (zS (e := 51) rfl rfl rfl) ?_))
    by_cases hc9 : ((ex.kids.length :Nat):Int) ≠ (p.getD ((ex.num).toNat) Fn.zero).params
    ·
     exact q_neq true rfl rfl (decide_eq_true hc9) (zS (e := 51) rfl rfl rfl) (lw_tvn 1 rfl (c_cond_t rfl (wp_seq (wp_plain _ [0] rfl (lw_tvn 1 rfl (wp_ret (t_ret (t_ret (post_ret [8] rfl (.bool false) rfl ⟨z171_0,hE0.drew.drew⟩)))))))))
    ·
     refine q_neq false rfl rfl (decide_eq_false hc9) (zS (e := 51) rfl rfl rfl) (lw_tvn 1 rfl (c_cond_f rfl (wp_skip (wp_seq (wp_seq (wp_plain _ [0,0,0,2,0] rfl (lw_tv 1 rfl (q_nilP (hex.isPtr) rfl zN (q_fldL (p := ve) 0 fd94_0 rfl (hl1 _ (Chg.of_ext [] hE0.drew.drew)) zN (q_load (p := (padd ve 0)) (.inr rfl) (.int .i64 ex.kind) one2 rfl ((hl1 _ (Chg.of_ext [] hE0.drew.drew)).ld (i := 0) z171_1) zN ?_))))))))))
     by_cases hc10 : ex.kind = ((10 :Nat):Int)
     ·
      refine q_eql true rfl rfl (decide_eq_true hc10) zN (lw_nil (c_cond_t rfl (wp_seq (wp_plain _ [0,0,0,2,0,0] rfl (lw_tv 1 rfl (q_nilP (hex.isPtr) rfl zN (q_fldL (p := ve) 3 fd94_3 rfl (hl1 _ (Chg.of_ext [] hE0.drew.drew)) zN (q_load (p := (padd ve 3)) (.inr rfl) (.int .i64 ex.count) one2 rfl ((hl1 _ (Chg.of_ext [] hE0.drew.drew)).ld (i := 3) z171_1) zN (q_eql (decide (ex.count = ((0 :Nat):Int))) rfl rfl rfl zN (lw_tvn 1 rfl (wp_ret (t_ret (t_ret ?_)))))))))))))
      exact post_ret [8] rfl (.bool (decide (ex.count = ((0 :Nat):Int)))) rfl ⟨z171_0,hE0.drew.drew⟩
     ·
      refine q_eql false rfl rfl (decide_eq_false hc10) zN (lw_nil (c_cond_f rfl (wp_skip (wp_seq (wp_draw _ [0,0,0,1,0,0,0,0,0,1,0,0,0,0,1,0,0,0] mixed (by kernel_rfl) (lw_tv 1 rfl (q_nilP (hex.isPtr) rfl zN (q_fldL (p := ve) 3 fd94_3 rfl (hl1 _ (Chg.of_ext [] hE0.drew.drew.drew)) zN (q_load (p := (padd ve 3)) (.inl rfl) (.int .i64 ex.count) one2 rfl ((hl1 _ (Chg.of_ext [] hE0.drew.drew.drew)).ld (i := 3) z171_1) zN (lw_callq 63 [] [] [(.int .i64 ex.count),(.int .i64 ((0 :Nat):Int)),(.int .i64 ((8 :Nat):Int))] rfl rfl cf63 zN (.bool (decide (((0 :Nat):Int) ≤ ex.count) && decide (ex.count ≤ ((8 :Nat):Int)))) (fun wq => c_spec_l00In wq _ _ _ hx1.rng.count oM oM) (lw_tv 1 rfl ?_)))))))))))
      cases hb12 : (decide (((0 :Nat):Int) ≤ ex.count) && decide (ex.count ≤ ((8 :Nat):Int)))
      ·
       exact lw_tvn 12 rfl (wp_ret (t_ret (post_ret [8] rfl (.bool false) rfl ⟨z171_0,hE0.drew.drew.drew⟩)))
      ·
       refine lw_tv 1 rfl (q_nilP (RN.isPtr (RN.ptr (good_rFn dp) (by decide) Fn.zero hx5 sD)) rfl (zS (e := 78) rfl rfl rfl) (q_fldL (p := eptr ve5 ((ex.num).toNat) 3) 2 fd80_2 rfl (hl6 _ (Chg.of_ext [] hE0.drew.drew.drew)) (zS (e := 78) rfl rfl rfl) (q_load (p := (padd (eptr ve5 ((ex.num).toNat) 3) 2)) (.inl rfl) ve6 one78 rfl ((hl6 _ (Chg.of_ext [] hE0.drew.drew.drew)).ld (i := 2) z171_1) (zS (e := 78) rfl rfl rfl) ?_)))
       refine q_len (v := ve6) u78 rfl hx6.rn.isSl (zS (e := 78) rfl rfl rfl) (lw_tv 1 rfl (q_nilP (RN.isPtr (RN.ptr (good_rFn dp) (by decide) Fn.zero hx5 sD)) rfl (zS (e := 78) rfl rfl rfl) (q_fldL (p := eptr ve5 ((ex.num).toNat) 3) 1 fd80_1 rfl (hl6 _ (Chg.of_ext [] hE0.drew.drew.drew)) (zS (e := 78) rfl rfl rfl) ?_)))
       refine q_load (p := (padd (eptr ve5 ((ex.num).toNat) 3) 1)) (.inl rfl) (.int .i64 ((p.getD ((ex.num).toNat) Fn.zero).params)) one2 rfl ((hl6 _ (Chg.of_ext [] hE0.drew.drew.drew)).ld (i := 1) z171_1) (zS (e := 78) rfl rfl rfl) (q_eql (decide (((((p.getD ((ex.num).toNat) Fn.zero).outs).length :Nat):Int) = (p.getD ((ex.num).toNat) Fn.zero).params)) rfl rfl rfl (zS (e := 78) rfl rfl rfl) (lw_tvn 2 rfl (wp_ret (t_ret ?_))))
       exact post_ret [8] rfl (.bool (decide (((((p.getD ((ex.num).toNat) Fn.zero).outs).length :Nat):Int) = (p.getD ((ex.num).toNat) Fn.zero).params))) rfl ⟨z171_0,hE0.drew.drew.drew⟩
   ·
    exact lw_tvn 11 rfl (c_cond_t rfl (wp_seq (wp_plain _ [0] rfl (lw_tvn 1 rfl (wp_ret (t_ret (t_ret (post_ret [8] rfl (.bool false) rfl ⟨z171_0,hE0.drew.drew⟩))))))))
  ·
   exact c_cond_t (by first | rfl | (show Value.bool _ = _; rw [hb4])) (wp_seq (wp_plain _ [0] rfl (lw_tvn 1 rfl (wp_ret (t_ret (t_ret (post_ret [8] rfl (.bool false) rfl ⟨z171_0,hE0⟩)))))))
 ·
  refine q_eql false rfl rfl (decide_eq_false hc2) zN (lw_tv 2 rfl (q_nilP (hex.isPtr) rfl (zS (e := 15) rfl rfl rfl) (q_fldL (p := ve) 0 fd94_0 rfl (hl1 _ (Chg.of_ext [] hE0)) (zS (e := 15) rfl rfl rfl) (q_load (p := (padd ve 0)) (.inr rfl) (.int .i64 ex.kind) one2 rfl ((hl1 _ (Chg.of_ext [] hE0)).ld (i := 0) z171_1) (zS (e := 15) rfl rfl rfl) ?_))))
  by_cases hc13 : ex.kind = ((11 :Nat):Int)
  ·
   refine q_eql true rfl rfl (decide_eq_true hc13) (zS (e := 15) rfl rfl rfl) (lw_tvn 1 rfl (c_cond_t rfl (wp_seq (wp_seq (wp_plain _ [0,0,0,2,0,0,0,0] rfl (lw_tv 1 rfl (q_nilP (hex.isPtr) rfl zN (q_fldL (p := ve) 1 fd94_1 rfl (hl1 _ (Chg.of_ext [] hE0)) zN (q_load (p := (padd ve 1)) (.inr rfl) (.int .i64 ex.num) one2 rfl ((hl1 _ (Chg.of_ext [] hE0)).ld (i := 1) z171_1) zN (lw_tv 1 rfl (q_sub (funcs - 1) rfl rfl (w64 oM oM) zN (lw_callq 63 [] [] [(.int .i64 ex.num),(.int .i64 ((0 :Nat):Int)),(.int .i64 (funcs - 1))] rfl rfl cf63 zN (.bool (decide (((0 :Nat):Int) ≤ ex.num) && decide (ex.num ≤ (funcs - 1)))) (fun wq => c_spec_l00In wq _ _ _ hx1.rng.num oM oM) ?_))))))))))))
   refine q_not (!(decide (((0 :Nat):Int) ≤ ex.num) && decide (ex.num ≤ (funcs - 1)))) rfl rfl zN (lw_nil ?_)
   cases hb15 : (!(decide (((0 :Nat):Int) ≤ ex.num) && decide (ex.num ≤ (funcs - 1))))
   ·
    refine c_cond_f (by first | rfl | (show Value.bool _ = _; rw [hb15])) (wp_skip (wp_seq (wp_draw _ [0,0,0,1,0,0,0,1,0,0] mixed (by kernel_rfl) ?_)))
    have hnr := inB_e (bn_f (by assumption) : (decide (((0 :Nat):Int) ≤ ex.num) && decide (ex.num ≤ funcs - 1)) = true)
    refine lw_tv 1 rfl (q_nilP (hp.isPtr) rfl zN ?_)
    obtain ⟨cs16,hr16,hl16⟩ := RN.at (good_rPr _) hp
    obtain ⟨ve16,rfl,hx16⟩ := RPr.of hr16
    have hln16 := hx16.lenle
    unfold maxLen at hln16
    refine q_fldL (p := vp) 0 fd32_0 rfl (hl16 _ (Chg.of_ext [] hE0.drew)) zN (q_load (p := (padd vp 0)) (.inl rfl) ve16 one30 rfl ((hl16 _ (Chg.of_ext [] hE0.drew)).ld (i := 0) z171_1) zN (lw_tv 1 rfl (q_nilP (hex.isPtr) rfl zN (q_fldL (p := ve) 1 fd94_1 rfl (hl1 _ (Chg.of_ext [] hE0.drew)) zN (q_load (p := (padd ve 1)) (.inl rfl) (.int .i64 ex.num) one2 rfl ((hl1 _ (Chg.of_ext [] hE0.drew)).ld (i := 1) z171_1) zN ?_)))))
    refine q_idx (v := ve16) ((ex.num).toNat) u30 tiS80 rfl rfl hx16.isSl oM sD zN (lw_tvn 1 rfl (wp_seq (wp_seq (wp_draw _ [0,0,0,1,0,0,0,1,0,0,0,0,0,0,0,0,1,0,0,0,0,1,0,0] mixed (by kernel_rfl) (lw_tv 1 rfl (q_nilP (hex.isPtr) rfl zN (q_fldL (p := ve) 2 fd94_2 rfl (hl1 _ (Chg.of_ext [] hE0.drew.drew)) zN ?_)))))))
    refine q_load (p := (padd ve 2)) (.inl rfl) (.int .i64 ex.pick) one2 rfl ((hl1 _ (Chg.of_ext [] hE0.drew.drew)).ld (i := 2) z171_1) zN (lw_tv 1 rfl (q_nilP (RN.isPtr (RN.ptr (good_rFn dp) (by decide) Fn.zero hx16 sD)) rfl zN ?_))
    obtain ⟨cs17,hr17,hl17⟩ := hx16.get (good_rFn dp) Fn.zero (k := ((ex.num).toNat)) sD
    obtain ⟨ve17,rfl,hx17⟩ := RF.of hr17
    have hln17 := hx17.rn.lenle
    unfold maxLen at hln17
    refine q_fldL (p := eptr ve16 ((ex.num).toNat) 3) 2 fd80_2 rfl (hl17 _ (Chg.of_ext [] hE0.drew.drew)) zN (q_load (p := (padd (eptr ve16 ((ex.num).toNat) 3) 2)) (.inl rfl) ve17 one78 rfl ((hl17 _ (Chg.of_ext [] hE0.drew.drew)).ld (i := 2) z171_1) zN (q_len (v := ve17) u78 rfl hx17.rn.isSl zN (q_sub ((((p.getD (ex.num).toNat Fn.zero).outs.length :Nat):Int) - 1) rfl rfl (w64 oM oM) zN (lw_callq 63 [] [] [(.int .i64 ex.pick),(.int .i64 ((0 :Nat):Int)),(.int .i64 ((((p.getD (ex.num).toNat Fn.zero).outs.length :Nat):Int) - 1))] rfl rfl cf63 zN (.bool (decide (((0 :Nat):Int) ≤ ex.pick) && decide (ex.pick ≤ ((((p.getD (ex.num).toNat Fn.zero).outs.length :Nat):Int) - 1)))) (fun wq => c_spec_l00In wq _ _ _ hx1.rng.pick oM oM) ?_))))
    refine q_not (!(decide (((0 :Nat):Int) ≤ ex.pick) && decide (ex.pick ≤ ((((p.getD (ex.num).toNat Fn.zero).outs.length :Nat):Int) - 1)))) rfl rfl zN (lw_tv 1 rfl ?_)
    cases hb19 : (!(decide (((0 :Nat):Int) ≤ ex.pick) && decide (ex.pick ≤ ((((p.getD (ex.num).toNat Fn.zero).outs.length :Nat):Int) - 1))))
    ·
     refine lw_tv 1 rfl (q_nilP (hex.isPtr) rfl (zS (e := 51) rfl rfl rfl) (q_fldL (p := ve) 4 fd94_4 rfl (hl1 _ (Chg.of_ext [] hE0.drew.drew)) (zS (e := 51) rfl rfl rfl) (q_load (p := (padd ve 4)) (.inl rfl) ve1 one78 rfl ((hl1 _ (Chg.of_ext [] hE0.drew.drew)).ld (i := 4) z171_1) (zS (e := 51) rfl rfl rfl) (q_len (v := ve1) u78 rfl hx1.rn.isSl (zS (e := 51) rfl rfl rfl) (lw_tv 1 rfl ?_)))))
     refine q_nilP (RN.isPtr (RN.ptr (good_rFn dp) (by decide) Fn.zero hx16 sD)) rfl (zS (e := 51) rfl rfl rfl) (q_fldL (p := eptr ve16 ((ex.num).toNat) 3) 1 fd80_1 rfl (hl17 _ (Chg.of_ext [] hE0.drew.drew)) (zS (e := 51) rfl rfl rfl) (q_load (p := (padd (eptr ve16 ((ex.num).toNat) 3) 1)) (.inl rfl) (.int .i64 ((p.getD ((ex.num).toNat) Fn.zero).params)) one2 rfl ((hl17 _ (Chg.of_ext [] hE0.drew.drew)).ld (i := 1) z171_1) (zS (e := 51) rfl rfl rfl) ?_))
     by_cases hc20 : ((ex.kids.length :Nat):Int) ≠ (p.getD ((ex.num).toNat) Fn.zero).params
     ·
      exact q_neq true rfl rfl (decide_eq_true hc20) (zS (e := 51) rfl rfl rfl) (lw_tvn 1 rfl (c_cond_t rfl (wp_seq (wp_plain _ [0] rfl (lw_tvn 1 rfl (wp_ret (t_ret (t_ret (post_ret [8] rfl (.bool false) rfl ⟨z171_0,hE0.drew.drew⟩)))))))))
     ·
      refine q_neq false rfl rfl (decide_eq_false hc20) (zS (e := 51) rfl rfl rfl) (lw_tvn 1 rfl (c_cond_f rfl (wp_skip (wp_seq (wp_seq (wp_plain _ [0,0,0,2,0] rfl (lw_tv 1 rfl (q_nilP (hex.isPtr) rfl zN (q_fldL (p := ve) 0 fd94_0 rfl (hl1 _ (Chg.of_ext [] hE0.drew.drew)) zN (q_load (p := (padd ve 0)) (.inr rfl) (.int .i64 ex.kind) one2 rfl ((hl1 _ (Chg.of_ext [] hE0.drew.drew)).ld (i := 0) z171_1) zN ?_))))))))))
      by_cases hc21 : ex.kind = ((10 :Nat):Int)
      ·
       refine q_eql true rfl rfl (decide_eq_true hc21) zN (lw_nil (c_cond_t rfl (wp_seq (wp_plain _ [0,0,0,2,0,0] rfl (lw_tv 1 rfl (q_nilP (hex.isPtr) rfl zN (q_fldL (p := ve) 3 fd94_3 rfl (hl1 _ (Chg.of_ext [] hE0.drew.drew)) zN (q_load (p := (padd ve 3)) (.inr rfl) (.int .i64 ex.count) one2 rfl ((hl1 _ (Chg.of_ext [] hE0.drew.drew)).ld (i := 3) z171_1) zN (q_eql (decide (ex.count = ((0 :Nat):Int))) rfl rfl rfl zN (lw_tvn 1 rfl (wp_ret (t_ret (t_ret ?_)))))))))))))
       exact post_ret [8] rfl (.bool (decide (ex.count = ((0 :Nat):Int)))) rfl ⟨z171_0,hE0.drew.drew⟩
      ·
       refine q_eql false rfl rfl (decide_eq_false hc21) zN (lw_nil (c_cond_f rfl (wp_skip (wp_seq (wp_draw _ [0,0,0,1,0,0,0,0,0,1,0,0,0,0,1,0,0,0] mixed (by kernel_rfl) (lw_tv 1 rfl (q_nilP (hex.isPtr) rfl zN (q_fldL (p := ve) 3 fd94_3 rfl (hl1 _ (Chg.of_ext [] hE0.drew.drew.drew)) zN (q_load (p := (padd ve 3)) (.inl rfl) (.int .i64 ex.count) one2 rfl ((hl1 _ (Chg.of_ext [] hE0.drew.drew.drew)).ld (i := 3) z171_1) zN (lw_callq 63 [] [] [(.int .i64 ex.count),(.int .i64 ((0 :Nat):Int)),(.int .i64 ((8 :Nat):Int))] rfl rfl cf63 zN (.bool (decide (((0 :Nat):Int) ≤ ex.count) && decide (ex.count ≤ ((8 :Nat):Int)))) (fun wq => c_spec_l00In wq _ _ _ hx1.rng.count oM oM) (lw_tv 1 rfl ?_)))))))))))
       cases hb23 : (decide (((0 :Nat):Int) ≤ ex.count) && decide (ex.count ≤ ((8 :Nat):Int)))
       ·
        exact lw_tvn 12 rfl (wp_ret (t_ret (post_ret [8] rfl (.bool false) rfl ⟨z171_0,hE0.drew.drew.drew⟩)))
       ·
        refine lw_tv 1 rfl (q_nilP (RN.isPtr (RN.ptr (good_rFn dp) (by decide) Fn.zero hx16 sD)) rfl (zS (e := 78) rfl rfl rfl) (q_fldL (p := eptr ve16 ((ex.num).toNat) 3) 2 fd80_2 rfl (hl17 _ (Chg.of_ext [] hE0.drew.drew.drew)) (zS (e := 78) rfl rfl rfl) (q_load (p := (padd (eptr ve16 ((ex.num).toNat) 3) 2)) (.inl rfl) ve17 one78 rfl ((hl17 _ (Chg.of_ext [] hE0.drew.drew.drew)).ld (i := 2) z171_1) (zS (e := 78) rfl rfl rfl) ?_)))
        refine q_len (v := ve17) u78 rfl hx17.rn.isSl (zS (e := 78) rfl rfl rfl) (lw_tv 1 rfl (q_nilP (RN.isPtr (RN.ptr (good_rFn dp) (by decide) Fn.zero hx16 sD)) rfl (zS (e := 78) rfl rfl rfl) (q_fldL (p := eptr ve16 ((ex.num).toNat) 3) 1 fd80_1 rfl (hl17 _ (Chg.of_ext [] hE0.drew.drew.drew)) (zS (e := 78) rfl rfl rfl) ?_)))
        refine q_load (p := (padd (eptr ve16 ((ex.num).toNat) 3) 1)) (.inl rfl) (.int .i64 ((p.getD ((ex.num).toNat) Fn.zero).params)) one2 rfl ((hl17 _ (Chg.of_ext [] hE0.drew.drew.drew)).ld (i := 1) z171_1) (zS (e := 78) rfl rfl rfl) (q_eql (decide (((((p.getD ((ex.num).toNat) Fn.zero).outs).length :Nat):Int) = (p.getD ((ex.num).toNat) Fn.zero).params)) rfl rfl rfl (zS (e := 78) rfl rfl rfl) (lw_tvn 2 rfl (wp_ret (t_ret ?_))))
        exact post_ret [8] rfl (.bool (decide (((((p.getD ((ex.num).toNat) Fn.zero).outs).length :Nat):Int) = (p.getD ((ex.num).toNat) Fn.zero).params))) rfl ⟨z171_0,hE0.drew.drew.drew⟩
    ·
     exact lw_tvn 11 rfl (c_cond_t rfl (wp_seq (wp_plain _ [0] rfl (lw_tvn 1 rfl (wp_ret (t_ret (t_ret (post_ret [8] rfl (.bool false) rfl ⟨z171_0,hE0.drew.drew⟩))))))))
   ·
    exact c_cond_t (by first | rfl | (show Value.bool _ = _; rw [hb15])) (wp_seq (wp_plain _ [0] rfl (lw_tvn 1 rfl (wp_ret (t_ret (t_ret (post_ret [8] rfl (.bool false) rfl ⟨z171_0,hE0⟩)))))))
  ·
   refine q_eql false rfl rfl (decide_eq_false hc13) (zS (e := 15) rfl rfl rfl) (lw_tvn 1 rfl (c_cond_f rfl (wp_skip (wp_seq (wp_seq (wp_draw _ [0,0,0,1,0,0,0,0,1,0,0,0,0,0,0,1,0,0,0,0,0,0,1,0,0] mixed (by kernel_rfl) (lw_tv 1 rfl (q_nilP (hex.isPtr) rfl zN (q_fldL (p := ve) 0 fd94_0 rfl (hl1 _ (Chg.of_ext [] hE0.drew)) zN (q_load (p := (padd ve 0)) (.inl rfl) (.int .i64 ex.kind) one2 rfl ((hl1 _ (Chg.of_ext [] hE0.drew)).ld (i := 0) z171_1) zN (lw_callq 110 [] [] [(.int .i64 ex.kind)] rfl rfl cf110 zN (.int .i64 (kdN ex.kind)) (fun wq => c_spec_l02Kids wq _ hx1.rng.kind) (lw_tv 1 rfl (q_nilP (hex.isPtr) rfl zN (q_fldL (p := ve) 4 fd94_4 rfl (hl1 _ (Chg.of_ext [] hE0.drew)) zN ?_))))))))))))))
   refine q_load (p := (padd ve 4)) (.inl rfl) ve1 one78 rfl ((hl1 _ (Chg.of_ext [] hE0.drew)).ld (i := 4) z171_1) zN (q_len (v := ve1) u78 rfl hx1.rn.isSl zN ?_)
   by_cases hc25 : kdN ex.kind ≠ ((ex.kids.length :Nat):Int)
   ·
    exact q_neq true rfl rfl (decide_eq_true hc25) zN (lw_tvn 14 rfl (c_cond_t rfl (wp_seq (wp_plain _ [0] rfl (lw_tvn 1 rfl (wp_ret (t_ret (post_ret [8] rfl (.bool false) rfl ⟨z171_0,hE0.drew⟩))))))))
   ·
    refine q_neq false rfl rfl (decide_eq_false hc25) zN (lw_tv 2 rfl (q_nilP (hex.isPtr) rfl (zS (e := 101) rfl rfl rfl) (q_fldL (p := ve) 2 fd94_2 rfl (hl1 _ (Chg.of_ext [] hE0.drew)) (zS (e := 101) rfl rfl rfl) (q_load (p := (padd ve 2)) (.inl rfl) (.int .i64 ex.pick) one2 rfl ((hl1 _ (Chg.of_ext [] hE0.drew)).ld (i := 2) z171_1) (zS (e := 101) rfl rfl rfl) ?_))))
    by_cases hc26 : ex.pick ≠ ((0 :Nat):Int)
    ·
     exact q_neq true rfl rfl (decide_eq_true hc26) (zS (e := 101) rfl rfl rfl) (lw_tvn 8 rfl (c_cond_t rfl (wp_seq (wp_plain _ [0] rfl (lw_tvn 1 rfl (wp_ret (t_ret (post_ret [8] rfl (.bool false) rfl ⟨z171_0,hE0.drew⟩))))))))
    ·
     refine q_neq false rfl rfl (decide_eq_false hc26) (zS (e := 101) rfl rfl rfl) (lw_tv 3 rfl (q_nilP (hex.isPtr) rfl (zS (e := 108) rfl rfl rfl) (q_fldL (p := ve) 3 fd94_3 rfl (hl1 _ (Chg.of_ext [] hE0.drew)) (zS (e := 108) rfl rfl rfl) (q_load (p := (padd ve 3)) (.inl rfl) (.int .i64 ex.count) one2 rfl ((hl1 _ (Chg.of_ext [] hE0.drew)).ld (i := 3) z171_1) (zS (e := 108) rfl rfl rfl) ?_))))
     by_cases hc27 : ex.count ≠ ((0 :Nat):Int)
     ·
      exact q_neq true rfl rfl (decide_eq_true hc27) (zS (e := 108) rfl rfl rfl) (lw_tvn 1 rfl (c_cond_t rfl (wp_seq (wp_plain _ [0] rfl (lw_tvn 1 rfl (wp_ret (t_ret (post_ret [8] rfl (.bool false) rfl ⟨z171_0,hE0.drew⟩))))))))
     ·
      refine q_neq false rfl rfl (decide_eq_false hc27) (zS (e := 108) rfl rfl rfl) (lw_tvn 1 rfl (c_cond_f rfl (wp_skip (wp_seq (wp_seq (wp_plain _ [0,0,0,2] rfl (lw_tv 1 rfl (q_nilP (hex.isPtr) rfl zN (q_fldL (p := ve) 0 fd94_0 rfl (hl1 _ (Chg.of_ext [] hE0.drew)) zN (q_load (p := (padd ve 0)) (.inr rfl) (.int .i64 ex.kind) one2 rfl ((hl1 _ (Chg.of_ext [] hE0.drew)).ld (i := 0) z171_1) zN (lw_nil (wp_block (wp_seq (wp_plain _ [0,0] rfl ?_))))))))))))))
      by_cases hc28 : ex.kind = ((1 :Nat):Int)
      ·
       refine q_eql true rfl rfl (decide_eq_true hc28) zN (lw_tvn 1 rfl (c_cond_t rfl (wp_seq (wp_plain _ [0,0,0,2,0,0] rfl (lw_tv 1 rfl (q_nilP (hex.isPtr) rfl zN (q_fldL (p := ve) 1 fd94_1 rfl (hl1 _ (Chg.of_ext [] hE0.drew)) zN (q_load (p := (padd ve 1)) (.inr rfl) (.int .i64 ex.num) one2 rfl ((hl1 _ (Chg.of_ext [] hE0.drew)).ld (i := 1) z171_1) zN (lw_callq 114 [] [] [(.int .i64 ex.num)] rfl rfl cf114 zN (.bool (isN ex.num)) (fun wq => c_spec_l01Number wq _ hx1.rng.num) (lw_tvn 1 rfl (wp_ret (b_ret (t_ret ?_)))))))))))))
       exact post_ret [8] rfl (.bool (isN ex.num)) rfl ⟨z171_0,hE0.drew⟩
      ·
       refine q_eql false rfl rfl (decide_eq_false hc28) zN (lw_tvn 1 rfl (c_cond_f rfl (wp_seq (wp_plain _ [0,0] rfl ?_))))
       by_cases hc30 : ex.kind = ((2 :Nat):Int)
       ·
        refine q_eql true rfl rfl (decide_eq_true hc30) zN (lw_tvn 1 rfl (c_cond_t rfl (wp_seq (wp_plain _ [0,0,0,2,0,0,0,0] rfl (lw_tv 1 rfl (q_nilP (hex.isPtr) rfl zN (q_fldL (p := ve) 1 fd94_1 rfl (hl1 _ (Chg.of_ext [] hE0.drew)) zN (q_load (p := (padd ve 1)) (.inr rfl) (.int .i64 ex.num) one2 rfl ((hl1 _ (Chg.of_ext [] hE0.drew)).ld (i := 1) z171_1) zN (lw_tv 1 rfl (q_sub (vars - 1) rfl rfl (w64 oM oM) zN (lw_callq 63 [] [] [(.int .i64 ex.num),(.int .i64 ((0 :Nat):Int)),(.int .i64 (vars - 1))] rfl rfl cf63 zN (.bool (decide (((0 :Nat):Int) ≤ ex.num) && decide (ex.num ≤ (vars - 1)))) (fun wq => c_spec_l00In wq _ _ _ hx1.rng.num oM oM) (lw_tvn 1 rfl (wp_ret (b_ret (t_ret ?_)))))))))))))))
        exact post_ret [8] rfl (.bool (decide (((0 :Nat):Int) ≤ ex.num) && decide (ex.num ≤ (vars - 1)))) rfl ⟨z171_0,hE0.drew⟩
       ·
        refine q_eql false rfl rfl (decide_eq_false hc30) zN (lw_tvn 1 rfl (c_cond_f rfl (wp_skip (wp_seq (wp_plain _ [0,0,0,2,0,0] rfl (lw_tv 1 rfl (q_nilP (hex.isPtr) rfl zN (q_fldL (p := ve) 1 fd94_1 rfl (hl1 _ (Chg.of_ext [] hE0.drew)) zN (q_load (p := (padd ve 1)) (.inr rfl) (.int .i64 ex.num) one2 rfl ((hl1 _ (Chg.of_ext [] hE0.drew)).ld (i := 1) z171_1) zN (q_eql (decide (ex.num = ((0 :Nat):Int))) rfl rfl rfl zN (lw_tvn 1 rfl (wp_ret ?_))))))))))))
        exact post_ret [8] rfl (.bool (decide (ex.num = ((0 :Nat):Int)))) rfl ⟨z171_0,hE0.drew⟩
theorem z165_0 {p : Prop} (h : p := by first | exact ret_bool (wf_bad (bn_t (by assumption))) | exact ret_bool (wf_good (bn_f (by assumption)) fun j hj => hall j oM) | exact ret_bool (wf_kid (k := k) oM (by first | (rw [if_pos oM]) | (rw [if_neg oM])) (bn_t (by assumption)))) : p := h
theorem z165_1 {p : Prop} (h : p := by intro j hj; by_cases e9 : j = k; (rw [e9]; first | (rw [if_pos oM]; exact bn_f (by assumption)) | (rw [if_neg oM]; exact bn_f (by assumption))); exact hall j oM) : p := h
theorem c_spec_l02Tree (w : World) (dp : Nat) (vp : Value) (p : List Fn) (dex : Nat) (ve : Value) (ex : Ex) (vars : Int) (funcs : Int) (hp : RN [] (rP (rPr dp)) w.heap vp p) (hex : RN [] (rP (rEx dex)) w.heap ve ex) (_hvars : -9223372036854775808 ≤ vars ∧ vars ≤ 9223372036854775807) (_hfuncs : -9223372036854775808 ≤ funcs ∧ funcs ≤ 9223372036854775807) (hs : 0 ≤ vars ∧ vars + (ex.deep : Int) ≤ 2000000000) (hf : 0 ≤ funcs ∧ funcs ≤ ((p.length :Nat):Int)) :
  Calls Tryz.prog 165 #[vp,ve,.int .i64 vars,.int .i64 funcs] w (fun e w' => e = .returned (.bool (wf p funcs ex vars)) ∧ Ext w w') := by
 induction dex using Nat.strongRecOn generalizing w dp vp p ve ex vars funcs
 rename_i dex ih
 refine calls_mk [vp,ve,.int .i64 vars,.int .i64 funcs] 49 Tryz.func165 rfl rfl sM ?_
 have hE0 : Ext w w := Ext.refl w
 have hdk := deep_kids ex
 refine wp_seq (wp_plain _ [0] rfl (lw_tvn 1 rfl (wp_seq (wp_seq (wp_plain _ [0,0,0,0,3,0] rfl (lw_tv 4 rfl (lw_call 171 [] [] [vp,ve,(.int .i64 vars),(.int .i64 funcs)] rfl rfl cf171 zN (c_spec_l02Node _ dp vp (p) dex ve (ex) _ _ (hp.ext (good_rP (good_rPr dp)) hE0) (hex.ext (good_rP (good_rEx dex)) hE0) _hvars _hfuncs oM oM) ?_)))))))
 rintro e1 w1 ⟨rfl,hX1⟩
 refine ⟨_,rfl,hX1,?_⟩
 have hzs1:=hX1.size
 have hE1:=hE0.trans hX1
 refine q_not (!(wfN p funcs vars ex)) rfl rfl zN (lw_nil ?_)
 cases hb2 : (!(wfN p funcs vars ex))
 ·
  refine c_cond_f (by first | rfl | (show Value.bool _ = _; rw [hb2])) (wp_skip (wp_seq (wp_seq (wp_plain _ [0] rfl (lw_tvn 1 rfl (wp_block ?_))))))
  refine c_loop (S := Nat) (fun (k : Nat) => ([(9,(.int .i64 ((k :Nat):Int))),(0,vp),(1,ve),(2,(.int .i64 vars)),(3,(.int .i64 funcs))] : List (Nat × Value))) (fun (k : Nat) (W : World) => Ext w W ∧ k ≤ ex.kids.length ∧ (∀ j,j < k → wf p funcs (ex.kids.getD j Ex.zero) (if ex.kind = 9 ∧ j = 1 then vars + 1 else vars) = true)) (fun (k : Nat) => ex.kids.length - k) 0 ⟨rfl,rfl,rfl,rfl,rfl,trivial⟩ ⟨hE1,sD,(by intro j hj; omega)⟩ ?_
  clear hE0 hX1 hzs1 hE1
  rintro k ρ3 w3 ⟨hE3,hp3_0,hall⟩
  have hzs3 : w.heap.size ≤ w3.heap.size := hE3.size
  refine wp_seq (wp_seq (wp_plain _ [0,0,0,0,2,0,0] rfl (lw_tv 2 rfl (q_nilP (hex.isPtr) rfl zN ?_))))
  obtain ⟨cs4,hr4,hl4⟩ := RN.at (good_rEx _) hex
  obtain ⟨dd4,ve4,hd4,rfl,hx4⟩ := RX.of hr4
  have hln4 := hx4.rn.lenle
  unfold maxLen at hln4
  refine q_fldL (p := ve) 4 fd94_4 rfl (hl4 _ (Chg.of_ext [] hE3)) zN (q_load (p := (padd ve 4)) (.inr rfl) ve4 one78 rfl ((hl4 _ (Chg.of_ext [] hE3)).ld (i := 4) (by simp [exC,fnC])) zN (q_len (v := ve4) u78 rfl hx4.rn.isSl zN ?_))
  by_cases hc5 : ((k :Nat):Int) < ((ex.kids.length :Nat):Int)
  ·
   refine q_lss true rfl rfl (decide_eq_true hc5) zN (lw_nil (c_cond_t rfl (wp_skip (wp_seq (wp_block (wp_seq (wp_plain _ [0,0] rfl ?_)))))))
   have hkd := kd_at (l := ex.kids) (k := k) oM
   refine lw_tvn 2 rfl (wp_seq (wp_seq (wp_plain _ [0,0,0,2,0,0,0,0,0] rfl (lw_tv 1 rfl (q_nilP (hex.isPtr) rfl zN (q_fldL (p := ve) 0 fd94_0 rfl (hl4 _ (Chg.of_ext [] hE3)) zN (q_load (p := (padd ve 0)) (.inr rfl) (.int .i64 ex.kind) one2 rfl ((hl4 _ (Chg.of_ext [] hE3)).ld (i := 0) (by simp [exC,fnC])) zN ?_)))))))
   by_cases hc6 : ex.kind = ((9 :Nat):Int)
   ·
    refine q_eql true rfl rfl (decide_eq_true hc6) zN (lw_tv 2 rfl ?_)
    by_cases hc7 : ((k :Nat):Int) = ((1 :Nat):Int)
    ·
     refine q_eql true rfl rfl (decide_eq_true hc7) (zS (e := 32) rfl rfl rfl) (lw_tvn 1 rfl (c_cond_t rfl (wp_plain _ [0,0,0] rfl (lw_tv 1 rfl (q_add (vars + 1) rfl rfl (w64 oM oM) zN (lw_tvn 1 rfl (wp_seq (wp_plain _ [0,0,0,0,2,0,0,0,0,3,0] rfl (lw_tv 2 rfl (q_nilP (hex.isPtr) rfl zN (q_fldL (p := ve) 4 fd94_4 rfl (hl4 _ (Chg.of_ext [] hE3)) zN (q_load (p := (padd ve 4)) (.inr rfl) ve4 one78 rfl ((hl4 _ (Chg.of_ext [] hE3)).ld (i := 4) (by simp [exC,fnC])) zN (lw_tv 1 rfl ?_)))))))))))))
     refine q_idx (v := ve4) k u78 tiS94 rfl rfl hx4.rn.isSl rfl sD zN (lw_tv 2 rfl ?_)
     refine lw_call 165 [] [] [vp,(eptr ve4 k 5),(.int .i64 (vars + 1)),(.int .i64 funcs)] rfl rfl cf165 zN (ih dd4 oM _ dp vp (p) (eptr ve4 k 5) (ex.kids.getD k Ex.zero) _ _ (hp.ext (good_rP (good_rPr dp)) hE3) (RN.ptr (good_rEx dd4) (by decide) Ex.zero (hx4.rn.ext (good_rdS (good_rEx dd4)) hE3) sD) oM _hfuncs oM oM) ?_
     rintro e8 w8 ⟨rfl,hX8⟩
     refine ⟨_,rfl,hX8,?_⟩
     have hzs8:=hX8.size
     have hE8:=hE3.trans hX8
     refine q_not (!(wf p funcs (ex.kids.getD k Ex.zero) (vars + 1))) rfl rfl zN (lw_nil ?_)
     cases hb9 : (!(wf p funcs (ex.kids.getD k Ex.zero) (vars + 1)))
     ·
      refine c_cond_f (by first | rfl | (show Value.bool _ = _; rw [hb9])) (wp_skip (wp_plain _ [0,0,0] rfl (lw_tv 1 rfl (q_add ((k + 1 :Nat):Int) rfl rfl (w64n oM sD) zN (lw_tvn 1 rfl ?_)))))
      exact ⟨(k + 1),_,rfl,⟨rfl,rfl,rfl,rfl,rfl,trivial⟩,⟨hE8,sD,z165_1⟩,by first | omega | (dsimp only; omega)⟩
     ·
      exact c_cond_t (by first | rfl | (show Value.bool _ = _; rw [hb9])) (wp_seq (wp_plain _ [0] rfl (lw_tvn 1 rfl (wp_ret (b_ret (t_ret (t_ret (b_ret (t_ret (post_ret [8] rfl (.bool false) rfl ⟨z165_0,hE8⟩))))))))))
    ·
     refine q_eql false rfl rfl (decide_eq_false hc7) (zS (e := 32) rfl rfl rfl) (lw_tvn 1 rfl (c_cond_f rfl (wp_skip (wp_seq (wp_plain _ [0,0,0,0,2,0,0,0,0,3,0] rfl (lw_tv 2 rfl (q_nilP (hex.isPtr) rfl zN (q_fldL (p := ve) 4 fd94_4 rfl (hl4 _ (Chg.of_ext [] hE3)) zN (q_load (p := (padd ve 4)) (.inr rfl) ve4 one78 rfl ((hl4 _ (Chg.of_ext [] hE3)).ld (i := 4) (by simp [exC,fnC])) zN (lw_tv 1 rfl ?_))))))))))
     refine q_idx (v := ve4) k u78 tiS94 rfl rfl hx4.rn.isSl rfl sD zN (lw_tv 2 rfl ?_)
     refine lw_call 165 [] [] [vp,(eptr ve4 k 5),(.int .i64 vars),(.int .i64 funcs)] rfl rfl cf165 zN (ih dd4 oM _ dp vp (p) (eptr ve4 k 5) (ex.kids.getD k Ex.zero) _ _ (hp.ext (good_rP (good_rPr dp)) hE3) (RN.ptr (good_rEx dd4) (by decide) Ex.zero (hx4.rn.ext (good_rdS (good_rEx dd4)) hE3) sD) _hvars _hfuncs oM oM) ?_
     rintro e10 w10 ⟨rfl,hX10⟩
     refine ⟨_,rfl,hX10,?_⟩
     have hzs10:=hX10.size
     have hE10:=hE3.trans hX10
     refine q_not (!(wf p funcs (ex.kids.getD k Ex.zero) vars)) rfl rfl zN (lw_nil ?_)
     cases hb11 : (!(wf p funcs (ex.kids.getD k Ex.zero) vars))
     ·
      refine c_cond_f (by first | rfl | (show Value.bool _ = _; rw [hb11])) (wp_skip (wp_plain _ [0,0,0] rfl (lw_tv 1 rfl (q_add ((k + 1 :Nat):Int) rfl rfl (w64n oM sD) zN (lw_tvn 1 rfl ?_)))))
      exact ⟨(k + 1),_,rfl,⟨rfl,rfl,rfl,rfl,rfl,trivial⟩,⟨hE10,sD,z165_1⟩,by first | omega | (dsimp only; omega)⟩
     ·
      exact c_cond_t (by first | rfl | (show Value.bool _ = _; rw [hb11])) (wp_seq (wp_plain _ [0] rfl (lw_tvn 1 rfl (wp_ret (b_ret (t_ret (t_ret (b_ret (t_ret (post_ret [8] rfl (.bool false) rfl ⟨z165_0,hE10⟩))))))))))
   ·
    refine q_eql false rfl rfl (decide_eq_false hc6) zN (lw_tvn 4 rfl (c_cond_f rfl (wp_skip (wp_seq (wp_plain _ [0,0,0,0,2,0,0,0,0,3,0] rfl (lw_tv 2 rfl (q_nilP (hex.isPtr) rfl zN (q_fldL (p := ve) 4 fd94_4 rfl (hl4 _ (Chg.of_ext [] hE3)) zN (q_load (p := (padd ve 4)) (.inr rfl) ve4 one78 rfl ((hl4 _ (Chg.of_ext [] hE3)).ld (i := 4) (by simp [exC,fnC])) zN (lw_tv 1 rfl ?_))))))))))
    refine q_idx (v := ve4) k u78 tiS94 rfl rfl hx4.rn.isSl rfl sD zN (lw_tv 2 rfl ?_)
    refine lw_call 165 [] [] [vp,(eptr ve4 k 5),(.int .i64 vars),(.int .i64 funcs)] rfl rfl cf165 zN (ih dd4 oM _ dp vp (p) (eptr ve4 k 5) (ex.kids.getD k Ex.zero) _ _ (hp.ext (good_rP (good_rPr dp)) hE3) (RN.ptr (good_rEx dd4) (by decide) Ex.zero (hx4.rn.ext (good_rdS (good_rEx dd4)) hE3) sD) _hvars _hfuncs oM oM) ?_
    rintro e12 w12 ⟨rfl,hX12⟩
    refine ⟨_,rfl,hX12,?_⟩
    have hzs12:=hX12.size
    have hE12:=hE3.trans hX12
    refine q_not (!(wf p funcs (ex.kids.getD k Ex.zero) vars)) rfl rfl zN (lw_nil ?_)
    cases hb13 : (!(wf p funcs (ex.kids.getD k Ex.zero) vars))
    ·
     refine c_cond_f (by first | rfl | (show Value.bool _ = _; rw [hb13])) (wp_skip (wp_plain _ [0,0,0] rfl (lw_tv 1 rfl (q_add ((k + 1 :Nat):Int) rfl rfl (w64n oM sD) zN (lw_tvn 1 rfl ?_)))))
     exact ⟨(k + 1),_,rfl,⟨rfl,rfl,rfl,rfl,rfl,trivial⟩,⟨hE12,sD,z165_1⟩,by first | omega | (dsimp only; omega)⟩
    ·
     exact c_cond_t (by first | rfl | (show Value.bool _ = _; rw [hb13])) (wp_seq (wp_plain _ [0] rfl (lw_tvn 1 rfl (wp_ret (b_ret (t_ret (t_ret (b_ret (t_ret (post_ret [8] rfl (.bool false) rfl ⟨z165_0,hE12⟩))))))))))
  ·
   exact q_lss false rfl rfl (decide_eq_false hc5) zN (lw_nil (c_cond_f rfl (wp_exit (t_exit (t_exit (c_exit_here (wp_seq (wp_plain _ [0] rfl (lw_tvn 1 rfl (wp_ret (post_ret [8] rfl (.bool true) rfl ⟨z165_0,hE3⟩)))))))))))
 ·
  exact c_cond_t (by first | rfl | (show Value.bool _ = _; rw [hb2])) (wp_seq (wp_plain _ [0] rfl (lw_tvn 1 rfl (wp_ret (t_ret (post_ret [8] rfl (.bool false) rfl ⟨z165_0,hE1⟩))))))
theorem c_spec_l02Vars (w : World) (vars : Int) (_hvars : -9223372036854775808 ≤ vars ∧ vars ≤ 9223372036854775807)  :
  Calls Tryz.prog 163 #[.int .i64 vars] w (fun e w' => e = .returned (.bool (inB vars 0 412)) ∧ w' = w) := by
 refine calls_mk [.int .i64 vars] 5 Tryz.func163 rfl rfl sM ?_
 have hE0 : w = w := rfl
 exact wp_seq (wp_plain _ [0] rfl (lw_tvn 1 rfl (wp_seq (wp_plain _ [0,0,0] rfl (lw_tv 1 rfl (lw_callq 63 [] [] [(.int .i64 vars),(.int .i64 ((0 :Nat):Int)),(.int .i64 ((412 :Nat):Int))] rfl rfl cf63 zN (.bool (decide (((0 :Nat):Int) ≤ vars) && decide (vars ≤ ((412 :Nat):Int)))) (fun wq => c_spec_l00In wq _ _ _ _hvars oM oM) (lw_tvn 1 rfl (wp_ret (post_ret [2] rfl (.bool (decide (((0 :Nat):Int) ≤ vars) && decide (vars ≤ ((412 :Nat):Int)))) rfl ⟨rfl,hE0⟩)))))))))
theorem z139_0 {p : Prop} (h : p := by first | exact ret_bool (exB_w (by assumption)) | exact ret_bool (exB_t ⟨inB_iff.1 (by assumption), inB_e (by assumption), by omega, by omega⟩) | exact ret_bool ((by assumption : wf p funcs ex vars = true).symm.trans (exB_t ⟨inB_iff.1 (by assumption), inB_e (by assumption), by omega, by omega⟩)) | exact ret_bool (exB_f fun hh => inB_f (by assumption) hh.1) | exact ret_bool (exB_f fun hh => inB_d (by assumption) hh.2.1) | exact ret_bool (exB_f oM)) : p := h
theorem c_spec_l02Expr (w : World) (dp : Nat) (vp : Value) (p : List Fn) (dex : Nat) (ve : Value) (ex : Ex) (vars : Int) (funcs : Int) (hp : RN [] (rP (rPr dp)) w.heap vp p) (hex : RN [] (rP (rEx dex)) w.heap ve ex) (_hvars : -9223372036854775808 ≤ vars ∧ vars ≤ 9223372036854775807) (_hfuncs : -9223372036854775808 ≤ funcs ∧ funcs ≤ 9223372036854775807) (hs : ex.size ≤ 1000000000) :
  Calls Tryz.prog 139 #[vp,ve,.int .i64 vars,.int .i64 funcs] w (fun e w' => e = .returned (.bool (exB p ex vars funcs)) ∧ Ext w w') := by
 refine calls_mk [vp,ve,.int .i64 vars,.int .i64 funcs] 37 Tryz.func139 rfl rfl sM ?_
 have hE0 : Ext w w := Ext.refl w
 have hlp := lftE_pos (e := ex) (x := ((400 :Nat):Int)) oM
 refine wp_seq (wp_plain _ [0] rfl (lw_tvn 1 rfl (wp_seq (wp_plain _ [0,0,0,0,0,0,0,2,0,0,0,0,0,3,0,0,0,0,3,0,0,0,0,0,0,0,3,0,0] rfl (lw_tv 1 rfl (lw_callq 163 [] [] [(.int .i64 vars)] rfl rfl cf163 zN (.bool (inB vars 0 412)) (fun wq => c_spec_l02Vars wq _ _hvars) (lw_tv 1 rfl ?_)))))))
 cases hb2 : (inB vars 0 412)
 ·
  exact lw_tvn 26 rfl (wp_ret (post_ret [8] rfl (.bool false) rfl ⟨z139_0,hE0⟩))
 ·
  refine lw_tv 2 rfl (q_nilP (hp.isPtr) rfl (zS (e := 11) rfl rfl rfl) ?_)
  obtain ⟨cs3,hr3,hl3⟩ := RN.at (good_rPr _) hp
  obtain ⟨ve3,rfl,hx3⟩ := RPr.of hr3
  have hln3 := hx3.lenle
  unfold maxLen at hln3
  refine q_fldL (p := vp) 0 fd32_0 rfl (hl3 _ (Chg.of_ext [] hE0)) (zS (e := 11) rfl rfl rfl) (q_load (p := (padd vp 0)) (.inr rfl) ve3 one30 rfl ((hl3 _ (Chg.of_ext [] hE0)).ld (i := 0) (by simp [exC,fnC])) (zS (e := 11) rfl rfl rfl) (q_len (v := ve3) u30 rfl hx3.isSl (zS (e := 11) rfl rfl rfl) (lw_callq 63 [] [] [(.int .i64 funcs),(.int .i64 ((0 :Nat):Int)),(.int .i64 ((p.length :Nat):Int))] rfl rfl cf63 (zS (e := 11) rfl rfl rfl) (.bool (decide (((0 :Nat):Int) ≤ funcs) && decide (funcs ≤ ((p.length :Nat):Int)))) (fun wq => c_spec_l00In wq _ _ _ _hfuncs oM oM) (lw_tv 2 rfl ?_))))
  cases hb5 : (decide (((0 :Nat):Int) ≤ funcs) && decide (funcs ≤ ((p.length :Nat):Int)))
  ·
   exact lw_tvn 17 rfl (wp_ret (post_ret [8] rfl (.bool false) rfl ⟨z139_0,hE0⟩))
  ·
   refine lw_tv 1 rfl (lw_call 138 [] [] [ve,(.int .i64 ((400 :Nat):Int))] rfl rfl cf138 (zS (e := 20) rfl rfl rfl) (c_spec_l02Left _ dex ve (ex) _ (hex.ext (good_rP (good_rEx dex)) hE0) oM oM oM) ?_)
   rintro e6 w6 ⟨rfl,hX6⟩
   refine ⟨_,rfl,hX6,?_⟩
   have hzs6:=hX6.size
   have hE6:=hE0.trans hX6
   by_cases hc7 : ((0 :Nat):Int) ≤ lftE ex ((400 :Nat):Int)
   ·
    refine q_geq true rfl rfl (decide_eq_true hc7) (zS (e := 20) rfl rfl rfl) (lw_tv 3 rfl (lw_call 164 [] [] [ve] rfl rfl cf164 (zS (e := 25) rfl rfl rfl) (c_spec_l02Depth _ dex ve (ex) (hex.ext (good_rP (good_rEx dex)) hE6) oM) ?_))
    rintro e8 w8 ⟨rfl,hX8⟩
    refine ⟨_,rfl,hX8,?_⟩
    have hzs8:=hX8.size
    have hE8:=hE6.trans hX8
    by_cases hc9 : ((ex.deep :Nat):Int) ≤ ((60 :Nat):Int)
    ·
     refine q_leq true rfl rfl (decide_eq_true hc9) (zS (e := 25) rfl rfl rfl) (lw_tv 6 rfl (lw_call 165 [] [] [vp,ve,(.int .i64 vars),(.int .i64 funcs)] rfl rfl cf165 (zS (e := 30) rfl rfl rfl) (c_spec_l02Tree _ dp vp (p) dex ve (ex) _ _ (hp.ext (good_rP (good_rPr dp)) hE8) (hex.ext (good_rP (good_rEx dex)) hE8) _hvars _hfuncs (by have h1 := inB_iff.1 (by assumption : inB vars 0 412 = true); omega) (by have h2 := inB_e (by assumption : (decide (((0 :Nat):Int) ≤ funcs) && decide (funcs ≤ ((p.length :Nat):Int))) = true); omega)) ?_))
     rintro e10 w10 ⟨rfl,hX10⟩
     refine ⟨_,rfl,hX10,?_⟩
     have hzs10:=hX10.size
     have hE10:=hE8.trans hX10
     exact lw_tvn 2 rfl (wp_ret (post_ret [8] rfl (.bool (wf p funcs ex vars)) rfl ⟨z139_0,hE10⟩))
    ·
     exact q_leq false rfl rfl (decide_eq_false hc9) (zS (e := 25) rfl rfl rfl) (lw_tvn 9 rfl (wp_ret (post_ret [8] rfl (.bool false) rfl ⟨z139_0,hE8⟩)))
   ·
    exact q_geq false rfl rfl (decide_eq_false hc7) (zS (e := 20) rfl rfl rfl) (lw_tvn 14 rfl (wp_ret (post_ret [8] rfl (.bool false) rfl ⟨z139_0,hE6⟩)))
theorem nm_len {s : ByteArray} (h : ¬ (1 ≤ s.size ∧ s.size ≤ 12)) : false = nmB s := by
  cases hh : nmB s with
  | false => rfl
  | true => unfold nmB at hh; simp only [Bool.and_eq_true, decide_eq_true_eq] at hh; exact absurd hh.1 h
theorem z137_0 {p : Prop} (h : p := by first | exact ret_bool (nm_len (fun hh => inB_d (bn_t (by assumption)) ⟨by omega, by omega⟩)) | exact ret_bool (nm_bad (k := 0) oM oM) | exact ret_bool (nm_bad (k := k) oM oM) | exact ret_bool (nm_end hq oM (by rw [decide_eq_true (show 1 ≤ s.size by omega), decide_eq_true (show s.size ≤ 12 by omega)]; rfl))) : p := h
theorem z137_1 {p : Prop} (h : p := by exact allR_succ hq (ch_ok (by (by_cases h0 : k = 0; (rw [h0]; left; omega); omega)))) : p := h
theorem c_spec_IsName (w : World) (s : ByteArray)  (hl : s.size ≤ 1000000000) :
  Calls Tryz.prog 137 #[.string s] w (fun e w' => e = .returned (.bool (nmB s)) ∧ w' = w) := by
 refine calls_mk [.string s] 46 Tryz.func137 rfl rfl sM ?_
 have hE0 : w = w := rfl
 refine wp_seq (wp_plain _ [0] rfl (lw_tvn 1 rfl (wp_seq (wp_seq (wp_plain _ [0,0,0,0,0,0,0,0,0,0,0,0,0,0] rfl (lw_tv 1 rfl (q_lens (s := s) u9 rfl zN (lw_callq 63 [] [] [(.int .i64 ((s.size :Nat):Int)),(.int .i64 ((1 :Nat):Int)),(.int .i64 ((12 :Nat):Int))] rfl rfl cf63 zN (.bool (decide (((1 :Nat):Int) ≤ ((s.size :Nat):Int)) && decide (((s.size :Nat):Int) ≤ ((12 :Nat):Int)))) (fun wq => c_spec_l00In wq _ _ _ oM oM oM) (q_not (!(decide (((1 :Nat):Int) ≤ ((s.size :Nat):Int)) && decide (((s.size :Nat):Int) ≤ ((12 :Nat):Int)))) rfl rfl zN (lw_tv 1 rfl ?_))))))))))
 cases hb2 : (!(decide (((1 :Nat):Int) ≤ ((s.size :Nat):Int)) && decide (((s.size :Nat):Int) ≤ ((12 :Nat):Int))))
 ·
  refine lw_tv 1 rfl ?_
  have hsz := inB_e (bn_f (by assumption) : (decide (((1 :Nat):Int) ≤ ((s.size :Nat):Int)) && decide (((s.size :Nat):Int) ≤ ((12 :Nat):Int))) = true)
  refine q_index (s := s) 0 u9 rfl rfl rfl sD (zS (e := 8) rfl rfl rfl) ?_
  by_cases hc3 : ((sAt s 0 :Nat):Int) < 97
  ·
   exact q_lss true rfl rfl (decide_eq_true hc3) (zS (e := 8) rfl rfl rfl) (lw_tvn 6 rfl (c_cond_t rfl (wp_seq (wp_plain _ [0] rfl (lw_tvn 1 rfl (wp_ret (t_ret (post_ret [2] rfl (.bool false) rfl ⟨z137_0,hE0⟩))))))))
  ·
   refine q_lss false rfl rfl (decide_eq_false hc3) (zS (e := 8) rfl rfl rfl) (lw_tv 3 rfl (q_index (s := s) 0 u9 rfl rfl rfl sD (zS (e := 13) rfl rfl rfl) ?_))
   by_cases hc4 : 122 < ((sAt s 0 :Nat):Int)
   ·
    exact q_gtr true rfl rfl (decide_eq_true hc4) (zS (e := 13) rfl rfl rfl) (lw_tvn 1 rfl (c_cond_t rfl (wp_seq (wp_plain _ [0] rfl (lw_tvn 1 rfl (wp_ret (t_ret (post_ret [2] rfl (.bool false) rfl ⟨z137_0,hE0⟩))))))))
   ·
    refine q_gtr false rfl rfl (decide_eq_false hc4) (zS (e := 13) rfl rfl rfl) (lw_tvn 1 rfl (c_cond_f rfl (wp_skip (wp_seq (wp_seq (wp_plain _ [0] rfl (lw_tvn 1 rfl (wp_block (c_loop (S := Nat) (fun (k : Nat) => ([(3,(.int .i64 ((k :Nat):Int))),(0,(.string s))] : List (Nat × Value))) (fun (k : Nat) (W : World) => W = w ∧ k ≤ s.size ∧ (List.range k).all (chB s) = true) (fun (k : Nat) => s.size - k) 0 ⟨rfl,rfl,trivial⟩ ⟨hE0,sD,(by rfl)⟩ ?_)))))))))
    clear hE0
    rintro k ρ5 w5 ⟨hE5,hp5_0,hq⟩
    refine wp_seq (wp_seq (wp_plain _ [0,0,0,0] rfl (lw_tv 2 rfl (q_lens (s := s) u9 rfl zN ?_))))
    by_cases hc6 : ((k :Nat):Int) < ((s.size :Nat):Int)
    ·
     refine q_lss true rfl rfl (decide_eq_true hc6) zN (lw_nil (c_cond_t rfl (wp_skip (wp_seq (wp_block (wp_seq (wp_plain _ [0,0,0,0,0,0,0,0,0,0,0,0,0,0,0,0,0,0,0,0,0,0] rfl (lw_tv 2 rfl (q_index (s := s) k u9 rfl rfl rfl sD zN ?_)))))))))
     by_cases hc7 : ((sAt s k :Nat):Int) < 97
     ·
      refine q_lss true rfl rfl (decide_eq_true hc7) zN (lw_tv 9 rfl (q_index (s := s) k u9 rfl rfl rfl sD (zS (e := 34) rfl rfl rfl) ?_))
      by_cases hc8 : ((sAt s k :Nat):Int) < 48
      ·
       exact q_lss true rfl rfl (decide_eq_true hc8) (zS (e := 34) rfl rfl rfl) (lw_tvn 7 rfl (c_cond_t rfl (wp_seq (wp_plain _ [0] rfl (lw_tvn 1 rfl (wp_ret (b_ret (t_ret (t_ret (b_ret (t_ret (post_ret [2] rfl (.bool false) rfl ⟨z137_0,hE5⟩))))))))))))
      ·
       refine q_lss false rfl rfl (decide_eq_false hc8) (zS (e := 34) rfl rfl rfl) (lw_tv 3 rfl (q_index (s := s) k u9 rfl rfl rfl sD (zS (e := 39) rfl rfl rfl) ?_))
       by_cases hc9 : 57 < ((sAt s k :Nat):Int)
       ·
        exact q_gtr true rfl rfl (decide_eq_true hc9) (zS (e := 39) rfl rfl rfl) (lw_tvn 2 rfl (c_cond_t rfl (wp_seq (wp_plain _ [0] rfl (lw_tvn 1 rfl (wp_ret (b_ret (t_ret (t_ret (b_ret (t_ret (post_ret [2] rfl (.bool false) rfl ⟨z137_0,hE5⟩))))))))))))
       ·
        refine q_gtr false rfl rfl (decide_eq_false hc9) (zS (e := 39) rfl rfl rfl) (lw_tvn 2 rfl (c_cond_f rfl (wp_skip (wp_plain _ [0,0,0] rfl (lw_tv 1 rfl (q_add ((k + 1 :Nat):Int) rfl rfl (w64n oM sD) zN (lw_tvn 1 rfl ?_)))))))
        exact ⟨(k + 1),_,rfl,⟨rfl,rfl,trivial⟩,⟨hE5,sD,z137_1⟩,by first | omega | (dsimp only; omega)⟩
     ·
      refine q_lss false rfl rfl (decide_eq_false hc7) zN (lw_tv 3 rfl (q_index (s := s) k u9 rfl rfl rfl sD (zS (e := 28) rfl rfl rfl) ?_))
      by_cases hc10 : 122 < ((sAt s k :Nat):Int)
      ·
       refine q_gtr true rfl rfl (decide_eq_true hc10) (zS (e := 28) rfl rfl rfl) (lw_tv 4 rfl (q_index (s := s) k u9 rfl rfl rfl sD (zS (e := 34) rfl rfl rfl) ?_))
       by_cases hc11 : ((sAt s k :Nat):Int) < 48
       ·
        exact q_lss true rfl rfl (decide_eq_true hc11) (zS (e := 34) rfl rfl rfl) (lw_tvn 7 rfl (c_cond_t rfl (wp_seq (wp_plain _ [0] rfl (lw_tvn 1 rfl (wp_ret (b_ret (t_ret (t_ret (b_ret (t_ret (post_ret [2] rfl (.bool false) rfl ⟨z137_0,hE5⟩))))))))))))
       ·
        refine q_lss false rfl rfl (decide_eq_false hc11) (zS (e := 34) rfl rfl rfl) (lw_tv 3 rfl (q_index (s := s) k u9 rfl rfl rfl sD (zS (e := 39) rfl rfl rfl) ?_))
        by_cases hc12 : 57 < ((sAt s k :Nat):Int)
        ·
         exact q_gtr true rfl rfl (decide_eq_true hc12) (zS (e := 39) rfl rfl rfl) (lw_tvn 2 rfl (c_cond_t rfl (wp_seq (wp_plain _ [0] rfl (lw_tvn 1 rfl (wp_ret (b_ret (t_ret (t_ret (b_ret (t_ret (post_ret [2] rfl (.bool false) rfl ⟨z137_0,hE5⟩))))))))))))
        ·
         refine q_gtr false rfl rfl (decide_eq_false hc12) (zS (e := 39) rfl rfl rfl) (lw_tvn 2 rfl (c_cond_f rfl (wp_skip (wp_plain _ [0,0,0] rfl (lw_tv 1 rfl (q_add ((k + 1 :Nat):Int) rfl rfl (w64n oM sD) zN (lw_tvn 1 rfl ?_)))))))
         exact ⟨(k + 1),_,rfl,⟨rfl,rfl,trivial⟩,⟨hE5,sD,z137_1⟩,by first | omega | (dsimp only; omega)⟩
      ·
       refine q_gtr false rfl rfl (decide_eq_false hc10) (zS (e := 28) rfl rfl rfl) (lw_tvn 13 rfl (c_cond_f rfl (wp_skip (wp_plain _ [0,0,0] rfl (lw_tv 1 rfl (q_add ((k + 1 :Nat):Int) rfl rfl (w64n oM sD) zN (lw_tvn 1 rfl ?_)))))))
       exact ⟨(k + 1),_,rfl,⟨rfl,rfl,trivial⟩,⟨hE5,sD,z137_1⟩,by first | omega | (dsimp only; omega)⟩
    ·
     exact q_lss false rfl rfl (decide_eq_false hc6) zN (lw_nil (c_cond_f rfl (wp_exit (t_exit (t_exit (c_exit_here (wp_seq (wp_plain _ [0] rfl (lw_tvn 1 rfl (wp_ret (post_ret [2] rfl (.bool true) rfl ⟨z137_0,hE5⟩)))))))))))
 ·
  exact lw_tvn 9 rfl (c_cond_t rfl (wp_seq (wp_plain _ [0] rfl (lw_tvn 1 rfl (wp_ret (t_ret (post_ret [2] rfl (.bool false) rfl ⟨z137_0,hE0⟩)))))))
end Go.Proofs.YtnofbmdpabcjaaaGreat
namespace Go.Proofs.YtnofbmdpabcjaaaGreat
open Go Go.RowKit
set_option linter.unusedVariables false
set_option linter.unusedSimpArgs false
set_option maxHeartbeats 4000000
set_option maxRecDepth 100000
attribute [local irreducible] LW
theorem any_step {α : Type} {l : List α} {f : α → Bool} {k : Nat} (d : α) (hk : k < l.length) (h : (l.take k).any f = false) (h2 : f (l.getD k d) = false) : (l.take (k + 1)).any f = false := by
  rw [List.take_succ_eq_append_getElem hk, List.any_append, h]
  have : l.getD k d = l[k] := by simp [hk]
  rw [this] at h2
  simp [h2]
theorem any_hit {α : Type} {l : List α} {f : α → Bool} {k n : Nat} (d : α) (hk : k < n) (hn : n ≤ l.length) (h : f (l.getD k d) = true) : (l.take n).any f = true := by
  rw [List.any_eq_true]
  have hkl : k < l.length := by omega
  have e : l.getD k d = l[k] := by simp [hkl]
  refine ⟨l[k], ?_, by rw [← e]; exact h⟩
  rw [List.mem_take_iff_getElem]
  exact ⟨k, by omega, rfl⟩
theorem left_ok {p : List Fn} {a j : Nat} {x : Int} (hx : x = lfts ((p.getD a Fn.zero).outs.take j) ((400 : Nat) : Int)) (h : 0 ≤ x) (hj : (p.getD a Fn.zero).outs.length ≤ j) : Ex.sizes (p.getD a Fn.zero).outs ≤ 400 := by
  rw [List.take_of_length_le hj] at hx
  rcases lfts_spec (p.getD a Fn.zero).outs ((400 : Nat) : Int) (Int.natCast_nonneg _) with h2 | h2
  · have := h2.2; omega
  · have := h2.1; omega
theorem left_neg {p : List Fn} {a j : Nat} (h : lfts ((p.getD a Fn.zero).outs.take j) ((400 : Nat) : Int) < 0) : fnB p a = false := fn_6 (by
  have h1 := lfts_stop h
  rcases lfts_spec (p.getD a Fn.zero).outs ((400 : Nat) : Int) (Int.natCast_nonneg _) with h2 | h2
  · have := h2.1; have := h2.2; omega
  · have := h2.2; omega)
theorem z113_0 {p : Prop} (h : p := by first | exact ret_bool (fn_1 (bn_t (by assumption))).symm | exact ret_bool (fn_3 (bn_t (by assumption))).symm | exact ret_bool (fn_4 (bn_t (by assumption))).symm | exact ret_bool (fn_2 (any_hit (k := k) Fn.zero oM oM (by assumption))).symm | exact ret_bool (left_neg (j := j + 1) (by rw [hnx, ← hx]; omega)).symm | exact ret_bool (fn_5 (j := j) oM (bn_t (by assumption))).symm | exact ret_bool (fn_ok (bn_f (by assumption)) hqa (bn_f (by assumption)) (bn_f (by assumption)) hqe oM (left_ok hx oM oM)).symm) : p := h
theorem z113_1 {p : Prop} (h : p := by simp [exC, fnC]) : p := h
theorem c_spec_l02Func (w : World) (dp : Nat) (vp : Value) (p : List Fn) (a : Nat) (hp : RN [] (rP (rPr dp)) w.heap vp p) (ha : a < p.length) (hpl : p.length ≤ 1000000) (hz : SzP p) :
  Calls Tryz.prog 113 #[vp,.int .i64 ((a :Nat):Int)] w (fun e w' => e = .returned (.bool (fnB p a)) ∧ Ext w w') := by
 refine calls_mk [vp,.int .i64 ((a :Nat):Int)] 91 Tryz.func113 rfl rfl sM ?_
 have hE0 : Ext w w := Ext.refl w
 have hza := hz a ha
 refine wp_seq (wp_plain _ [0] rfl (lw_tvn 1 rfl (wp_seq (wp_plain _ [0,0,0,2,0,0,0] rfl (lw_tv 1 rfl (q_nilP (hp.isPtr) rfl zN ?_))))))
 obtain ⟨cs1,hr1,hl1⟩ := RN.at (good_rPr _) hp
 obtain ⟨ve1,rfl,hx1⟩ := RPr.of hr1
 have hln1 := hx1.lenle
 unfold maxLen at hln1
 refine q_fldL (p := vp) 0 fd32_0 rfl (hl1 _ (Chg.of_ext [] hE0)) zN (q_load (p := (padd vp 0)) (.inr rfl) ve1 one30 rfl ((hl1 _ (Chg.of_ext [] hE0)).ld (i := 0) z113_1) zN (lw_tv 1 rfl (q_idx (v := ve1) a u30 tiS80 rfl rfl hx1.isSl rfl sD zN (lw_tvn 1 rfl (wp_seq (wp_seq (wp_plain _ [0,0,0,2,0,0,0,0,0,0,2,0,0,0,0,0,0,0,2,0,0,0,0] rfl (lw_tv 1 rfl ?_))))))))
 refine q_nilP (RN.isPtr (RN.ptr (good_rFn dp) (by decide) Fn.zero hx1 sD)) rfl zN ?_
 obtain ⟨cs2,hr2,hl2⟩ := hx1.get (good_rFn dp) Fn.zero (k := a) sD
 obtain ⟨ve2,rfl,hx2⟩ := RF.of hr2
 have hln2 := hx2.rn.lenle
 unfold maxLen at hln2
 refine q_fldL (p := eptr ve1 a 3) 0 fd80_0 rfl (hl2 _ (Chg.of_ext [] hE0)) zN (q_load (p := (padd (eptr ve1 a 3) 0)) (.inr rfl) (.string ((p.getD a Fn.zero).name)) one9 rfl ((hl2 _ (Chg.of_ext [] hE0)).ld (i := 0) z113_1) zN (lw_callq 137 [] [] [(.string ((p.getD a Fn.zero).name))] rfl rfl cf137 zN (.bool (nmB ((p.getD a Fn.zero).name))) (fun wq => c_spec_IsName wq ((p.getD a Fn.zero).name) oM) (q_not (!(nmB ((p.getD a Fn.zero).name))) rfl rfl zN (lw_tv 1 rfl ?_))))
 cases hb4 : (!(nmB ((p.getD a Fn.zero).name)))
 ·
  refine lw_tv 1 rfl (q_nilP (RN.isPtr (RN.ptr (good_rFn dp) (by decide) Fn.zero hx1 sD)) rfl (zS (e := 21) rfl rfl rfl) (q_fldL (p := eptr ve1 a 3) 1 fd80_1 rfl (hl2 _ (Chg.of_ext [] hE0)) (zS (e := 21) rfl rfl rfl) (q_load (p := (padd (eptr ve1 a 3) 1)) (.inr rfl) (.int .i64 ((p.getD a Fn.zero).params)) one2 rfl ((hl2 _ (Chg.of_ext [] hE0)).ld (i := 1) z113_1) (zS (e := 21) rfl rfl rfl) ?_)))
  refine lw_callq 63 [] [] [(.int .i64 ((p.getD a Fn.zero).params)),(.int .i64 ((0 :Nat):Int)),(.int .i64 ((12 :Nat):Int))] rfl rfl cf63 (zS (e := 21) rfl rfl rfl) (.bool (decide (((0 :Nat):Int) ≤ ((p.getD a Fn.zero).params)) && decide (((p.getD a Fn.zero).params) ≤ ((12 :Nat):Int)))) (fun wq => c_spec_l00In wq _ _ _ hx2.rng oM oM) (q_not (!(decide (((0 :Nat):Int) ≤ ((p.getD a Fn.zero).params)) && decide (((p.getD a Fn.zero).params) ≤ ((12 :Nat):Int)))) rfl rfl (zS (e := 21) rfl rfl rfl) (lw_tv 2 rfl ?_))
  cases hb6 : (!(decide (((0 :Nat):Int) ≤ ((p.getD a Fn.zero).params)) && decide (((p.getD a Fn.zero).params) ≤ ((12 :Nat):Int))))
  ·
   refine lw_tv 1 rfl (q_nilP (RN.isPtr (RN.ptr (good_rFn dp) (by decide) Fn.zero hx1 sD)) rfl (zS (e := 29) rfl rfl rfl) (q_fldL (p := eptr ve1 a 3) 2 fd80_2 rfl (hl2 _ (Chg.of_ext [] hE0)) (zS (e := 29) rfl rfl rfl) (q_load (p := (padd (eptr ve1 a 3) 2)) (.inr rfl) ve2 one78 rfl ((hl2 _ (Chg.of_ext [] hE0)).ld (i := 2) z113_1) (zS (e := 29) rfl rfl rfl) (q_len (v := ve2) u78 rfl hx2.rn.isSl (zS (e := 29) rfl rfl rfl) ?_))))
   refine lw_callq 63 [] [] [(.int .i64 ((((p.getD a Fn.zero).outs).length :Nat):Int)),(.int .i64 ((1 :Nat):Int)),(.int .i64 ((12 :Nat):Int))] rfl rfl cf63 (zS (e := 29) rfl rfl rfl) (.bool (decide (((1 :Nat):Int) ≤ ((((p.getD a Fn.zero).outs).length :Nat):Int)) && decide (((((p.getD a Fn.zero).outs).length :Nat):Int) ≤ ((12 :Nat):Int)))) (fun wq => c_spec_l00In wq _ _ _ oM oM oM) (q_not (!(decide (((1 :Nat):Int) ≤ ((((p.getD a Fn.zero).outs).length :Nat):Int)) && decide (((((p.getD a Fn.zero).outs).length :Nat):Int) ≤ ((12 :Nat):Int)))) rfl rfl (zS (e := 29) rfl rfl rfl) (lw_tvn 1 rfl ?_))
   cases hb8 : (!(decide (((1 :Nat):Int) ≤ ((((p.getD a Fn.zero).outs).length :Nat):Int)) && decide (((((p.getD a Fn.zero).outs).length :Nat):Int) ≤ ((12 :Nat):Int))))
   ·
    refine c_cond_f (by first | rfl | (show Value.bool _ = _; rw [hb8])) (wp_skip (wp_seq (wp_seq (wp_plain _ [0] rfl (lw_tvn 1 rfl (wp_block ?_))))))
    refine c_loop (S := Nat) (fun (k : Nat) => ([(6,(.int .i64 ((k :Nat):Int))),(0,vp),(1,(.int .i64 ((a :Nat):Int))),(5,(eptr ve1 a 3))] : List (Nat × Value))) (fun (k : Nat) (W : World) => Ext w W ∧ k ≤ a ∧ (p.take k).any (fun g => strE g.name (p.getD a Fn.zero).name) = false) (fun (k : Nat) => a - k) 0 ⟨rfl,rfl,rfl,rfl,trivial⟩ ⟨hE0,sD,(by rfl)⟩ ?_
    clear hE0 hln1 hln2
    rintro k ρ9 w9 ⟨hE9,hp9_0,hq⟩
    have hzs9 : w.heap.size ≤ w9.heap.size := hE9.size
    refine wp_seq (wp_seq (wp_plain _ [0,0,0] rfl (lw_tv 2 rfl ?_)))
    by_cases hc10 : ((k :Nat):Int) < ((a :Nat):Int)
    ·
     refine q_lss true rfl rfl (decide_eq_true hc10) zN (lw_nil (c_cond_t rfl (wp_skip (wp_seq (wp_block (wp_seq (wp_draw _ [0,0,0,1,0,0,0,1,0,0,0,1,0] mixed (by kernel_rfl) (lw_tv 1 rfl (q_nilP (hp.isPtr) rfl zN (q_fldL (p := vp) 0 fd32_0 rfl (hl1 _ (Chg.of_ext [] hE9.drew)) zN (q_load (p := (padd vp 0)) (.inl rfl) ve1 one30 rfl ((hl1 _ (Chg.of_ext [] hE9.drew)).ld (i := 0) z113_1) zN (lw_tv 1 rfl ?_))))))))))))
     refine q_idx (v := ve1) k u30 tiS80 rfl rfl hx1.isSl rfl sD zN ?_
     obtain ⟨cs11,hr11,hl11⟩ := hx1.get (good_rFn dp) Fn.zero (k := k) sD
     obtain ⟨ve11,rfl,hx11⟩ := RF.of hr11
     have hln11 := hx11.rn.lenle
     unfold maxLen at hln11
     refine q_fldL (p := eptr ve1 k 3) 0 fd80_0 rfl (hl11 _ (Chg.of_ext [] hE9.drew)) zN (q_load (p := (padd (eptr ve1 k 3) 0)) (.inl rfl) (.string ((p.getD k Fn.zero).name)) one9 rfl ((hl11 _ (Chg.of_ext [] hE9.drew)).ld (i := 0) z113_1) zN (lw_tv 1 rfl (q_nilP (RN.isPtr (RN.ptr (good_rFn dp) (by decide) Fn.zero hx1 sD)) rfl zN (q_fldL (p := eptr ve1 a 3) 0 fd80_0 rfl (hl2 _ (Chg.of_ext [] hE9.drew)) zN ?_))))
     refine q_load (p := (padd (eptr ve1 a 3) 0)) (.inl rfl) (.string ((p.getD a Fn.zero).name)) one9 rfl ((hl2 _ (Chg.of_ext [] hE9.drew)).ld (i := 0) z113_1) zN ?_
     cases hc12 : strE ((p.getD k Fn.zero).name) ((p.getD a Fn.zero).name)
     ·
      refine q_eqls false u9 rfl rfl hc12 zN (lw_nil (c_cond_f rfl (wp_skip (wp_plain _ [0,0,0] rfl (lw_tv 1 rfl (q_add ((k + 1 :Nat):Int) rfl rfl (w64n oM sD) zN (lw_tvn 1 rfl ?_)))))))
      exact ⟨(k + 1),_,rfl,⟨rfl,rfl,rfl,rfl,trivial⟩,⟨hE9.drew,sD,(by exact any_step Fn.zero oM hq (by assumption))⟩,by first | omega | (dsimp only; omega)⟩
     ·
      exact q_eqls true u9 rfl rfl hc12 zN (lw_nil (c_cond_t rfl (wp_seq (wp_plain _ [0] rfl (lw_tvn 1 rfl (wp_ret (b_ret (t_ret (t_ret (b_ret (t_ret (post_ret [4] rfl (.bool false) rfl ⟨z113_0,hE9.drew⟩))))))))))))
    ·
     refine q_lss false rfl rfl (decide_eq_false hc10) zN (lw_nil (c_cond_f rfl (wp_exit (t_exit (t_exit (c_exit_here (wp_seq (wp_plain _ [0] rfl ?_))))))))
     have hka : k = a := by omega
     rw [hka] at hq
     have hqa := hq
     refine lw_tvn 1 rfl (wp_seq (wp_seq (wp_plain _ [0] rfl (lw_tvn 1 rfl (wp_block ?_)))))
     refine c_loop (S := Nat × Int) (fun (⟨j,x⟩ : Nat × Int) => ([(7,(.int .i64 x)),(8,(.int .i64 ((j :Nat):Int))),(0,vp),(1,(.int .i64 ((a :Nat):Int))),(5,(eptr ve1 a 3))] : List (Nat × Value))) (fun (⟨j,x⟩ : Nat × Int) (W : World) => Ext w W ∧ j ≤ (p.getD a Fn.zero).outs.length ∧ x = lfts ((p.getD a Fn.zero).outs.take j) ((400 :Nat):Int) ∧ (0 ≤ x ∧ x ≤ 400) ∧ (List.range j).all (fun j => exB p ((p.getD a Fn.zero).outs.getD j Ex.zero) (p.getD a Fn.zero).params ((a :Nat):Int)) = true) (fun (⟨j,x⟩ : Nat × Int) => (p.getD a Fn.zero).outs.length - j) (0,((400 :Nat):Int)) ⟨rfl,rfl,rfl,rfl,rfl,trivial⟩ ⟨hE9,sD,(by rw [List.take_zero,lfts]),oM,(by rfl)⟩ ?_
     clear hE9 hzs9
     rintro ⟨j,x⟩ ρ13 w13 ⟨hE13,hp13_0,hx,hp13_2,hqe⟩
     have hzs13 : w.heap.size ≤ w13.heap.size := hE13.size
     refine wp_seq (wp_seq (wp_plain _ [0,0,0,0,2,0,0] rfl (lw_tv 2 rfl (q_nilP (RN.isPtr (RN.ptr (good_rFn dp) (by decide) Fn.zero hx1 sD)) rfl zN (q_fldL (p := eptr ve1 a 3) 2 fd80_2 rfl (hl2 _ (Chg.of_ext [] hE13)) zN (q_load (p := (padd (eptr ve1 a 3) 2)) (.inr rfl) ve2 one78 rfl ((hl2 _ (Chg.of_ext [] hE13)).ld (i := 2) z113_1) zN (q_len (v := ve2) u78 rfl hx2.rn.isSl zN ?_)))))))
     by_cases hc14 : ((j :Nat):Int) < ((((p.getD a Fn.zero).outs).length :Nat):Int)
     ·
      refine q_lss true rfl rfl (decide_eq_true hc14) zN (lw_nil (c_cond_t rfl (wp_skip (wp_seq (wp_block (wp_seq (wp_plain _ [0,0,0,2,0,0,0,3,0] rfl ?_)))))))
      have hst := sizes_step (l := (p.getD a Fn.zero).outs) (k := j) oM
      have hle := sizes_take (p.getD a Fn.zero).outs (j + 1)
      have hnx := lfts_step (l := (p.getD a Fn.zero).outs) (k := j) (x := ((400 :Nat):Int)) oM oM
      have hnr := lftE_rng (e := (p.getD a Fn.zero).outs.getD j Ex.zero) (x := x) oM
      refine lw_tv 1 rfl (q_nilP (RN.isPtr (RN.ptr (good_rFn dp) (by decide) Fn.zero hx1 sD)) rfl zN (q_fldL (p := eptr ve1 a 3) 2 fd80_2 rfl (hl2 _ (Chg.of_ext [] hE13)) zN (q_load (p := (padd (eptr ve1 a 3) 2)) (.inr rfl) ve2 one78 rfl ((hl2 _ (Chg.of_ext [] hE13)).ld (i := 2) z113_1) zN (lw_tv 1 rfl ?_))))
      refine q_idx (v := ve2) j u78 tiS94 rfl rfl hx2.rn.isSl rfl sD zN (lw_tv 1 rfl ?_)
      refine lw_call 138 [] [] [(eptr ve2 j 5),(.int .i64 x)] rfl rfl cf138 zN (c_spec_l02Left _ dp (eptr ve2 j 5) (((p.getD a Fn.zero).outs).getD j Ex.zero) _ (RN.ptr (good_rEx dp) (by decide) Ex.zero (hx2.rn.ext (good_rdS (good_rEx dp)) hE13) sD) oM oM oM) ?_
      rintro e15 w15 ⟨rfl,hX15⟩
      refine ⟨_,rfl,hX15,?_⟩
      have hzs15:=hX15.size
      have hE15:=hE13.trans hX15
      refine lw_tvn 1 rfl (wp_seq (wp_draw _ [0,0,0,0,0,0,0,1,0,0,0,0,0,1,0,3,0,0] mixed (by kernel_rfl) (lw_tv 1 rfl ?_)))
      by_cases hc16 : lftE (((p.getD a Fn.zero).outs).getD j Ex.zero) x < ((0 :Nat):Int)
      ·
       exact q_lss true rfl rfl (decide_eq_true hc16) zN (lw_tvn 16 rfl (c_cond_t rfl (wp_seq (wp_plain _ [0] rfl (lw_tvn 1 rfl (wp_ret (b_ret (t_ret (t_ret (b_ret (t_ret (post_ret [4] rfl (.bool false) rfl ⟨z113_0,hE15.drew⟩))))))))))))
      ·
       refine q_lss false rfl rfl (decide_eq_false hc16) zN (lw_tv 3 rfl (q_nilP (RN.isPtr (RN.ptr (good_rFn dp) (by decide) Fn.zero hx1 sD)) rfl (zS (e := 75) rfl rfl rfl) (q_fldL (p := eptr ve1 a 3) 2 fd80_2 rfl (hl2 _ (Chg.of_ext [] hE15.drew)) (zS (e := 75) rfl rfl rfl) (q_load (p := (padd (eptr ve1 a 3) 2)) (.inl rfl) ve2 one78 rfl ((hl2 _ (Chg.of_ext [] hE15.drew)).ld (i := 2) z113_1) (zS (e := 75) rfl rfl rfl) (lw_tv 1 rfl ?_)))))
       refine q_idx (v := ve2) j u78 tiS94 rfl rfl hx2.rn.isSl rfl sD (zS (e := 75) rfl rfl rfl) (lw_tv 1 rfl ?_)
       refine q_nilP (RN.isPtr (RN.ptr (good_rFn dp) (by decide) Fn.zero hx1 sD)) rfl (zS (e := 75) rfl rfl rfl) (q_fldL (p := eptr ve1 a 3) 1 fd80_1 rfl (hl2 _ (Chg.of_ext [] hE15.drew)) (zS (e := 75) rfl rfl rfl) (q_load (p := (padd (eptr ve1 a 3) 1)) (.inl rfl) (.int .i64 ((p.getD a Fn.zero).params)) one2 rfl ((hl2 _ (Chg.of_ext [] hE15.drew)).ld (i := 1) z113_1) (zS (e := 75) rfl rfl rfl) (lw_tv 1 rfl ?_)))
       refine lw_call 139 [] [] [vp,(eptr ve2 j 5),(.int .i64 ((p.getD a Fn.zero).params)),(.int .i64 ((a :Nat):Int))] rfl rfl cf139 (zS (e := 75) rfl rfl rfl) (c_spec_l02Expr _ dp vp (p) dp (eptr ve2 j 5) (((p.getD a Fn.zero).outs).getD j Ex.zero) _ _ (hp.ext (good_rP (good_rPr dp)) hE15.drew) (RN.ptr (good_rEx dp) (by decide) Ex.zero (hx2.rn.ext (good_rdS (good_rEx dp)) hE15.drew) sD) hx2.rng oM oM) ?_
       rintro e17 w17 ⟨rfl,hX17⟩
       refine ⟨_,rfl,hX17,?_⟩
       replace hX17 := hX17.of_drew
       have hzs17:=hX17.size
       have hE17:=hE15.trans hX17
       refine q_not (!(exB p (((p.getD a Fn.zero).outs).getD j Ex.zero) ((p.getD a Fn.zero).params) ((a :Nat):Int))) rfl rfl (zS (e := 75) rfl rfl rfl) (lw_tvn 1 rfl ?_)
       cases hb18 : (!(exB p (((p.getD a Fn.zero).outs).getD j Ex.zero) ((p.getD a Fn.zero).params) ((a :Nat):Int)))
       ·
        refine c_cond_f (by first | rfl | (show Value.bool _ = _; rw [hb18])) (wp_skip (wp_plain _ [0,0,0] rfl (lw_tv 1 rfl (q_add ((j + 1 :Nat):Int) rfl rfl (w64n oM sD) zN (lw_tvn 1 rfl ?_)))))
        exact ⟨((j + 1),(lftE (((p.getD a Fn.zero).outs).getD j Ex.zero) x)),_,rfl,⟨rfl,rfl,rfl,rfl,rfl,trivial⟩,⟨hE17,sD,(by rw [hnx,← hx]),oM,(by exact allR_succ hqe (bn_f (by assumption)))⟩,by first | omega | (dsimp only; omega)⟩
       ·
        exact c_cond_t (by first | rfl | (show Value.bool _ = _; rw [hb18])) (wp_seq (wp_plain _ [0] rfl (lw_tvn 1 rfl (wp_ret (b_ret (t_ret (t_ret (b_ret (t_ret (post_ret [4] rfl (.bool false) rfl ⟨z113_0,hE17⟩))))))))))
     ·
      exact q_lss false rfl rfl (decide_eq_false hc14) zN (lw_nil (c_cond_f rfl (wp_exit (t_exit (t_exit (c_exit_here (wp_seq (wp_plain _ [0] rfl (lw_tvn 1 rfl (wp_ret (post_ret [4] rfl (.bool true) rfl ⟨z113_0,hE13⟩)))))))))))
   ·
    exact c_cond_t (by first | rfl | (show Value.bool _ = _; rw [hb8])) (wp_seq (wp_plain _ [0] rfl (lw_tvn 1 rfl (wp_ret (t_ret (post_ret [4] rfl (.bool false) rfl ⟨z113_0,hE0⟩))))))
  ·
   exact lw_tvn 8 rfl (c_cond_t rfl (wp_seq (wp_plain _ [0] rfl (lw_tvn 1 rfl (wp_ret (t_ret (post_ret [4] rfl (.bool false) rfl ⟨z113_0,hE0⟩)))))))
 ·
  exact lw_tvn 16 rfl (c_cond_t rfl (wp_seq (wp_plain _ [0] rfl (lw_tvn 1 rfl (wp_ret (t_ret (post_ret [4] rfl (.bool false) rfl ⟨z113_0,hE0⟩)))))))
theorem z77_0 {p : Prop} (h : p := by first | exact ret_bool (ok_big oM) | exact ret_bool (ok_end oM oM oM hq) | exact ret_bool (ok_bad (k := k) oM (bn_t (by assumption)))) : p := h
theorem c_spec_l02Ok (w : World) (dp : Nat) (vp : Value) (p : List Fn) (hp : RN [] (rP (rPr dp)) w.heap vp p) (hz : SzP p) :
  Calls Tryz.prog 77 #[vp] w (fun e w' => e = .returned (.bool (okP p)) ∧ Ext w w') := by
 refine calls_mk [vp] 23 Tryz.func77 rfl rfl sM ?_
 have hE0 : Ext w w := Ext.refl w
 refine wp_seq (wp_plain _ [0] rfl (lw_tvn 1 rfl (wp_seq (wp_seq (wp_plain _ [0,0,0,2,0,0] rfl (lw_tv 1 rfl (q_nilP (hp.isPtr) rfl zN ?_)))))))
 obtain ⟨cs1,hr1,hl1⟩ := RN.at (good_rPr _) hp
 obtain ⟨ve1,rfl,hx1⟩ := RPr.of hr1
 have hln1 := hx1.lenle
 unfold maxLen at hln1
 refine q_fldL (p := vp) 0 fd32_0 rfl (hl1 _ (Chg.of_ext [] hE0)) zN (q_load (p := (padd vp 0)) (.inr rfl) ve1 one30 rfl ((hl1 _ (Chg.of_ext [] hE0)).ld (i := 0) (by simp [exC,fnC])) zN (q_len (v := ve1) u30 rfl hx1.isSl zN ?_))
 by_cases hc2 : ((16 :Nat):Int) < ((p.length :Nat):Int)
 ·
  exact q_gtr true rfl rfl (decide_eq_true hc2) zN (lw_nil (c_cond_t rfl (wp_seq (wp_plain _ [0] rfl (lw_tvn 1 rfl (wp_ret (t_ret (post_ret [2] rfl (.bool false) rfl ⟨z77_0,hE0⟩))))))))
 ·
  refine q_gtr false rfl rfl (decide_eq_false hc2) zN (lw_nil (c_cond_f rfl (wp_skip (wp_seq (wp_seq (wp_plain _ [0] rfl (lw_tvn 1 rfl (wp_block (c_loop (S := Nat) (fun (k : Nat) => ([(3,(.int .i64 ((k :Nat):Int))),(0,vp)] : List (Nat × Value))) (fun (k : Nat) (W : World) => Ext w W ∧ k ≤ p.length ∧ (List.range k).all (fnB p) = true) (fun (k : Nat) => p.length - k) 0 ⟨rfl,rfl,trivial⟩ ⟨hE0,sD,(by rfl)⟩ ?_)))))))))
  clear hE0 hln1
  rintro k ρ3 w3 ⟨hE3,hp3_0,hq⟩
  have hzs3 : w.heap.size ≤ w3.heap.size := hE3.size
  refine wp_seq (wp_seq (wp_plain _ [0,0,0,0,2,0,0] rfl (lw_tv 2 rfl (q_nilP (hp.isPtr) rfl zN (q_fldL (p := vp) 0 fd32_0 rfl (hl1 _ (Chg.of_ext [] hE3)) zN (q_load (p := (padd vp 0)) (.inr rfl) ve1 one30 rfl ((hl1 _ (Chg.of_ext [] hE3)).ld (i := 0) (by simp [exC,fnC])) zN (q_len (v := ve1) u30 rfl hx1.isSl zN ?_)))))))
  by_cases hc4 : ((k :Nat):Int) < ((p.length :Nat):Int)
  ·
   refine q_lss true rfl rfl (decide_eq_true hc4) zN (lw_nil (c_cond_t rfl (wp_skip (wp_seq (wp_block (wp_seq (wp_plain _ [0,0,3,0] rfl (lw_tv 2 rfl (lw_call 113 [] [] [vp,(.int .i64 ((k :Nat):Int))] rfl rfl cf113 zN (c_spec_l02Func _ dp vp (p) (k) (hp.ext (good_rP (good_rPr dp)) hE3) oM oM (by exact hz)) ?_)))))))))
   rintro e5 w5 ⟨rfl,hX5⟩
   refine ⟨_,rfl,hX5,?_⟩
   have hzs5:=hX5.size
   have hE5:=hE3.trans hX5
   refine q_not (!(fnB p k)) rfl rfl zN (lw_nil ?_)
   cases hb6 : (!(fnB p k))
   ·
    refine c_cond_f (by first | rfl | (show Value.bool _ = _; rw [hb6])) (wp_skip (wp_plain _ [0,0,0] rfl (lw_tv 1 rfl (q_add ((k + 1 :Nat):Int) rfl rfl (w64n oM sD) zN (lw_tvn 1 rfl ?_)))))
    exact ⟨(k + 1),_,rfl,⟨rfl,rfl,trivial⟩,⟨hE5,sD,(by exact allR_succ hq (bn_f (by assumption)))⟩,by first | omega | (dsimp only; omega)⟩
   ·
    exact c_cond_t (by first | rfl | (show Value.bool _ = _; rw [hb6])) (wp_seq (wp_plain _ [0] rfl (lw_tvn 1 rfl (wp_ret (b_ret (t_ret (t_ret (b_ret (t_ret (post_ret [2] rfl (.bool false) rfl ⟨z77_0,hE5⟩))))))))))
  ·
   exact q_lss false rfl rfl (decide_eq_false hc4) zN (lw_nil (c_cond_f rfl (wp_exit (t_exit (t_exit (c_exit_here (wp_seq (wp_plain _ [0] rfl (lw_tvn 1 rfl (wp_ret (post_ret [2] rfl (.bool true) rfl ⟨z77_0,hE3⟩)))))))))))
theorem z126_0 {p : Prop} (h : p := by first | exact ret_int (isF_1 (bn_t (by assumption))) | exact ret_int (isF_2 (bn_f (by assumption)) (inB_d (bn_t (by assumption)))) | exact ret_int (isF_3 (bn_f (by assumption)) (inB_e (bn_f (by assumption))))) : p := h
theorem c_spec_l02Asked (w : World) (dp : Nat) (vp : Value) (p : List Fn) (f : Int) (hp : RN [] (rP (rPr dp)) w.heap vp p) (_hf : -9223372036854775808 ≤ f ∧ f ≤ 9223372036854775807) (hz : SzP p) :
  Calls Tryz.prog 126 #[vp,.int .i64 f] w (fun e w' => e = .returned (.int .i64 (isF p f)) ∧ Ext w w') := by
 refine calls_mk [vp,.int .i64 f] 17 Tryz.func126 rfl rfl sM ?_
 have hE0 : Ext w w := Ext.refl w
 refine wp_seq (wp_plain _ [0] rfl (lw_tvn 1 rfl (wp_seq (wp_seq (wp_plain _ [0,3,0] rfl (lw_tv 1 rfl (lw_call 77 [] [] [vp] rfl rfl cf77 zN (c_spec_l02Ok _ dp vp (p) (hp.ext (good_rP (good_rPr dp)) hE0) (by exact hz)) ?_)))))))
 rintro e1 w1 ⟨rfl,hX1⟩
 refine ⟨_,rfl,hX1,?_⟩
 have hzs1:=hX1.size
 have hE1:=hE0.trans hX1
 refine q_not (!(okP p)) rfl rfl zN (lw_nil ?_)
 cases hb2 : (!(okP p))
 ·
  refine c_cond_f (by first | rfl | (show Value.bool _ = _; rw [hb2])) (wp_skip (wp_seq (wp_seq (wp_plain _ [0,0,0,0,2,0,0,0,0] rfl (lw_tv 2 rfl (q_nilP (hp.isPtr) rfl zN ?_))))))
  obtain ⟨cs3,hr3,hl3⟩ := RN.at (good_rPr _) hp
  obtain ⟨ve3,rfl,hx3⟩ := RPr.of hr3
  have hln3 := hx3.lenle
  unfold maxLen at hln3
  refine q_fldL (p := vp) 0 fd32_0 rfl (hl3 _ (Chg.of_ext [] hE1)) zN (q_load (p := (padd vp 0)) (.inr rfl) ve3 one30 rfl ((hl3 _ (Chg.of_ext [] hE1)).ld (i := 0) (by simp [exC,fnC])) zN (q_len (v := ve3) u30 rfl hx3.isSl zN (q_sub (((p.length :Nat):Int) - 1) rfl rfl (w64 oM oM) zN (lw_callq 63 [] [] [(.int .i64 f),(.int .i64 ((0 :Nat):Int)),(.int .i64 (((p.length :Nat):Int) - 1))] rfl rfl cf63 zN (.bool (decide (((0 :Nat):Int) ≤ f) && decide (f ≤ (((p.length :Nat):Int) - 1)))) (fun wq => c_spec_l00In wq _ _ _ _hf oM oM) (q_not (!(decide (((0 :Nat):Int) ≤ f) && decide (f ≤ (((p.length :Nat):Int) - 1)))) rfl rfl zN (lw_nil ?_))))))
  cases hb5 : (!(decide (((0 :Nat):Int) ≤ f) && decide (f ≤ (((p.length :Nat):Int) - 1))))
  ·
   exact c_cond_f (by first | rfl | (show Value.bool _ = _; rw [hb5])) (wp_skip (wp_seq (wp_plain _ [0] rfl (lw_tvn 1 rfl (wp_ret (post_ret [4] rfl (.int .i64 ((0 :Nat):Int)) rfl ⟨z126_0,hE1⟩))))))
  ·
   exact c_cond_t (by first | rfl | (show Value.bool _ = _; rw [hb5])) (wp_seq (wp_plain _ [0] rfl (lw_tvn 1 rfl (wp_ret (t_ret (post_ret [4] rfl (.int .i64 ((2 :Nat):Int)) rfl ⟨z126_0,hE1⟩))))))
 ·
  exact c_cond_t (by first | rfl | (show Value.bool _ = _; rw [hb2])) (wp_seq (wp_plain _ [0] rfl (lw_tvn 1 rfl (wp_ret (t_ret (post_ret [4] rfl (.int .i64 ((1 :Nat):Int)) rfl ⟨z126_0,hE1⟩))))))
end Go.Proofs.YtnofbmdpabcjaaaGreat
