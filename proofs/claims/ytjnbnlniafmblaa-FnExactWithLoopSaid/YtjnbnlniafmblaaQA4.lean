/- Zm, Zl: texts of this claim, joined; what the claim does not come to is left out. -/
import Derived.Test.YtjnbnlniafmblaaQA3
import Derived.Test.YtjnbnlniafmblaaProg
set_option linter.unusedVariables false
set_option linter.unusedSimpArgs false
namespace Go.Proofs.Ytjnbnlniafmblaa
open Go Go.RowKit
set_option linter.unusedVariables false
set_option linter.unusedSimpArgs false
set_option maxHeartbeats 4000000
set_option maxRecDepth 100000
attribute [local irreducible] LW
def TS (D : Nat) : Prop := ∀ (w : World) (d : Nat) (va : Value) (a : List Ex) (ha : RN [] (rdS 5 (rEx d)) w.heap va a) (hs : Ex.sizes a ≤ 1000000000) (hd : d ≤ D), Calls Try.prog 144 #[va] w (fun e w' => ∃ v, e = .returned v ∧ Ext w w' ∧ Fr (owS 5 (oEx 46 d) 46) w.heap.size w'.heap.size w'.heap v a)
theorem c_laws_toExpr (w : World) (dex : Nat) (ve : Value) (ex : Ex) (hex : RX [] dex w.heap ve ex) (hs : Ex.sizes ex.kids ≤ 1000000000) (IH : TS dex) :
    Calls Try.prog 155 #[(.agg #[(.int .i64 ex.kind), (.int .i64 ex.num), (.int .i64 ex.pick), (.int .i64 ex.count), ve])] w (fun e w' => ∃ v, e = .returned (.agg #[.int .i64 ex.kind, .int .i64 ex.num, .int .i64 ex.pick, .int .i64 ex.count, v]) ∧ Ext w w' ∧ Fr (owS 5 (oEx 46 dex) 46) w.heap.size w'.heap.size w'.heap v ex.kids) := by
  refine calls_mk [(.agg #[(.int .i64 ex.kind), (.int .i64 ex.num), (.int .i64 ex.pick), (.int .i64 ex.count), ve])] 21 Try.func155 rfl rfl sM ?_
  have hE0 : Ext w w := Ext.refl w
  have hl_ve := hex.rn.lenle
  unfold maxLen at hl_ve
  refine wp_seq (wp_plain _ [3, 3] rfl (r_boxA (cs := #[(.int .i64 ex.kind), (.int .i64 ex.num), (.int .i64 ex.pick), (.int .i64 ex.count), ve]) rfl zN fun w1 hX1 hz1 hB1 => ?_))
  have hzs1 : w.heap.size ≤ w1.heap.size := hX1.size
  have hE1 : Ext w w1 := hE0.trans hX1
  replace hB1 : BX w1.heap w.heap.size [(.int .i64 ex.kind), (.int .i64 ex.num), (.int .i64 ex.pick), (.int .i64 ex.count), ve] := hB1
  have hq3 := hB1.lt
  refine r_allocA (z := .agg #[.int .i64 0, .int .i64 0, .int .i64 0, .int .i64 0, .slice none 0 0]) zr46 zN fun w2 hX2 hz2 hB2 => ?_
  have hzs2 : w1.heap.size ≤ w2.heap.size := hX2.size
  have hE2 : Ext w w2 := hE1.trans hX2
  have hB1x2 := hB1.ext hX2
  replace hB2 : BX w2.heap w1.heap.size [(.int .i64 0), (.int .i64 0), (.int .i64 0), (.int .i64 0), (.slice none 0 0)] := hB2
  refine lw_nil (wp_seq (wp_plain _ [3] rfl ?_))
  have hq5 := hB1x2.lt
  have hq6 := hB2.lt
  refine r_allocA (z := .agg #[.int .i64 0, .int .i64 0, .int .i64 0, .int .i64 0, .slice none 0 0]) zr46 zN fun w4 hX4 hz4 hB4 => ?_
  have hzs4 : w2.heap.size ≤ w4.heap.size := hX4.size
  have hE4 : Ext w w4 := hE2.trans hX4
  have hB1x4 := hB1x2.ext hX4
  have hB2x4 := hB2.ext hX4
  replace hB4 : BX w4.heap w2.heap.size [(.int .i64 0), (.int .i64 0), (.int .i64 0), (.int .i64 0), (.slice none 0 0)] := hB4
  refine lw_nil (wp_seq (wp_plain _ [0, 2, 0, 4] rfl (q_fldP (p := (.pointer (some ⟨w.heap.size, 0, none⟩))) (b := w.heap.size) (o := 0) 0 fd191_0 rfl rfl zN (q_load (p := (padd (.pointer (some ⟨w.heap.size, 0, none⟩)) 0)) (.inr rfl) (.int .i64 ex.kind) one2 rfl (hB1x4.ldp (i := 0) sM) zN (q_fldP (p := (.pointer (some ⟨w2.heap.size, 0, none⟩))) (b := w2.heap.size) (o := 0) 0 fd46_0 rfl rfl zN (e_setB (k := 0) (w := w4) sz2 rfl rfl ⟨rfl, rfl⟩ hB4 sM zN fun w7 hC7 hz7 hB7 => ?_))))))
  replace hB7 : BX w7.heap w2.heap.size [(.int .i64 ex.kind), (.int .i64 0), (.int .i64 0), (.int .i64 0), (.slice none 0 0)] := hB7
  have hE7 : Ext w w7 := hC7.below hE4 (fun c hc => by have := List.mem_singleton.1 hc; omega) hE4.size
  have hzs7 : w4.heap.size ≤ w7.heap.size := hC7.size
  have hF8 := hB1x4.chg hC7 (fun hm => by have := List.mem_singleton.1 hm; omega)
  have hF9 := hB2x4.chg hC7 (fun hm => by have := List.mem_singleton.1 hm; omega)
  refine lw_nil (wp_seq (wp_plain _ [0, 2, 0, 4] rfl (q_fldP (p := (.pointer (some ⟨w.heap.size, 0, none⟩))) (b := w.heap.size) (o := 0) 1 fd191_1 rfl rfl zN (q_load (p := (padd (.pointer (some ⟨w.heap.size, 0, none⟩)) 1)) (.inr rfl) (.int .i64 ex.num) one2 rfl (hF8.ldp (i := 1) sM) zN (q_fldP (p := (.pointer (some ⟨w2.heap.size, 0, none⟩))) (b := w2.heap.size) (o := 0) 1 fd46_1 rfl rfl zN (e_setB (k := 1) (w := w7) sz2 rfl rfl ⟨rfl, rfl⟩ hB7 sM zN fun w10 hC10 hz10 hB10 => ?_))))))
  replace hB10 : BX w10.heap w2.heap.size [(.int .i64 ex.kind), (.int .i64 ex.num), (.int .i64 0), (.int .i64 0), (.slice none 0 0)] := hB10
  have hE10 : Ext w w10 := hC10.below hE7 (fun c hc => by have := List.mem_singleton.1 hc; omega) hE7.size
  have hzs10 : w7.heap.size ≤ w10.heap.size := hC10.size
  have hF11 := hF8.chg hC10 (fun hm => by have := List.mem_singleton.1 hm; omega)
  have hF12 := hF9.chg hC10 (fun hm => by have := List.mem_singleton.1 hm; omega)
  refine lw_nil (wp_seq (wp_plain _ [0, 2, 0, 4] rfl (q_fldP (p := (.pointer (some ⟨w.heap.size, 0, none⟩))) (b := w.heap.size) (o := 0) 2 fd191_2 rfl rfl zN (q_load (p := (padd (.pointer (some ⟨w.heap.size, 0, none⟩)) 2)) (.inr rfl) (.int .i64 ex.pick) one2 rfl (hF11.ldp (i := 2) sM) zN (q_fldP (p := (.pointer (some ⟨w2.heap.size, 0, none⟩))) (b := w2.heap.size) (o := 0) 2 fd46_2 rfl rfl zN (e_setB (k := 2) (w := w10) sz2 rfl rfl ⟨rfl, rfl⟩ hB10 sM zN fun w13 hC13 hz13 hB13 => ?_))))))
  replace hB13 : BX w13.heap w2.heap.size [(.int .i64 ex.kind), (.int .i64 ex.num), (.int .i64 ex.pick), (.int .i64 0), (.slice none 0 0)] := hB13
  have hE13 : Ext w w13 := hC13.below hE10 (fun c hc => by have := List.mem_singleton.1 hc; omega) hE10.size
  have hzs13 : w10.heap.size ≤ w13.heap.size := hC13.size
  have hF14 := hF11.chg hC13 (fun hm => by have := List.mem_singleton.1 hm; omega)
  have hF15 := hF12.chg hC13 (fun hm => by have := List.mem_singleton.1 hm; omega)
  refine lw_nil (wp_seq (wp_plain _ [0, 2, 0, 4] rfl (q_fldP (p := (.pointer (some ⟨w.heap.size, 0, none⟩))) (b := w.heap.size) (o := 0) 3 fd191_3 rfl rfl zN (q_load (p := (padd (.pointer (some ⟨w.heap.size, 0, none⟩)) 3)) (.inr rfl) (.int .i64 ex.count) one2 rfl (hF14.ldp (i := 3) sM) zN (q_fldP (p := (.pointer (some ⟨w2.heap.size, 0, none⟩))) (b := w2.heap.size) (o := 0) 3 fd46_3 rfl rfl zN (e_setB (k := 3) (w := w13) sz2 rfl rfl ⟨rfl, rfl⟩ hB13 sM zN fun w16 hC16 hz16 hB16 => ?_))))))
  replace hB16 : BX w16.heap w2.heap.size [(.int .i64 ex.kind), (.int .i64 ex.num), (.int .i64 ex.pick), (.int .i64 ex.count), (.slice none 0 0)] := hB16
  have hE16 : Ext w w16 := hC16.below hE13 (fun c hc => by have := List.mem_singleton.1 hc; omega) hE13.size
  have hzs16 : w13.heap.size ≤ w16.heap.size := hC16.size
  have hF17 := hF14.chg hC16 (fun hm => by have := List.mem_singleton.1 hm; omega)
  have hF18 := hF15.chg hC16 (fun hm => by have := List.mem_singleton.1 hm; omega)
  refine lw_nil (wp_seq (wp_plain _ [0, 2, 3, 0, 4] rfl (q_fldP (p := (.pointer (some ⟨w.heap.size, 0, none⟩))) (b := w.heap.size) (o := 0) 4 fd191_4 rfl rfl zN (q_load (p := (padd (.pointer (some ⟨w.heap.size, 0, none⟩)) 4)) (.inr rfl) ve one151 rfl (hF17.ldp (i := 4) sM) zN (lw_call 144 [] [] [ve] rfl rfl cf144 zN (IH _ dex ve (ex.kids) (hex.rn.ext (good_rdS (good_rEx dex)) hE16) (by exact hs) oM) ?_)))))
  rintro e19 w19 ⟨v19, rfl, hX19, hO19⟩
  refine ⟨_, rfl, hX19, ?_⟩
  have hzs19 : w16.heap.size ≤ w19.heap.size := hX19.size
  have hE19 : Ext w w19 := hE16.trans hX19
  have hF17x19 := hF17.ext hX19
  have hF18x19 := hF18.ext hX19
  have hB16x19 := hB16.ext hX19
  refine q_fldP (p := (.pointer (some ⟨w2.heap.size, 0, none⟩))) (b := w2.heap.size) (o := 0) 4 fd46_4 rfl rfl zN (e_setB (k := 4) (w := w19) sz44 rfl rfl (isSl_one hO19.isSlS) hB16x19 sM zN fun w20 hC20 hz20 hB20 => ?_)
  replace hB20 : BX w20.heap w2.heap.size [(.int .i64 ex.kind), (.int .i64 ex.num), (.int .i64 ex.pick), (.int .i64 ex.count), v19] := hB20
  have hE20 : Ext w w20 := hC20.below hE19 (fun c hc => by have := List.mem_singleton.1 hc; omega) hE19.size
  have hzs20 : w19.heap.size ≤ w20.heap.size := hC20.size
  have hF21 := hF17x19.chg hC20 (fun hm => by have := List.mem_singleton.1 hm; omega)
  have hF22 := hF18x19.chg hC20 (fun hm => by have := List.mem_singleton.1 hm; omega)
  have hF23 := hO19.chg ((good_owS (good_oEx 46 dex))) hC20 (fun c hc => by have := List.mem_singleton.1 hc; omega)
  refine lw_nil (wp_seq (wp_plain _ [2, 4] rfl (q_loadA (p := (.pointer (some ⟨w2.heap.size, 0, none⟩))) (.inr rfl) [(.int .i64 ex.kind), (.int .i64 ex.num), (.int .i64 ex.pick), (.int .i64 ex.count), v19] agg46 rfl (fun wq9 hw9 => LD.of_box (BX.ext (w := w20) hB20 hw9)) rfl zN (e_setA (vs := [(.int .i64 ex.kind), (.int .i64 ex.num), (.int .i64 ex.pick), (.int .i64 ex.count), v19]) agg46 rfl rfl (by intro u hu; simp only [List.mem_cons, List.not_mem_nil, or_false] at hu; rcases hu with rfl | rfl | rfl | rfl | rfl <;> first | exact ⟨rfl, rfl⟩ | exact isSl_one hF23.isSlS) hF22 rfl rfl zN fun w24 hC24 hz24 hB24 => ?_))))
  replace hB24 : BX w24.heap w1.heap.size [(.int .i64 ex.kind), (.int .i64 ex.num), (.int .i64 ex.pick), (.int .i64 ex.count), v19] := hB24
  have hE24 : Ext w w24 := hC24.below hE20 (fun c hc => by have := List.mem_singleton.1 hc; omega) hE20.size
  have hzs24 : w20.heap.size ≤ w24.heap.size := hC24.size
  have hF25 := hF21.chg hC24 (fun hm => by have := List.mem_singleton.1 hm; omega)
  have hF26 := hB20.chg hC24 (fun hm => by have := List.mem_singleton.1 hm; omega)
  have hF27 := hF23.chg ((good_owS (good_oEx 46 dex))) hC24 (fun c hc => by have := List.mem_singleton.1 hc; omega)
  exact lw_nil (wp_ret (post_retA (cs := [(.int .i64 ex.kind), (.int .i64 ex.num), (.int .i64 ex.pick), (.int .i64 ex.count), v19]) rfl agg46 rfl hB24 rfl ⟨v19, rfl, hE24, ((hF27.up (good_owS (good_oEx 46 dex))).low (B' := w.heap.size) oM)⟩))
theorem c_laws_toExprS (w : World) (da : Nat) (va : Value) (a : List Ex) (ha : RN [] (rdS 5 (rEx da)) w.heap va a) (hs : Ex.sizes a ≤ 1000000000) :
    Calls Try.prog 144 #[va] w (fun e w' => ∃ v, e = .returned v ∧ Ext w w' ∧ Fr (owS 5 (oEx 46 da) 46) w.heap.size w'.heap.size w'.heap v a) := by
  induction da using Nat.strongRecOn generalizing w va a
  rename_i da ih
  refine calls_mk [va] 23 Try.func144 rfl rfl sM ?_
  have hE0 : Ext w w := Ext.refl w
  have hl_va := ha.lenle
  unfold maxLen at hl_va
  have hge0 := sizes_ge a 0
  refine wp_seq (wp_plain _ [0] rfl (lw_tvn 1 rfl (wp_seq (wp_plain _ [0, 0, 3, 0] rfl (lw_tv 1 rfl (q_len (v := va) u151 rfl ha.isSl zN (r_makeS (n := a.length) (zs := exC Ex.zero (.slice none 0 0)) (z0 := Ex.zero) (good_oEx 46 da) u44 tiS46 rfl rfl rfl rfl rfl (by decide) oM (fun h0 H => oEx_zero (RN.exPos ha h0) H) zN fun v1 w1 hX1 hz1 hO1 => ?_)))))))
  have hzs1 : w.heap.size ≤ w1.heap.size := hX1.size
  have hE1 : Ext w w1 := hE0.trans hX1
  refine lw_tvn 1 rfl (wp_seq (wp_seq (wp_plain _ [0] rfl (lw_tvn 1 rfl (wp_block ?_)))))
  refine c_loop (S := Nat) (fun (k : Nat) => ([(4, (.int .i64 ((k : Nat) : Int))), (0, va), (3, v1)] : List (Nat × Value))) (fun (k : Nat) (W : World) => Ext w W ∧ Fr (owS 5 (oEx 46 da) 46) w.heap.size W.heap.size W.heap v1 (a.take k ++ List.replicate (a.length - k) Ex.zero) ∧ k ≤ a.length) (fun (k : Nat) => a.length - k) 0 ⟨rfl, rfl, rfl, trivial⟩ ⟨hE1, (by simpa using hO1.up (good_owS (good_oEx 46 da))), sD⟩ ?_
  clear hE0 hO1 hz1 hX1 hzs1 hE1
  rintro k ρ2 w2 ⟨hE2, hL2_0, hp2_0⟩
  have hzs2 : w.heap.size ≤ w2.heap.size := hE2.size
  have hml : (a.take k ++ List.replicate (a.length - k) Ex.zero).length = a.length := by rw [List.length_append, List.length_take, List.length_replicate]; omega
  refine wp_seq (wp_seq (wp_plain _ [0, 0, 0, 0] rfl (lw_tv 2 rfl (q_len (v := va) u151 rfl ha.isSl zN ?_))))
  by_cases hc3 : ((k : Nat) : Int) < ((a.length : Nat) : Int)
  ·
    refine q_lss true rfl rfl (decide_eq_true hc3) zN (lw_nil (c_cond_t rfl (wp_skip (wp_seq (wp_block (wp_plain _ [0, 0, 0, 0, 0, 2, 3, 0, 4] rfl ?_))))))
    have hsa := sizes_at (l := a) (k := k) oM
    have hsk := size_kids (a.getD k Ex.zero)
    refine lw_tv 4 rfl (q_idx (v := va) k u151 tiS191 rfl rfl ha.isSl rfl sD zN ?_)
    obtain ⟨cs4, hr4, hl4⟩ := ha.get (good_rEx da) Ex.zero (k := k) sD
    obtain ⟨dd4, ve4, hd4, rfl, hx4⟩ := RX.of hr4
    have hln4 := hx4.rn.lenle
    unfold maxLen at hln4
    refine q_loadA (p := eptr va k 5) (.inr rfl) [(.int .i64 ((a.getD k Ex.zero).kind)), (.int .i64 ((a.getD k Ex.zero).num)), (.int .i64 ((a.getD k Ex.zero).pick)), (.int .i64 ((a.getD k Ex.zero).count)), ve4] agg191 rfl (fun wq9 hw9 => hl4 wq9 (Chg.of_ext [] (hE2.trans hw9))) rfl zN (lw_call 155 [] [] [(.agg #[(.int .i64 ((a.getD k Ex.zero).kind)), (.int .i64 ((a.getD k Ex.zero).num)), (.int .i64 ((a.getD k Ex.zero).pick)), (.int .i64 ((a.getD k Ex.zero).count)), ve4])] rfl rfl cf155 zN (c_laws_toExpr _ dd4 ve4 (a.getD k Ex.zero) (hx4.ext hE2) oM (by intro w9 d9 v9 a9 h1 h2 h3; exact ih d9 oM w9 v9 a9 h1 h2)) ?_)
    rintro e5 w5 ⟨v5, rfl, hX5, hO5⟩
    refine ⟨_, rfl, hX5, ?_⟩
    have hzs5 : w2.heap.size ≤ w5.heap.size := hX5.size
    have hE5 : Ext w w5 := hE2.trans hX5
    have hL2_0x5 := hL2_0.ext ((good_owS (good_oEx 46 da))) hX5
    refine q_idx (v := v1) k u44 tiS46 rfl rfl hL2_0x5.isSlS rfl sD zN ?_
    refine e_setS (v := v1) (cs := [(.int .i64 ((a.getD k Ex.zero).kind)), (.int .i64 ((a.getD k Ex.zero).num)), (.int .i64 ((a.getD k Ex.zero).pick)), (.int .i64 ((a.getD k Ex.zero).count)), v5]) (n := (a.getD k Ex.zero)) (j := k) (good_oEx 46 da) agg46 rfl rfl hL2_0x5 (oEx_mk (d' := dd4) hd4 hx4.rng hO5) oM oM sD zN fun w6 F6 hC6 hz6 hF6 hO6 => ?_
    have hE6 : Ext w w6 := hC6.below hE5 (fun c hc => Nat.le_trans (Nat.le_refl _) (hF6 c hc).1) hE5.size
    have hzs6 : w5.heap.size ≤ w6.heap.size := hC6.size
    refine lw_nil (wp_plain _ [0, 0, 0] rfl (lw_tv 1 rfl (q_add ((k + 1 : Nat) : Int) rfl rfl (w64n oM sD) zN (lw_tvn 1 rfl ?_))))
    exact ⟨(k + 1), _, rfl, ⟨rfl, rfl, rfl, trivial⟩, ⟨hE6, (by have h := hO6.up (good_owS (good_oEx 46 da)); rwa [set_zero oM] at h), sD⟩, by first | omega | (dsimp only; omega)⟩
  ·
    exact q_lss false rfl rfl (decide_eq_false hc3) zN (lw_nil (c_cond_f rfl (wp_exit (t_exit (t_exit (c_exit_here (wp_seq (wp_plain _ [0, 0] rfl (lw_tvn 2 rfl (wp_ret (post_ret [2] rfl v1 rfl ⟨v1, rfl, hE2, (by have h := ((hL2_0.up (good_owS (good_oEx 46 da))).low (B' := w.heap.size) oM); rwa [show a.take k ++ List.replicate (a.length - k) Ex.zero = a from by rw [List.take_of_length_le oM, show a.length - k = 0 from by omega]; simp] at h)⟩)))))))))))
theorem c_laws_toFunc (w : World) (dg : Nat) (vf : Value) (g : Fn) (hg : RF [] dg w.heap vf g) (hs : Ex.sizes g.outs ≤ 1000000000) :
    Calls Try.prog 120 #[(.agg #[(.string g.name), (.int .i64 g.params), vf])] w (fun e w' => ∃ v, e = .returned (.agg #[.string g.name, .int .i64 g.params, v]) ∧ Ext w w' ∧ Fr (owS 5 (oEx 46 dg) 46) w.heap.size w'.heap.size w'.heap v g.outs) := by
  refine calls_mk [(.agg #[(.string g.name), (.int .i64 g.params), vf])] 15 Try.func120 rfl rfl sM ?_
  have hE0 : Ext w w := Ext.refl w
  have hl_vf := hg.rn.lenle
  unfold maxLen at hl_vf
  refine wp_seq (wp_plain _ [3, 3] rfl (r_boxA (cs := #[(.string g.name), (.int .i64 g.params), vf]) rfl zN fun w1 hX1 hz1 hB1 => ?_))
  have hzs1 : w.heap.size ≤ w1.heap.size := hX1.size
  have hE1 : Ext w w1 := hE0.trans hX1
  replace hB1 : BX w1.heap w.heap.size [(.string g.name), (.int .i64 g.params), vf] := hB1
  have hq3 := hB1.lt
  refine r_allocA (z := .agg #[.string ByteArray.empty, .int .i64 0, .slice none 0 0]) zr49 zN fun w2 hX2 hz2 hB2 => ?_
  have hzs2 : w1.heap.size ≤ w2.heap.size := hX2.size
  have hE2 : Ext w w2 := hE1.trans hX2
  have hB1x2 := hB1.ext hX2
  replace hB2 : BX w2.heap w1.heap.size [(.string ByteArray.empty), (.int .i64 0), (.slice none 0 0)] := hB2
  refine lw_nil (wp_seq (wp_plain _ [3] rfl ?_))
  have hq5 := hB1x2.lt
  have hq6 := hB2.lt
  refine r_allocA (z := .agg #[.string ByteArray.empty, .int .i64 0, .slice none 0 0]) zr49 zN fun w4 hX4 hz4 hB4 => ?_
  have hzs4 : w2.heap.size ≤ w4.heap.size := hX4.size
  have hE4 : Ext w w4 := hE2.trans hX4
  have hB1x4 := hB1x2.ext hX4
  have hB2x4 := hB2.ext hX4
  replace hB4 : BX w4.heap w2.heap.size [(.string ByteArray.empty), (.int .i64 0), (.slice none 0 0)] := hB4
  refine lw_nil (wp_seq (wp_plain _ [0, 2, 0, 4] rfl (q_fldP (p := (.pointer (some ⟨w.heap.size, 0, none⟩))) (b := w.heap.size) (o := 0) 0 fd153_0 rfl rfl zN (q_load (p := (padd (.pointer (some ⟨w.heap.size, 0, none⟩)) 0)) (.inr rfl) (.string g.name) one9 rfl (hB1x4.ldp (i := 0) sM) zN (q_fldP (p := (.pointer (some ⟨w2.heap.size, 0, none⟩))) (b := w2.heap.size) (o := 0) 0 fd49_0 rfl rfl zN (e_setB (k := 0) (w := w4) sz9 rfl rfl ⟨rfl, rfl⟩ hB4 sM zN fun w7 hC7 hz7 hB7 => ?_))))))
  replace hB7 : BX w7.heap w2.heap.size [(.string g.name), (.int .i64 0), (.slice none 0 0)] := hB7
  have hE7 : Ext w w7 := hC7.below hE4 (fun c hc => by have := List.mem_singleton.1 hc; omega) hE4.size
  have hzs7 : w4.heap.size ≤ w7.heap.size := hC7.size
  have hF8 := hB1x4.chg hC7 (fun hm => by have := List.mem_singleton.1 hm; omega)
  have hF9 := hB2x4.chg hC7 (fun hm => by have := List.mem_singleton.1 hm; omega)
  refine lw_nil (wp_seq (wp_plain _ [0, 2, 0, 4] rfl (q_fldP (p := (.pointer (some ⟨w.heap.size, 0, none⟩))) (b := w.heap.size) (o := 0) 1 fd153_1 rfl rfl zN (q_load (p := (padd (.pointer (some ⟨w.heap.size, 0, none⟩)) 1)) (.inr rfl) (.int .i64 g.params) one2 rfl (hF8.ldp (i := 1) sM) zN (q_fldP (p := (.pointer (some ⟨w2.heap.size, 0, none⟩))) (b := w2.heap.size) (o := 0) 1 fd49_1 rfl rfl zN (e_setB (k := 1) (w := w7) sz2 rfl rfl ⟨rfl, rfl⟩ hB7 sM zN fun w10 hC10 hz10 hB10 => ?_))))))
  replace hB10 : BX w10.heap w2.heap.size [(.string g.name), (.int .i64 g.params), (.slice none 0 0)] := hB10
  have hE10 : Ext w w10 := hC10.below hE7 (fun c hc => by have := List.mem_singleton.1 hc; omega) hE7.size
  have hzs10 : w7.heap.size ≤ w10.heap.size := hC10.size
  have hF11 := hF8.chg hC10 (fun hm => by have := List.mem_singleton.1 hm; omega)
  have hF12 := hF9.chg hC10 (fun hm => by have := List.mem_singleton.1 hm; omega)
  refine lw_nil (wp_seq (wp_plain _ [0, 2, 3, 0, 4] rfl (q_fldP (p := (.pointer (some ⟨w.heap.size, 0, none⟩))) (b := w.heap.size) (o := 0) 2 fd153_2 rfl rfl zN (q_load (p := (padd (.pointer (some ⟨w.heap.size, 0, none⟩)) 2)) (.inr rfl) vf one151 rfl (hF11.ldp (i := 2) sM) zN (lw_call 144 [] [] [vf] rfl rfl cf144 zN (c_laws_toExprS _ dg vf (g.outs) (hg.rn.ext (good_rdS (good_rEx dg)) hE10) (by exact hs)) ?_)))))
  rintro e13 w13 ⟨v13, rfl, hX13, hO13⟩
  refine ⟨_, rfl, hX13, ?_⟩
  have hzs13 : w10.heap.size ≤ w13.heap.size := hX13.size
  have hE13 : Ext w w13 := hE10.trans hX13
  have hF11x13 := hF11.ext hX13
  have hF12x13 := hF12.ext hX13
  have hB10x13 := hB10.ext hX13
  refine q_fldP (p := (.pointer (some ⟨w2.heap.size, 0, none⟩))) (b := w2.heap.size) (o := 0) 2 fd49_2 rfl rfl zN (e_setB (k := 2) (w := w13) sz44 rfl rfl (isSl_one hO13.isSlS) hB10x13 sM zN fun w14 hC14 hz14 hB14 => ?_)
  replace hB14 : BX w14.heap w2.heap.size [(.string g.name), (.int .i64 g.params), v13] := hB14
  have hE14 : Ext w w14 := hC14.below hE13 (fun c hc => by have := List.mem_singleton.1 hc; omega) hE13.size
  have hzs14 : w13.heap.size ≤ w14.heap.size := hC14.size
  have hF15 := hF11x13.chg hC14 (fun hm => by have := List.mem_singleton.1 hm; omega)
  have hF16 := hF12x13.chg hC14 (fun hm => by have := List.mem_singleton.1 hm; omega)
  have hF17 := hO13.chg ((good_owS (good_oEx 46 dg))) hC14 (fun c hc => by have := List.mem_singleton.1 hc; omega)
  refine lw_nil (wp_seq (wp_plain _ [2, 4] rfl (q_loadA (p := (.pointer (some ⟨w2.heap.size, 0, none⟩))) (.inr rfl) [(.string g.name), (.int .i64 g.params), v13] agg49 rfl (fun wq9 hw9 => LD.of_box (BX.ext (w := w14) hB14 hw9)) rfl zN (e_setA (vs := [(.string g.name), (.int .i64 g.params), v13]) agg49 rfl rfl (by intro u hu; simp only [List.mem_cons, List.not_mem_nil, or_false] at hu; rcases hu with rfl | rfl | rfl <;> first | exact ⟨rfl, rfl⟩ | exact isSl_one hF17.isSlS) hF16 rfl rfl zN fun w18 hC18 hz18 hB18 => ?_))))
  replace hB18 : BX w18.heap w1.heap.size [(.string g.name), (.int .i64 g.params), v13] := hB18
  have hE18 : Ext w w18 := hC18.below hE14 (fun c hc => by have := List.mem_singleton.1 hc; omega) hE14.size
  have hzs18 : w14.heap.size ≤ w18.heap.size := hC18.size
  have hF19 := hF15.chg hC18 (fun hm => by have := List.mem_singleton.1 hm; omega)
  have hF20 := hB14.chg hC18 (fun hm => by have := List.mem_singleton.1 hm; omega)
  have hF21 := hF17.chg ((good_owS (good_oEx 46 dg))) hC18 (fun c hc => by have := List.mem_singleton.1 hc; omega)
  exact lw_nil (wp_ret (post_retA (cs := [(.string g.name), (.int .i64 g.params), v13]) rfl agg49 rfl hB18 rfl ⟨v13, rfl, hE18, ((hF21.up (good_owS (good_oEx 46 dg))).low (B' := w.heap.size) oM)⟩))
theorem c_laws_toFuncS (w : World) (da : Nat) (va : Value) (a : List Fn) (ha : RP [] da w.heap va a) (hs : szP a ≤ 1000000000) :
    Calls Try.prog 81 #[va] w (fun e w' => ∃ v, e = .returned v ∧ Ext w w' ∧ Fr (owS 3 (oFn 46 da) 49) w.heap.size w'.heap.size w'.heap v a) := by
  refine calls_mk [va] 23 Try.func81 rfl rfl sM ?_
  have hE0 : Ext w w := Ext.refl w
  have hl_va := ha.lenle
  unfold maxLen at hl_va
  have hsz : szP a = a.length + Fn.szs a := rfl
  refine wp_seq (wp_plain _ [0] rfl (lw_tvn 1 rfl (wp_seq (wp_plain _ [0, 0, 3, 0] rfl (lw_tv 1 rfl (q_len (v := va) u63 rfl ha.isSl zN (r_makeS (n := a.length) (zs := fnC Fn.zero (.slice none 0 0)) (z0 := Fn.zero) (good_oFn 46 da) u50 tiS49 rfl rfl rfl rfl rfl (by decide) oM (fun _ H => oFn_zero H) zN fun v1 w1 hX1 hz1 hO1 => ?_)))))))
  have hzs1 : w.heap.size ≤ w1.heap.size := hX1.size
  have hE1 : Ext w w1 := hE0.trans hX1
  refine lw_tvn 1 rfl (wp_seq (wp_seq (wp_plain _ [0] rfl (lw_tvn 1 rfl (wp_block ?_)))))
  refine c_loop (S := Nat) (fun (k : Nat) => ([(4, (.int .i64 ((k : Nat) : Int))), (0, va), (3, v1)] : List (Nat × Value))) (fun (k : Nat) (W : World) => Ext w W ∧ Fr (owS 3 (oFn 46 da) 49) w.heap.size W.heap.size W.heap v1 (a.take k ++ List.replicate (a.length - k) Fn.zero) ∧ k ≤ a.length) (fun (k : Nat) => a.length - k) 0 ⟨rfl, rfl, rfl, trivial⟩ ⟨hE1, (by simpa using hO1.up (good_owS (good_oFn 46 da))), sD⟩ ?_
  clear hE0 hO1 hz1 hX1 hzs1 hE1
  rintro k ρ2 w2 ⟨hE2, hL2_0, hp2_0⟩
  have hzs2 : w.heap.size ≤ w2.heap.size := hE2.size
  have hml : (a.take k ++ List.replicate (a.length - k) Fn.zero).length = a.length := by rw [List.length_append, List.length_take, List.length_replicate]; omega
  refine wp_seq (wp_seq (wp_plain _ [0, 0, 0, 0] rfl (lw_tv 2 rfl (q_len (v := va) u63 rfl ha.isSl zN ?_))))
  by_cases hc3 : ((k : Nat) : Int) < ((a.length : Nat) : Int)
  ·
    refine q_lss true rfl rfl (decide_eq_true hc3) zN (lw_nil (c_cond_t rfl (wp_skip (wp_seq (wp_block (wp_plain _ [0, 0, 0, 0, 0, 2, 3, 0, 4] rfl ?_))))))
    have hsa := szs_at (l := a) (k := k) oM
    have hsk : (a.getD k Fn.zero).sz = (a.getD k Fn.zero).name.size + Ex.sizes (a.getD k Fn.zero).outs := rfl
    refine lw_tv 4 rfl (q_idx (v := va) k u63 tiS153 rfl rfl ha.isSl rfl sD zN ?_)
    obtain ⟨cs4, hr4, hl4⟩ := ha.get (good_rFn da) Fn.zero (k := k) sD
    obtain ⟨ve4, rfl, hx4⟩ := RF.of hr4
    have hln4 := hx4.rn.lenle
    unfold maxLen at hln4
    refine q_loadA (p := eptr va k 3) (.inr rfl) [(.string ((a.getD k Fn.zero).name)), (.int .i64 ((a.getD k Fn.zero).params)), ve4] agg153 rfl (fun wq9 hw9 => hl4 wq9 (Chg.of_ext [] (hE2.trans hw9))) rfl zN (lw_call 120 [] [] [(.agg #[(.string ((a.getD k Fn.zero).name)), (.int .i64 ((a.getD k Fn.zero).params)), ve4])] rfl rfl cf120 zN (c_laws_toFunc _ da ve4 (a.getD k Fn.zero) ⟨hx4.rng, (hx4.rn.ext (good_rdS (good_rEx da)) hE2)⟩ oM) ?_)
    rintro e5 w5 ⟨v5, rfl, hX5, hO5⟩
    refine ⟨_, rfl, hX5, ?_⟩
    have hzs5 : w2.heap.size ≤ w5.heap.size := hX5.size
    have hE5 : Ext w w5 := hE2.trans hX5
    have hL2_0x5 := hL2_0.ext ((good_owS (good_oFn 46 da))) hX5
    refine q_idx (v := v1) k u50 tiS49 rfl rfl hL2_0x5.isSlS rfl sD zN ?_
    refine e_setS (v := v1) (cs := [(.string ((a.getD k Fn.zero).name)), (.int .i64 ((a.getD k Fn.zero).params)), v5]) (n := (a.getD k Fn.zero)) (j := k) (good_oFn 46 da) agg49 rfl rfl hL2_0x5 (oFn_mk hx4.rng hO5) oM oM sD zN fun w6 F6 hC6 hz6 hF6 hO6 => ?_
    have hE6 : Ext w w6 := hC6.below hE5 (fun c hc => Nat.le_trans (Nat.le_refl _) (hF6 c hc).1) hE5.size
    have hzs6 : w5.heap.size ≤ w6.heap.size := hC6.size
    refine lw_nil (wp_plain _ [0, 0, 0] rfl (lw_tv 1 rfl (q_add ((k + 1 : Nat) : Int) rfl rfl (w64n oM sD) zN (lw_tvn 1 rfl ?_))))
    exact ⟨(k + 1), _, rfl, ⟨rfl, rfl, rfl, trivial⟩, ⟨hE6, (by have h := hO6.up (good_owS (good_oFn 46 da)); rwa [set_zero oM] at h), sD⟩, by first | omega | (dsimp only; omega)⟩
  ·
    exact q_lss false rfl rfl (decide_eq_false hc3) zN (lw_nil (c_cond_f rfl (wp_exit (t_exit (t_exit (c_exit_here (wp_seq (wp_plain _ [0, 0] rfl (lw_tvn 2 rfl (wp_ret (post_ret [2] rfl v1 rfl ⟨v1, rfl, hE2, (by have h := ((hL2_0.up (good_owS (good_oFn 46 da))).low (B' := w.heap.size) oM); rwa [show a.take k ++ List.replicate (a.length - k) Fn.zero = a from by rw [List.take_of_length_le oM, show a.length - k = 0 from by omega]; simp] at h)⟩)))))))))))
theorem c_laws_toProgram (w : World) (dp : Nat) (vp : Value) (p : List Fn) (hp : RP [] dp w.heap vp p) (hs : szP p ≤ 1000000000) :
    Calls Try.prog 32 #[(.agg #[vp])] w (fun e w' => ∃ v, e = .returned (.agg #[v]) ∧ Ext w w' ∧ Fr (owS 3 (oFn 46 dp) 49) w.heap.size w'.heap.size w'.heap v p) := by
  refine calls_mk [(.agg #[vp])] 9 Try.func32 rfl rfl sM ?_
  have hE0 : Ext w w := Ext.refl w
  have hl_vp := hp.lenle
  unfold maxLen at hl_vp
  refine wp_seq (wp_plain _ [3, 3] rfl (r_boxA (cs := #[vp]) rfl zN fun w1 hX1 hz1 hB1 => ?_))
  have hzs1 : w.heap.size ≤ w1.heap.size := hX1.size
  have hE1 : Ext w w1 := hE0.trans hX1
  replace hB1 : BX w1.heap w.heap.size [vp] := hB1
  have hq3 := hB1.lt
  refine r_allocA (z := .agg #[.slice none 0 0]) zr52 zN fun w2 hX2 hz2 hB2 => ?_
  have hzs2 : w1.heap.size ≤ w2.heap.size := hX2.size
  have hE2 : Ext w w2 := hE1.trans hX2
  have hB1x2 := hB1.ext hX2
  replace hB2 : BX w2.heap w1.heap.size [(.slice none 0 0)] := hB2
  refine lw_nil (wp_seq (wp_plain _ [3] rfl ?_))
  have hq5 := hB1x2.lt
  have hq6 := hB2.lt
  refine r_allocA (z := .agg #[.slice none 0 0]) zr52 zN fun w4 hX4 hz4 hB4 => ?_
  have hzs4 : w2.heap.size ≤ w4.heap.size := hX4.size
  have hE4 : Ext w w4 := hE2.trans hX4
  have hB1x4 := hB1x2.ext hX4
  have hB2x4 := hB2.ext hX4
  replace hB4 : BX w4.heap w2.heap.size [(.slice none 0 0)] := hB4
  refine lw_nil (wp_seq (wp_plain _ [0, 2, 3, 0, 4] rfl (q_fldP (p := (.pointer (some ⟨w.heap.size, 0, none⟩))) (b := w.heap.size) (o := 0) 0 fd65_0 rfl rfl zN (q_load (p := (padd (.pointer (some ⟨w.heap.size, 0, none⟩)) 0)) (.inr rfl) vp one63 rfl (hB1x4.ldp (i := 0) sM) zN (lw_call 81 [] [] [vp] rfl rfl cf81 zN (c_laws_toFuncS _ dp vp (p) (hp.ext (good_rdS (good_rFn dp)) hE4) (by exact hs)) ?_)))))
  rintro e7 w7 ⟨v7, rfl, hX7, hO7⟩
  refine ⟨_, rfl, hX7, ?_⟩
  have hzs7 : w4.heap.size ≤ w7.heap.size := hX7.size
  have hE7 : Ext w w7 := hE4.trans hX7
  have hB1x7 := hB1x4.ext hX7
  have hB2x7 := hB2x4.ext hX7
  have hB4x7 := hB4.ext hX7
  refine q_fldP (p := (.pointer (some ⟨w2.heap.size, 0, none⟩))) (b := w2.heap.size) (o := 0) 0 fd52_0 rfl rfl zN (e_setB (k := 0) (w := w7) sz50 rfl rfl (isSl_one hO7.isSlS) hB4x7 sM zN fun w8 hC8 hz8 hB8 => ?_)
  replace hB8 : BX w8.heap w2.heap.size [v7] := hB8
  have hE8 : Ext w w8 := hC8.below hE7 (fun c hc => by have := List.mem_singleton.1 hc; omega) hE7.size
  have hzs8 : w7.heap.size ≤ w8.heap.size := hC8.size
  have hF9 := hB1x7.chg hC8 (fun hm => by have := List.mem_singleton.1 hm; omega)
  have hF10 := hB2x7.chg hC8 (fun hm => by have := List.mem_singleton.1 hm; omega)
  have hF11 := hO7.chg ((good_owS (good_oFn 46 dp))) hC8 (fun c hc => by have := List.mem_singleton.1 hc; omega)
  refine lw_nil (wp_seq (wp_plain _ [2, 4] rfl (q_loadA (p := (.pointer (some ⟨w2.heap.size, 0, none⟩))) (.inr rfl) [v7] agg52 rfl (fun wq9 hw9 => LD.of_box (BX.ext (w := w8) hB8 hw9)) rfl zN (e_setA (vs := [v7]) agg52 rfl rfl (by intro u hu; simp only [List.mem_cons, List.not_mem_nil, or_false] at hu; rcases hu with rfl <;> first | exact ⟨rfl, rfl⟩ | exact isSl_one hF11.isSlS) hF10 rfl rfl zN fun w12 hC12 hz12 hB12 => ?_))))
  replace hB12 : BX w12.heap w1.heap.size [v7] := hB12
  have hE12 : Ext w w12 := hC12.below hE8 (fun c hc => by have := List.mem_singleton.1 hc; omega) hE8.size
  have hzs12 : w8.heap.size ≤ w12.heap.size := hC12.size
  have hF13 := hF9.chg hC12 (fun hm => by have := List.mem_singleton.1 hm; omega)
  have hF14 := hB8.chg hC12 (fun hm => by have := List.mem_singleton.1 hm; omega)
  have hF15 := hF11.chg ((good_owS (good_oFn 46 dp))) hC12 (fun c hc => by have := List.mem_singleton.1 hc; omega)
  exact lw_nil (wp_ret (post_retA (cs := [v7]) rfl agg52 rfl hB12 rfl ⟨v7, rfl, hE12, ((hF15.up (good_owS (good_oFn 46 dp))).low (B' := w.heap.size) oM)⟩))
theorem c_laws_markText (w : World) (k : Int) (_hk : -9223372036854775808 ≤ k ∧ k ≤ 9223372036854775807) (hk : 0 ≤ k ∧ k ≤ 4000000000) :
    Calls Try.prog 129 #[.int .i64 k] w (fun e w' => ∃ s, e = .returned (.string s) ∧ Ext w w' ∧ s = mtx k) := by
  refine calls_mk [.int .i64 k] 20 Try.func129 rfl rfl sM ?_
  have hE0 : Ext w w := Ext.refl w
  refine wp_seq (wp_plain _ [0] rfl (lw_tvn 1 rfl (wp_seq (wp_seq (wp_plain _ [0, 0] rfl (lw_tv 1 rfl ?_))))))
  by_cases hc1 : k ≤ ((0 : Nat) : Int)
  ·
    exact q_leq true rfl rfl (decide_eq_true hc1) zN (lw_nil (c_cond_t rfl (wp_seq (wp_plain _ [0] rfl (lw_tvn 1 rfl (wp_ret (t_ret (post_ret [2] rfl (.string (⟨#[109, 48]⟩)) rfl ⟨⟨#[109, 48]⟩, rfl, hE0, (by unfold mtx; first | rw [if_pos oM] | (rw [if_neg oM, hml, mtl_0 oM]))⟩))))))))
  ·
    refine q_leq false rfl rfl (decide_eq_false hc1) zN (lw_nil (c_cond_f rfl (wp_skip (wp_seq (wp_plain _ [0] rfl (lw_tvn 1 rfl (wp_seq (wp_block (c_loop (S := Int × ByteArray) (fun (⟨l, s⟩ : Int × ByteArray) => ([(0, (.int .i64 l)), (3, (.string s))] : List (Nat × Value))) (fun (⟨l, s⟩ : Int × ByteArray) (W : World) => Ext w W ∧ (0 ≤ l ∧ l + (s.size : Int) ≤ k) ∧ mtl k.toNat k (⟨#[]⟩ : ByteArray) = mtl l.toNat l s) (fun (⟨l, s⟩ : Int × ByteArray) => l.toNat) (k, (⟨#[]⟩)) ⟨rfl, rfl, trivial⟩ ⟨hE0, (by exact ⟨by omega, by show k + ((0 : Nat) : Int) ≤ k; omega⟩), (by rfl)⟩ ?_)))))))))
    clear hE0
    rintro ⟨l, s⟩ ρ2 w2 ⟨hE2, hp2_0, hml⟩
    have hzs2 : w.heap.size ≤ w2.heap.size := hE2.size
    refine wp_seq (wp_seq (wp_plain _ [0, 0] rfl (lw_tv 1 rfl ?_)))
    by_cases hc3 : ((0 : Nat) : Int) < l
    ·
      refine q_gtr true rfl rfl (decide_eq_true hc3) zN (lw_nil (c_cond_t rfl (wp_skip (wp_block (wp_seq (wp_plain _ [0, 0, 0, 0, 3, 2, 0, 0, 0] rfl ?_))))))
      have htm : 0 ≤ l.tmod ((10 : Nat) : Int) ∧ l.tmod ((10 : Nat) : Int) < 10 := ⟨Int.tmod_nonneg _ oM, Int.tmod_lt_of_pos _ oM⟩
      refine lw_tv 1 rfl (q_rem (l.tmod ((10 : Nat) : Int)) rfl rfl (by decide) rfl zN (q_add (((48 : Nat) : Int) + l.tmod ((10 : Nat) : Int)) rfl rfl (w64 oM oM) zN (q_conv (IntKind.u8.wrap (((48 : Nat) : Int) + l.tmod ((10 : Nat) : Int))) u3 u5 rfl rfl zN (r_one (u := (.int .u8 (IntKind.u8.wrap (((48 : Nat) : Int) + l.tmod ((10 : Nat) : Int))))) (B := w2.heap.size) good_rV u22 ti5 rfl rfl (frV (w2.heap.size) (w2.heap.size) _ ⟨rfl, rfl⟩) (Nat.le_refl _) zN fun v4 w4 hX4 hz4 hO4 => ?_))))
      have hzs4 : w2.heap.size ≤ w4.heap.size := hX4.size
      have hE4 : Ext w w4 := hE2.trans hX4
      exact q_byteE u22 u5 u9 rfl hO4 zN (lw_tv 1 rfl (q_adds (a := (⟨#[UInt8.ofNat (IntKind.u8.wrap (((48 : Nat) : Int) + l.tmod ((10 : Nat) : Int))).toNat]⟩ : ByteArray)) (b := s) rfl rfl (by show 1 + s.size ≤ 9223372036854775807; omega) zN (lw_tvn 1 rfl (wp_plain _ [0, 0, 0] rfl (lw_tv 1 rfl (q_quo (l / 10) rfl rfl (by decide) (by rw [Int.tdiv_eq_ediv_of_nonneg oM, w64 oM oM]) zN (lw_tvn 1 rfl ⟨((l / 10), ((⟨#[UInt8.ofNat (IntKind.u8.wrap (((48 : Nat) : Int) + l.tmod ((10 : Nat) : Int))).toNat]⟩ : ByteArray) ++ s)), _, rfl, ⟨rfl, rfl, trivial⟩, ⟨hE4, (by rw [ByteArray.size_append]; show (0 ≤ l / 10 ∧ l / 10 + ((1 + s.size : Nat) : Int) ≤ k); omega), (by rw [hml, mtl_s oM])⟩, by first | omega | (dsimp only; omega)⟩)))))))
    ·
      exact q_gtr false rfl rfl (decide_eq_false hc3) zN (lw_nil (c_cond_f rfl (wp_exit (t_exit (t_exit (c_exit_here (wp_seq (wp_plain _ [0, 0, 0] rfl (lw_tv 1 rfl (q_adds (a := ⟨#[109]⟩) (b := s) rfl rfl (by show 1 + s.size ≤ 9223372036854775807; omega) zN (lw_tvn 1 rfl (wp_ret (post_ret [2] rfl (.string (⟨#[109]⟩ ++ s)) rfl ⟨(⟨#[109]⟩ ++ s), rfl, hE2, (by unfold mtx; first | rw [if_pos oM] | (rw [if_neg oM, hml, mtl_0 oM]))⟩)))))))))))))
theorem z130_0 {p : Prop} (h : p := by first | exact w64 oM oM | (rw [w64 oM oM]; omega)) : p := h
theorem c_laws_markExprS (w : World) (da : Nat) (va : Value) (a : List Ex) (Fa : List Nat) (k : Int) (ha : owS 5 (oEx 46 da) 46 w.heap va a Fa) (hna : Fa.Nodup) (_hk : -9223372036854775808 ≤ k ∧ k ≤ 9223372036854775807) (hk : 0 ≤ k ∧ k + 4 * ((Ex.sizes a : Nat) : Int) ≤ 4000000000) :
    Calls Try.prog 130 #[va, .int .i64 k] w (fun e w' => e = .returned (.int .i64 (k + 4 * ((Ex.sizes a : Nat) : Int))) ∧ Chg Fa w w' ∧ owS 5 (oEx 46 da) 46 w'.heap va (mkL k a) Fa) := by
  induction da using Nat.strongRecOn generalizing w va a Fa k
  rename_i da ih
  refine calls_mk [va, .int .i64 k] 48 Try.func130 rfl rfl sM ?_
  have hE0 : Chg Fa w w := Chg.refl Fa w
  have hl_va := ha.lenle
  unfold maxLen at hl_va
  have hge0 := sizes_ge a 0
  have hs0 : a.length ≤ Ex.sizes a := by omega
  refine wp_seq (wp_plain _ [0] rfl (lw_tvn 1 rfl (wp_seq (wp_seq (wp_plain _ [0] rfl (lw_tvn 1 rfl (wp_block (c_loop (S := Nat × Int) (fun (⟨j, l⟩ : Nat × Int) => ([(1, (.int .i64 l)), (5, (.int .i64 ((j : Nat) : Int))), (0, va)] : List (Nat × Value))) (fun (⟨j, l⟩ : Nat × Int) (W : World) => Chg Fa w W ∧ j ≤ a.length ∧ owS 5 (oEx 46 da) 46 W.heap va (mkL k (a.take j) ++ a.drop j) Fa ∧ l = k + 4 * ((Ex.sizes (a.take j) : Nat) : Int)) (fun (⟨j, l⟩ : Nat × Int) => a.length - j) (0, k) ⟨rfl, rfl, rfl, trivial⟩ ⟨hE0, oM, (by rw [List.take_zero, List.drop_zero, mkL_nil, List.nil_append]; assumption), (by rw [List.take_zero, sizes_nil]; omega)⟩ ?_))))))))
  clear hE0
  rintro ⟨j, l⟩ ρ1 w1 ⟨hE1, hp1_0, hsh, hlk⟩
  have hzs1 : w.heap.size ≤ w1.heap.size := hE1.size
  refine wp_seq (wp_seq (wp_plain _ [0, 0, 0, 0] rfl (lw_tv 2 rfl (q_len (v := va) u44 rfl ha.isSl zN ?_))))
  by_cases hc2 : ((j : Nat) : Int) < ((a.length : Nat) : Int)
  ·
    refine q_lss true rfl rfl (decide_eq_true hc2) zN (lw_nil (c_cond_t rfl (wp_skip (wp_seq (wp_block (wp_seq (wp_plain _ [0, 0, 0, 0, 0, 4] rfl ?_)))))))
    have hst := sizes_step (l := a) (k := j) oM
    have hle := sizes_take a (j + 1)
    have hsk := size_kids (a.getD j Ex.zero)
    have hsp3 : owS 5 (oEx 46 da) 46 w1.heap va ((mkL k (a.take j)) ++ (Ex.mk ((a.getD j Ex.zero).kind) ((a.getD j Ex.zero).num) ((a.getD j Ex.zero).pick) ((a.getD j Ex.zero).count) ((a.getD j Ex.zero).kids)) :: (a.drop (j + 1))) Fa := by have h9 := hsh; rw [drop_at9 Ex.zero (show j < a.length by omega), ex_eta (a.getD j Ex.zero)] at h9; exact h9
    have hLl3 : (mkL k (a.take j)).length = j := by rw [mkL_len, List.length_take]; omega
    refine lw_tv 3 rfl (q_idx (v := va) j u44 tiS46 rfl rfl ha.isSl rfl sD zN ?_)
    obtain ⟨gb4, ob4, hpb4⟩ := ha.isPtr (k := j) sD
    refine q_fldP (p := eptr va j 5) (b := gb4) (o := ob4) 0 fd46_0 rfl hpb4 zN (e_setCO (v := va) (k := j) (c := 0) (L := (mkL k (a.take j))) (z := (Ex.mk ((a.getD j Ex.zero).kind) ((a.getD j Ex.zero).num) ((a.getD j Ex.zero).pick) ((a.getD j Ex.zero).count) ((a.getD j Ex.zero).kids))) (z' := (Ex.mk l ((a.getD j Ex.zero).num) ((a.getD j Ex.zero).pick) ((a.getD j Ex.zero).count) ((a.getD j Ex.zero).kids))) (R := (a.drop (j + 1))) (good_oEx 46 da) sz2 rfl rfl ⟨rfl, rfl⟩ hsp3 hna hLl3.symm (by decide) (fun h => oEx_set0 (by unfold i64; omega) h) zN fun w5 hC5 hz5 hH5 => ?_)
    have hE5 : Chg Fa w w5 := hE1.trans hC5
    have hzs5 : w1.heap.size ≤ w5.heap.size := hC5.size
    refine lw_nil (wp_seq (wp_plain _ [0, 0, 0] rfl (lw_tv 1 rfl (q_add (l + 1) rfl rfl z130_0 zN (lw_tvn 1 rfl (wp_seq (wp_plain _ [0, 0, 0, 0, 0, 4] rfl (lw_tv 3 rfl (q_idx (v := va) j u44 tiS46 rfl rfl ha.isSl rfl sD zN ?_)))))))))
    obtain ⟨gb6, ob6, hpb6⟩ := ha.isPtr (k := j) sD
    refine q_fldP (p := eptr va j 5) (b := gb6) (o := ob6) 1 fd46_1 rfl hpb6 zN (e_setCO (v := va) (k := j) (c := 1) (L := (mkL k (a.take j))) (z := (Ex.mk l ((a.getD j Ex.zero).num) ((a.getD j Ex.zero).pick) ((a.getD j Ex.zero).count) ((a.getD j Ex.zero).kids))) (z' := (Ex.mk l (l + 1) ((a.getD j Ex.zero).pick) ((a.getD j Ex.zero).count) ((a.getD j Ex.zero).kids))) (R := (a.drop (j + 1))) (good_oEx 46 da) sz2 rfl rfl ⟨rfl, rfl⟩ hH5 hna hLl3.symm (by decide) (fun h => oEx_set1 (by unfold i64; omega) h) zN fun w7 hC7 hz7 hH7 => ?_)
    have hE7 : Chg Fa w w7 := hE5.trans hC7
    have hzs7 : w5.heap.size ≤ w7.heap.size := hC7.size
    refine lw_nil (wp_seq (wp_plain _ [0, 0, 0] rfl (lw_tv 1 rfl (q_add (l + 2) rfl rfl z130_0 zN (lw_tvn 1 rfl (wp_seq (wp_plain _ [0, 0, 0, 0, 0, 4] rfl (lw_tv 3 rfl (q_idx (v := va) j u44 tiS46 rfl rfl ha.isSl rfl sD zN ?_)))))))))
    obtain ⟨gb8, ob8, hpb8⟩ := ha.isPtr (k := j) sD
    refine q_fldP (p := eptr va j 5) (b := gb8) (o := ob8) 2 fd46_2 rfl hpb8 zN (e_setCO (v := va) (k := j) (c := 2) (L := (mkL k (a.take j))) (z := (Ex.mk l (l + 1) ((a.getD j Ex.zero).pick) ((a.getD j Ex.zero).count) ((a.getD j Ex.zero).kids))) (z' := (Ex.mk l (l + 1) (l + 2) ((a.getD j Ex.zero).count) ((a.getD j Ex.zero).kids))) (R := (a.drop (j + 1))) (good_oEx 46 da) sz2 rfl rfl ⟨rfl, rfl⟩ hH7 hna hLl3.symm (by decide) (fun h => oEx_set2 (by unfold i64; omega) h) zN fun w9 hC9 hz9 hH9 => ?_)
    have hE9 : Chg Fa w w9 := hE7.trans hC9
    have hzs9 : w7.heap.size ≤ w9.heap.size := hC9.size
    refine lw_nil (wp_seq (wp_plain _ [0, 0, 0] rfl (lw_tv 1 rfl (q_add (l + 3) rfl rfl z130_0 zN (lw_tvn 1 rfl (wp_seq (wp_plain _ [0, 0, 0, 0, 0, 4] rfl (lw_tv 3 rfl (q_idx (v := va) j u44 tiS46 rfl rfl ha.isSl rfl sD zN ?_)))))))))
    obtain ⟨gb10, ob10, hpb10⟩ := ha.isPtr (k := j) sD
    refine q_fldP (p := eptr va j 5) (b := gb10) (o := ob10) 3 fd46_3 rfl hpb10 zN (e_setCO (v := va) (k := j) (c := 3) (L := (mkL k (a.take j))) (z := (Ex.mk l (l + 1) (l + 2) ((a.getD j Ex.zero).count) ((a.getD j Ex.zero).kids))) (z' := (Ex.mk l (l + 1) (l + 2) (l + 3) ((a.getD j Ex.zero).kids))) (R := (a.drop (j + 1))) (good_oEx 46 da) sz2 rfl rfl ⟨rfl, rfl⟩ hH9 hna hLl3.symm (by decide) (fun h => oEx_set3 (by unfold i64; omega) h) zN fun w11 hC11 hz11 hH11 => ?_)
    have hE11 : Chg Fa w w11 := hE9.trans hC11
    have hzs11 : w9.heap.size ≤ w11.heap.size := hC11.size
    refine lw_nil (wp_seq (wp_plain _ [0, 0, 0] rfl (lw_tv 1 rfl (q_add (l + 4) rfl rfl z130_0 zN (lw_tvn 1 rfl (wp_plain _ [0, 0, 0, 0, 2, 0, 4, 0] rfl (lw_tv 2 rfl (q_idx (v := va) j u44 tiS46 rfl rfl ha.isSl rfl sD zN ?_))))))))
    obtain ⟨gb12, ob12, hpb12⟩ := ha.isPtr (k := j) sD
    refine q_fldP (p := eptr va j 5) (b := gb12) (o := ob12) 4 fd46_4 rfl hpb12 zN ?_
    obtain ⟨dk13, ue13, G13, hdk13, hl13, ho13, hng13, hsub13, hre13⟩ := owS.kidEO (L := (mkL k (a.take j))) (y := (Ex.mk l (l + 1) (l + 2) (l + 3) ((a.getD j Ex.zero).kids))) (R := (a.drop (j + 1))) hH11 hna (k := j) hLl3.symm
    replace ho13 : owS 5 (oEx 46 dk13) 46 w11.heap ue13 ((a.getD j Ex.zero).kids) G13 := ho13
    refine q_load (p := (padd (eptr va j 5) 4)) (.inr rfl) ue13 one44 rfl hl13 zN (lw_tv 1 rfl (lw_callE 130 [] [] [ue13, (.int .i64 (l + 4))] rfl rfl cf130 zN (ih dk13 oM _  ue13 ((a.getD j Ex.zero).kids) G13 (l + 4) ho13 hng13 oM oM) ?_))
    rintro e14 w14 ⟨rfl, hC14, hO14⟩
    refine ⟨_, rfl, ?_⟩
    have hzs14 : w11.heap.size ≤ w14.heap.size := hC14.size
    have hE14 : Chg Fa w w14 := hE11.trans (hC14.sub hsub13)
    have hH14 : owS 5 (oEx 46 da) 46 w14.heap va ((mkL k (a.take j)) ++ (Ex.mk l (l + 1) (l + 2) (l + 3) (mkL (l + 4) ((a.getD j Ex.zero).kids))) :: (a.drop (j + 1))) Fa := hre13 _ _ hC14 hO14
    refine lw_tvn 1 rfl (wp_plain _ [0, 0, 0] rfl (lw_tv 1 rfl (q_add ((j + 1 : Nat) : Int) rfl rfl (w64n oM sD) zN (lw_tvn 1 rfl ?_))))
    have hshe := hH14
    exact ⟨((j + 1), (l + 4 + 4 * ((Ex.sizes ((a.getD j Ex.zero).kids) : Nat) : Int))), _, rfl, ⟨rfl, rfl, rfl, trivial⟩, ⟨hE14, oM, (by rw [mkL_succ k oM, mkX_eq, ← hlk, List.append_assoc]; exact hshe), oM⟩, by first | omega | (dsimp only; omega)⟩
  ·
    exact q_lss false rfl rfl (decide_eq_false hc2) zN (lw_nil (c_cond_f rfl (wp_exit (t_exit (t_exit (c_exit_here (wp_seq (wp_plain _ [0, 0] rfl (lw_tvn 2 rfl (wp_ret (post_ret [4] rfl (.int .i64 l) rfl ⟨(by first | rfl | (rw [hlk, sizes_all oM])), hE1, (by have h9 := hsh; rw [List.take_of_length_le (show a.length ≤ j by omega), List.drop_eq_nil_of_le (show a.length ≤ j by omega), List.append_nil] at h9; exact h9)⟩)))))))))))
theorem c_laws_markFuncS (w : World) (da : Nat) (va : Value) (a : List Fn) (Fa : List Nat) (k : Int) (ha : owS 3 (oFn 46 da) 49 w.heap va a Fa) (hna : Fa.Nodup) (_hk : -9223372036854775808 ≤ k ∧ k ≤ 9223372036854775807) (hk : 0 ≤ k ∧ k + ((mkN a : Nat) : Int) ≤ 4000000000) :
    Calls Try.prog 90 #[va, .int .i64 k] w (fun e w' => e = .returned (.int .i64 (k + ((mkN a : Nat) : Int))) ∧ Chg Fa w w' ∧ owS 3 (oFn 46 da) 49 w'.heap va (mkP k a) Fa) := by
  refine calls_mk [va, .int .i64 k] 35 Try.func90 rfl rfl sM ?_
  have hE0 : Chg Fa w w := Chg.refl Fa w
  have hl_va := ha.lenle
  unfold maxLen at hl_va
  refine wp_seq (wp_plain _ [0] rfl (lw_tvn 1 rfl (wp_seq (wp_seq (wp_plain _ [0] rfl (lw_tvn 1 rfl (wp_block (c_loop (S := Nat × Int) (fun (⟨j, l⟩ : Nat × Int) => ([(1, (.int .i64 l)), (5, (.int .i64 ((j : Nat) : Int))), (0, va)] : List (Nat × Value))) (fun (⟨j, l⟩ : Nat × Int) (W : World) => Chg Fa w W ∧ j ≤ a.length ∧ owS 3 (oFn 46 da) 49 W.heap va (mkP k (a.take j) ++ a.drop j) Fa ∧ l = k + ((mkN (a.take j) : Nat) : Int)) (fun (⟨j, l⟩ : Nat × Int) => a.length - j) (0, k) ⟨rfl, rfl, rfl, trivial⟩ ⟨hE0, oM, (by rw [List.take_zero, List.drop_zero]; assumption), (by rw [List.take_zero]; show k = k + ((0 : Nat) : Int); omega)⟩ ?_))))))))
  clear hE0
  rintro ⟨j, l⟩ ρ1 w1 ⟨hE1, hp1_0, hsh, hlk⟩
  have hzs1 : w.heap.size ≤ w1.heap.size := hE1.size
  refine wp_seq (wp_seq (wp_plain _ [0, 0, 0, 0] rfl (lw_tv 2 rfl (q_len (v := va) u50 rfl ha.isSl zN ?_))))
  by_cases hc2 : ((j : Nat) : Int) < ((a.length : Nat) : Int)
  ·
    refine q_lss true rfl rfl (decide_eq_true hc2) zN (lw_nil (c_cond_t rfl (wp_skip (wp_seq (wp_block (wp_seq (wp_plain _ [0, 0, 0, 3, 0, 0, 4] rfl ?_)))))))
    have hst := mkN_succ (l := a) (j := j) oM
    have hle := mkN_take a (j + 1)
    have hsp3 : owS 3 (oFn 46 da) 49 w1.heap va ((mkP k (a.take j)) ++ (⟨(a.getD j Fn.zero).name, (a.getD j Fn.zero).params, (a.getD j Fn.zero).outs⟩ : Fn) :: (a.drop (j + 1))) Fa := by have h9 := hsh; rw [drop_at9 Fn.zero (show j < a.length by omega)] at h9; exact h9
    have hLl3 : (mkP k (a.take j)).length = j := by rw [mkP_len, List.length_take]; omega
    refine lw_tv 3 rfl (lw_call 129 [] [] [(.int .i64 l)] rfl rfl cf129 zN (c_laws_markText _ (l) oM oM) ?_)
    rintro e4 w4 ⟨_, rfl, hX4, rfl⟩
    refine ⟨_, rfl, hX4, ?_⟩
    have hzs4 : w1.heap.size ≤ w4.heap.size := hX4.size
    have hE4 : Chg Fa w w4 := hE1.ext hX4
    have hH5 := own_ext (good_owS (good_oFn 46 da)) hsp3 hX4
    refine q_idx (v := va) j u50 tiS49 rfl rfl ha.isSl rfl sD zN ?_
    obtain ⟨gb6, ob6, hpb6⟩ := ha.isPtr (k := j) sD
    refine q_fldP (p := eptr va j 3) (b := gb6) (o := ob6) 0 fd49_0 rfl hpb6 zN (e_setCO (v := va) (k := j) (c := 0) (L := (mkP k (a.take j))) (z := (⟨(a.getD j Fn.zero).name, (a.getD j Fn.zero).params, (a.getD j Fn.zero).outs⟩ : Fn)) (z' := (⟨(mtx (l)), (a.getD j Fn.zero).params, (a.getD j Fn.zero).outs⟩ : Fn)) (R := (a.drop (j + 1))) (good_oFn 46 da) sz9 rfl rfl ⟨rfl, rfl⟩ hH5 hna hLl3.symm (by decide) (fun h => oFn_set0 h) zN fun w7 hC7 hz7 hH7 => ?_)
    have hE7 : Chg Fa w w7 := hE4.trans hC7
    have hzs7 : w4.heap.size ≤ w7.heap.size := hC7.size
    refine lw_nil (wp_seq (wp_plain _ [0, 0, 0] rfl (lw_tv 1 rfl (q_add (l + 1) rfl rfl (by first | exact w64 oM oM | (rw [w64 oM oM]; omega)) zN (lw_tvn 1 rfl (wp_seq (wp_plain _ [0, 0, 0, 0, 0, 4] rfl (lw_tv 3 rfl (q_idx (v := va) j u50 tiS49 rfl rfl ha.isSl rfl sD zN ?_)))))))))
    obtain ⟨gb8, ob8, hpb8⟩ := ha.isPtr (k := j) sD
    refine q_fldP (p := eptr va j 3) (b := gb8) (o := ob8) 1 fd49_1 rfl hpb8 zN (e_setCO (v := va) (k := j) (c := 1) (L := (mkP k (a.take j))) (z := (⟨(mtx (l)), (a.getD j Fn.zero).params, (a.getD j Fn.zero).outs⟩ : Fn)) (z' := (⟨(mtx (l)), l + 1, (a.getD j Fn.zero).outs⟩ : Fn)) (R := (a.drop (j + 1))) (good_oFn 46 da) sz2 rfl rfl ⟨rfl, rfl⟩ hH7 hna hLl3.symm (by decide) (fun h => oFn_set1 (by unfold i64; omega) h) zN fun w9 hC9 hz9 hH9 => ?_)
    have hE9 : Chg Fa w w9 := hE7.trans hC9
    have hzs9 : w7.heap.size ≤ w9.heap.size := hC9.size
    refine lw_nil (wp_seq (wp_plain _ [0, 0, 0] rfl (lw_tv 1 rfl (q_add (l + 2) rfl rfl (by first | exact w64 oM oM | (rw [w64 oM oM]; omega)) zN (lw_tvn 1 rfl (wp_plain _ [0, 0, 0, 0, 2, 0, 4, 0] rfl (lw_tv 2 rfl (q_idx (v := va) j u50 tiS49 rfl rfl ha.isSl rfl sD zN ?_))))))))
    obtain ⟨gb10, ob10, hpb10⟩ := ha.isPtr (k := j) sD
    refine q_fldP (p := eptr va j 3) (b := gb10) (o := ob10) 2 fd49_2 rfl hpb10 zN ?_
    obtain ⟨ue11, G11, hl11, ho11, hng11, hsub11, hre11⟩ := owS.kidFO (L := (mkP k (a.take j))) (y := (⟨(mtx (l)), l + 1, (a.getD j Fn.zero).outs⟩ : Fn)) (R := (a.drop (j + 1))) hH9 hna (k := j) hLl3.symm
    replace ho11 : owS 5 (oEx 46 da) 46 w9.heap ue11 ((a.getD j Fn.zero).outs) G11 := ho11
    refine q_load (p := (padd (eptr va j 3) 2)) (.inr rfl) ue11 one44 rfl hl11 zN (lw_tv 1 rfl (lw_callE 130 [] [] [ue11, (.int .i64 (l + 2))] rfl rfl cf130 zN (c_laws_markExprS _ da ue11 ((a.getD j Fn.zero).outs) G11 (l + 2) ho11 hng11 oM oM) ?_))
    rintro e12 w12 ⟨rfl, hC12, hO12⟩
    refine ⟨_, rfl, ?_⟩
    have hzs12 : w9.heap.size ≤ w12.heap.size := hC12.size
    have hE12 : Chg Fa w w12 := hE9.trans (hC12.sub hsub11)
    have hH12 : owS 3 (oFn 46 da) 49 w12.heap va ((mkP k (a.take j)) ++ (⟨(mtx (l)), l + 1, (mkL (l + 2) ((a.getD j Fn.zero).outs))⟩ : Fn) :: (a.drop (j + 1))) Fa := hre11 _ _ hC12 hO12
    refine lw_tvn 1 rfl (wp_plain _ [0, 0, 0] rfl (lw_tv 1 rfl (q_add ((j + 1 : Nat) : Int) rfl rfl (w64n oM sD) zN (lw_tvn 1 rfl ?_))))
    have hshe := hH12
    exact ⟨((j + 1), (l + 2 + 4 * ((Ex.sizes ((a.getD j Fn.zero).outs) : Nat) : Int))), _, rfl, ⟨rfl, rfl, rfl, trivial⟩, ⟨hE12, oM, (by rw [mkP_succ k oM, ← hlk, List.append_assoc]; exact hshe), oM⟩, by first | omega | (dsimp only; omega)⟩
  ·
    exact q_lss false rfl rfl (decide_eq_false hc2) zN (lw_nil (c_cond_f rfl (wp_exit (t_exit (t_exit (c_exit_here (wp_seq (wp_plain _ [0, 0] rfl (lw_tvn 2 rfl (wp_ret (post_ret [4] rfl (.int .i64 l) rfl ⟨(by first | rfl | (rw [hlk, List.take_of_length_le (show a.length ≤ j by omega)])), hE1, (by have h9 := hsh; rw [List.take_of_length_le (show a.length ≤ j by omega), List.drop_eq_nil_of_le (show a.length ≤ j by omega), List.append_nil] at h9; exact h9)⟩)))))))))))
theorem c_laws_markProgram (w : World) (da : Nat) (va : Value) (a : List Fn) (Fa : List Nat) (k : Int) (ha : owS 3 (oFn 46 da) 49 w.heap va a Fa) (hna : Fa.Nodup) (_hk : -9223372036854775808 ≤ k ∧ k ≤ 9223372036854775807) (hk : 0 ≤ k ∧ k + ((mkN a : Nat) : Int) ≤ 4000000000) :
    Calls Try.prog 35 #[(.agg #[va]), .int .i64 k] w (fun e w' => e = .returned (.int .i64 (k + ((mkN a : Nat) : Int))) ∧ Chg Fa w w' ∧ owS 3 (oFn 46 da) 49 w'.heap va (mkP k a) Fa) := by
  refine calls_mk [(.agg #[va]), .int .i64 k] 10 Try.func35 rfl rfl sM ?_
  have hE0 : Chg Fa w w := Chg.refl Fa w
  refine wp_seq (wp_plain _ [3, 0] rfl (r_boxA (cs := #[va]) rfl zN fun w1 hX1 hz1 hB1 => ?_))
  have hzs1 : w.heap.size ≤ w1.heap.size := hX1.size
  have hE1 : Chg Fa w w1 := hE0.ext hX1
  have hH2 := own_ext (good_owS (good_oFn 46 da)) ha hX1
  replace hB1 : BX w1.heap w.heap.size [va] := hB1
  refine lw_tvn 1 rfl (wp_seq (wp_plain _ [0, 2, 0, 4, 0] rfl (q_fldP (p := (.pointer (some ⟨w.heap.size, 0, none⟩))) (b := w.heap.size) (o := 0) 0 fd52_0 rfl rfl zN (q_load (p := (padd (.pointer (some ⟨w.heap.size, 0, none⟩)) 0)) (.inr rfl) va one50 rfl (hB1.ldp (i := 0) sM) zN (lw_tv 1 rfl (lw_callE 90 [] [] [va, (.int .i64 k)] rfl rfl cf90 zN (c_laws_markFuncS _ da va a Fa (k) hH2 hna _hk oM) ?_))))))
  rintro e3 w3 ⟨rfl, hC3, hO3⟩
  refine ⟨_, rfl, ?_⟩
  have hzs3 : w1.heap.size ≤ w3.heap.size := hC3.size
  have hE3 : Chg Fa w w3 := hE1.trans hC3
  exact lw_tvn 1 rfl (wp_seq (wp_plain _ [0, 0] rfl (lw_tvn 2 rfl (wp_ret (post_ret [4] rfl (.int .i64 (k + ((mkN a : Nat) : Int))) rfl ⟨(by rfl), hE3, (by exact hO3)⟩)))))
theorem z131_0 {p : Prop} (h : p := by first | (have hsa := sizes_all (l := b) (k := j) oM; exact ret_int oM) | (exfalso; omega) | (exfalso; simp_all; done)) : p := h
theorem z131_1 {p : Prop} (h : p := by first | exact w64 oM oM | (rw [w64 oM oM]; omega)) : p := h
theorem c_laws_heldExprS (w : World) (db : Nat) (vb : Value) (b : List Ex) (k : Int) (hb : RN [] (rdS 5 (rEx db)) w.heap vb b) (_hk : -9223372036854775808 ≤ k ∧ k ≤ 9223372036854775807) (hb2 : ∃ a, b = mkL k a) (hk : 0 ≤ k ∧ k + 4 * ((Ex.sizes b : Nat) : Int) ≤ 4000000000) :
    Calls Try.prog 131 #[vb, .int .i64 k] w (fun e w' => e = .returned (.int .i64 (k + 4 * ((Ex.sizes b : Nat) : Int))) ∧ Ext w w') := by
  induction db using Nat.strongRecOn generalizing w vb b k
  rename_i db ih
  refine calls_mk [vb, .int .i64 k] 58 Try.func131 rfl rfl sM ?_
  have hE0 : Ext w w := Ext.refl w
  have hl_vb := hb.lenle
  unfold maxLen at hl_vb
  obtain ⟨a, hba⟩ := hb2
  have hge0 := sizes_ge b 0
  have hbl : b.length = a.length := by rw [hba, mkL_len]
  refine wp_seq (wp_plain _ [0] rfl (lw_tvn 1 rfl (wp_seq (wp_seq (wp_plain _ [0] rfl (lw_tvn 1 rfl (wp_block (c_loop (S := Nat × Int) (fun (⟨j, l⟩ : Nat × Int) => ([(1, (.int .i64 l)), (5, (.int .i64 ((j : Nat) : Int))), (0, vb)] : List (Nat × Value))) (fun (⟨j, l⟩ : Nat × Int) (W : World) => Ext w W ∧ j ≤ b.length ∧ l = k + 4 * ((Ex.sizes (b.take j) : Nat) : Int)) (fun (⟨j, l⟩ : Nat × Int) => b.length - j) (0, k) ⟨rfl, rfl, rfl, trivial⟩ ⟨hE0, oM, (by rw [List.take_zero, sizes_nil]; omega)⟩ ?_))))))))
  clear hE0
  rintro ⟨j, l⟩ ρ1 w1 ⟨hE1, hp1_0, hlk⟩
  have hzs1 : w.heap.size ≤ w1.heap.size := hE1.size
  refine wp_seq (wp_seq (wp_plain _ [0, 0, 0, 0] rfl (lw_tv 2 rfl (q_len (v := vb) u44 rfl hb.isSl zN ?_))))
  by_cases hc2 : ((j : Nat) : Int) < ((b.length : Nat) : Int)
  ·
    refine q_lss true rfl rfl (decide_eq_true hc2) zN (lw_nil (c_cond_t rfl (wp_skip (wp_seq (wp_block (wp_seq (wp_seq (wp_plain _ [0, 0, 0, 0, 2, 0, 0] rfl ?_))))))))
    have hst := sizes_step (l := b) (k := j) oM
    have hle := sizes_take b (j + 1)
    have hsk := size_kids (b.getD j Ex.zero)
    have hbt : Ex.sizes (b.take j) = Ex.sizes (a.take j) := by rw [hba]; exact mkL_tak k a j
    have hbj : b.getD j Ex.zero = mkX l (a.getD j Ex.zero) := by rw [hlk, hbt, hba]; exact mkL_get k oM
    have hk1 : (b.getD j Ex.zero).kind = l := by rw [hbj, mkX_eq]; rfl
    have hk2 : (b.getD j Ex.zero).num = l + 1 := by rw [hbj, mkX_eq]; rfl
    have hk3 : (b.getD j Ex.zero).pick = l + 2 := by rw [hbj, mkX_eq]; rfl
    have hk4 : (b.getD j Ex.zero).count = l + 3 := by rw [hbj, mkX_eq]; rfl
    have hk5 : (b.getD j Ex.zero).kids = mkL (l + 4) (a.getD j Ex.zero).kids := by rw [hbj, mkX_eq]; rfl
    refine lw_tv 2 rfl (q_idx (v := vb) j u44 tiS46 rfl rfl hb.isSl rfl sD zN ?_)
    obtain ⟨cs3, hr3, hl3⟩ := hb.get (good_rEx db) Ex.zero (k := j) sD
    obtain ⟨dd3, ve3, hd3, rfl, hx3⟩ := RX.of hr3
    have hln3 := hx3.rn.lenle
    unfold maxLen at hln3
    refine q_fldL (p := eptr vb j 5) 0 fd46_0 rfl (hl3 _ (Chg.of_ext [] hE1)) zN (q_load (p := (padd (eptr vb j 5) 0)) (.inr rfl) (.int .i64 ((b.getD j Ex.zero).kind)) one2 rfl ((hl3 _ (Chg.of_ext [] hE1)).ld (i := 0) (by simp [exC, fnC])) zN (lw_tv 1 rfl ?_))
    by_cases hc4 : (b.getD j Ex.zero).kind ≠ l
    ·
      exact q_neq true rfl rfl (decide_eq_true hc4) zN (lw_nil (c_cond_t rfl (wp_seq (wp_plain _ [0] rfl (lw_tvn 1 rfl (wp_ret (t_ret (b_ret (t_ret (t_ret (b_ret (t_ret (post_ret [4] rfl (.int .i64 (-1)) rfl ⟨z131_0, hE1⟩)))))))))))))
    ·
      refine q_neq false rfl rfl (decide_eq_false hc4) zN (lw_nil (c_cond_f rfl (wp_skip (wp_seq (wp_plain _ [0, 0, 0] rfl (lw_tv 1 rfl (q_add (l + 1) rfl rfl z131_1 zN (lw_tvn 1 rfl (wp_seq (wp_seq (wp_plain _ [0, 0, 0, 0, 2, 0, 0] rfl (lw_tv 2 rfl (q_idx (v := vb) j u44 tiS46 rfl rfl hb.isSl rfl sD zN ?_)))))))))))))
      refine q_fldL (p := eptr vb j 5) 1 fd46_1 rfl (hl3 _ (Chg.of_ext [] hE1)) zN (q_load (p := (padd (eptr vb j 5) 1)) (.inr rfl) (.int .i64 ((b.getD j Ex.zero).num)) one2 rfl ((hl3 _ (Chg.of_ext [] hE1)).ld (i := 1) (by simp [exC, fnC])) zN (lw_tv 1 rfl ?_))
      by_cases hc5 : (b.getD j Ex.zero).num ≠ l + 1
      ·
        exact q_neq true rfl rfl (decide_eq_true hc5) zN (lw_nil (c_cond_t rfl (wp_seq (wp_plain _ [0] rfl (lw_tvn 1 rfl (wp_ret (t_ret (b_ret (t_ret (t_ret (b_ret (t_ret (post_ret [4] rfl (.int .i64 (-1)) rfl ⟨z131_0, hE1⟩)))))))))))))
      ·
        refine q_neq false rfl rfl (decide_eq_false hc5) zN (lw_nil (c_cond_f rfl (wp_skip (wp_seq (wp_plain _ [0, 0, 0] rfl (lw_tv 1 rfl (q_add (l + 2) rfl rfl z131_1 zN (lw_tvn 1 rfl (wp_seq (wp_seq (wp_plain _ [0, 0, 0, 0, 2, 0, 0] rfl (lw_tv 2 rfl (q_idx (v := vb) j u44 tiS46 rfl rfl hb.isSl rfl sD zN ?_)))))))))))))
        refine q_fldL (p := eptr vb j 5) 2 fd46_2 rfl (hl3 _ (Chg.of_ext [] hE1)) zN (q_load (p := (padd (eptr vb j 5) 2)) (.inr rfl) (.int .i64 ((b.getD j Ex.zero).pick)) one2 rfl ((hl3 _ (Chg.of_ext [] hE1)).ld (i := 2) (by simp [exC, fnC])) zN (lw_tv 1 rfl ?_))
        by_cases hc6 : (b.getD j Ex.zero).pick ≠ l + 2
        ·
          exact q_neq true rfl rfl (decide_eq_true hc6) zN (lw_nil (c_cond_t rfl (wp_seq (wp_plain _ [0] rfl (lw_tvn 1 rfl (wp_ret (t_ret (b_ret (t_ret (t_ret (b_ret (t_ret (post_ret [4] rfl (.int .i64 (-1)) rfl ⟨z131_0, hE1⟩)))))))))))))
        ·
          refine q_neq false rfl rfl (decide_eq_false hc6) zN (lw_nil (c_cond_f rfl (wp_skip (wp_seq (wp_plain _ [0, 0, 0] rfl (lw_tv 1 rfl (q_add (l + 3) rfl rfl z131_1 zN (lw_tvn 1 rfl (wp_seq (wp_seq (wp_plain _ [0, 0, 0, 0, 2, 0, 0] rfl (lw_tv 2 rfl (q_idx (v := vb) j u44 tiS46 rfl rfl hb.isSl rfl sD zN ?_)))))))))))))
          refine q_fldL (p := eptr vb j 5) 3 fd46_3 rfl (hl3 _ (Chg.of_ext [] hE1)) zN (q_load (p := (padd (eptr vb j 5) 3)) (.inr rfl) (.int .i64 ((b.getD j Ex.zero).count)) one2 rfl ((hl3 _ (Chg.of_ext [] hE1)).ld (i := 3) (by simp [exC, fnC])) zN (lw_tv 1 rfl ?_))
          by_cases hc7 : (b.getD j Ex.zero).count ≠ l + 3
          ·
            exact q_neq true rfl rfl (decide_eq_true hc7) zN (lw_nil (c_cond_t rfl (wp_seq (wp_plain _ [0] rfl (lw_tvn 1 rfl (wp_ret (t_ret (b_ret (t_ret (t_ret (b_ret (t_ret (post_ret [4] rfl (.int .i64 (-1)) rfl ⟨z131_0, hE1⟩)))))))))))))
          ·
            refine q_neq false rfl rfl (decide_eq_false hc7) zN (lw_nil (c_cond_f rfl (wp_skip (wp_seq (wp_plain _ [0, 0, 0] rfl (lw_tv 1 rfl (q_add (l + 4) rfl rfl z131_1 zN (lw_tvn 1 rfl (wp_seq (wp_plain _ [0, 0, 0, 0, 2, 0, 3, 0] rfl (lw_tv 2 rfl (q_idx (v := vb) j u44 tiS46 rfl rfl hb.isSl rfl sD zN ?_))))))))))))
            refine q_fldL (p := eptr vb j 5) 4 fd46_4 rfl (hl3 _ (Chg.of_ext [] hE1)) zN (q_load (p := (padd (eptr vb j 5) 4)) (.inr rfl) ve3 one44 rfl ((hl3 _ (Chg.of_ext [] hE1)).ld (i := 4) (by simp [exC, fnC])) zN (lw_tv 1 rfl (lw_call 131 [] [] [ve3, (.int .i64 (l + 4))] rfl rfl cf131 zN (ih dd3 oM _ ve3 ((b.getD j Ex.zero).kids) (l + 4) (hx3.rn.ext (good_rdS (good_rEx dd3)) hE1) oM (by exact ⟨_, hk5⟩) oM) ?_)))
            rintro e8 w8 ⟨rfl, hX8⟩
            refine ⟨_, rfl, hX8, ?_⟩
            have hzs8 : w1.heap.size ≤ w8.heap.size := hX8.size
            have hE8 : Ext w w8 := hE1.trans hX8
            refine lw_tvn 1 rfl (wp_seq (wp_plain _ [0, 0] rfl (lw_tv 1 rfl ?_)))
            by_cases hc9 : l + 4 + 4 * ((Ex.sizes ((b.getD j Ex.zero).kids) : Nat) : Int) < ((0 : Nat) : Int)
            ·
              exact q_lss true rfl rfl (decide_eq_true hc9) zN (lw_nil (c_cond_t rfl (wp_seq (wp_plain _ [0] rfl (lw_tvn 1 rfl (wp_ret (b_ret (t_ret (t_ret (b_ret (t_ret (post_ret [4] rfl (.int .i64 (-1)) rfl ⟨z131_0, hE8⟩))))))))))))
            ·
              exact q_lss false rfl rfl (decide_eq_false hc9) zN (lw_nil (c_cond_f rfl (wp_skip (wp_plain _ [0, 0, 0] rfl (lw_tv 1 rfl (q_add ((j + 1 : Nat) : Int) rfl rfl (w64n oM sD) zN (lw_tvn 1 rfl ⟨((j + 1), (l + 4 + 4 * ((Ex.sizes ((b.getD j Ex.zero).kids) : Nat) : Int))), _, rfl, ⟨rfl, rfl, rfl, trivial⟩, ⟨hE8, oM, oM⟩, by first | omega | (dsimp only; omega)⟩)))))))
  ·
    exact q_lss false rfl rfl (decide_eq_false hc2) zN (lw_nil (c_cond_f rfl (wp_exit (t_exit (t_exit (c_exit_here (wp_seq (wp_plain _ [0, 0] rfl (lw_tvn 2 rfl (wp_ret (post_ret [4] rfl (.int .i64 l) rfl ⟨z131_0, hE1⟩)))))))))))
theorem strE_self9 (s : ByteArray) : strE s s = true := by unfold strE; simp
theorem z91_0 {p : Prop} (h : p := by first | (rw [hlk, List.take_of_length_le (show b.length ≤ j by omega)]; done) | (exfalso; omega) | (exfalso; simp_all; done)) : p := h
theorem c_laws_heldFuncS (w : World) (db : Nat) (vb : Value) (b : List Fn) (k : Int) (hb : RP [] db w.heap vb b) (_hk : -9223372036854775808 ≤ k ∧ k ≤ 9223372036854775807) (hb2 : ∃ a, b = mkP k a) (hk : 0 ≤ k ∧ k + ((mkN b : Nat) : Int) ≤ 4000000000) :
    Calls Try.prog 91 #[vb, .int .i64 k] w (fun e w' => e = .returned (.int .i64 (k + ((mkN b : Nat) : Int))) ∧ Ext w w') := by
  refine calls_mk [vb, .int .i64 k] 41 Try.func91 rfl rfl sM ?_
  have hE0 : Ext w w := Ext.refl w
  have hl_vb := hb.lenle
  unfold maxLen at hl_vb
  obtain ⟨a, hba⟩ := hb2
  have hbl : b.length = a.length := by rw [hba, mkP_len]
  refine wp_seq (wp_plain _ [0] rfl (lw_tvn 1 rfl (wp_seq (wp_seq (wp_plain _ [0] rfl (lw_tvn 1 rfl (wp_block (c_loop (S := Nat × Int) (fun (⟨j, l⟩ : Nat × Int) => ([(1, (.int .i64 l)), (5, (.int .i64 ((j : Nat) : Int))), (0, vb)] : List (Nat × Value))) (fun (⟨j, l⟩ : Nat × Int) (W : World) => Ext w W ∧ j ≤ b.length ∧ l = k + ((mkN (b.take j) : Nat) : Int)) (fun (⟨j, l⟩ : Nat × Int) => b.length - j) (0, k) ⟨rfl, rfl, rfl, trivial⟩ ⟨hE0, oM, (by rw [List.take_zero]; show k = k + ((0 : Nat) : Int); omega)⟩ ?_))))))))
  clear hE0
  rintro ⟨j, l⟩ ρ1 w1 ⟨hE1, hp1_0, hlk⟩
  have hzs1 : w.heap.size ≤ w1.heap.size := hE1.size
  refine wp_seq (wp_seq (wp_plain _ [0, 0, 0, 0] rfl (lw_tv 2 rfl (q_len (v := vb) u50 rfl hb.isSl zN ?_))))
  by_cases hc2 : ((j : Nat) : Int) < ((b.length : Nat) : Int)
  ·
    refine q_lss true rfl rfl (decide_eq_true hc2) zN (lw_nil (c_cond_t rfl (wp_skip (wp_seq (wp_block (wp_seq (wp_seq (wp_draw _ [0, 0, 0, 0, 1, 0, 3, 0] mixed (by kernel_rfl) ?_))))))))
    have hst := mkN_succ (l := b) (j := j) oM
    have hle := mkN_take b (j + 1)
    have hbt : mkN (b.take j) = mkN (a.take j) := by rw [hba]; exact mkN_tak k a j
    have hbj : b.getD j Fn.zero = mkF l (a.getD j Fn.zero) := by rw [hlk, hbt, hba]; exact mkP_get k oM
    have hk1 : strE (b.getD j Fn.zero).name (mtx l) = true := by rw [hbj]; exact strE_self9 _
    have hk2 : (b.getD j Fn.zero).params = l + 1 := by rw [hbj]; rfl
    have hk5 : (b.getD j Fn.zero).outs = mkL (l + 2) (a.getD j Fn.zero).outs := by rw [hbj]; rfl
    refine lw_tv 2 rfl (q_idx (v := vb) j u50 tiS49 rfl rfl hb.isSl rfl sD zN ?_)
    obtain ⟨cs3, hr3, hl3⟩ := hb.get (good_rFn db) Fn.zero (k := j) sD
    obtain ⟨ve3, rfl, hx3⟩ := RF.of hr3
    have hln3 := hx3.rn.lenle
    unfold maxLen at hln3
    refine q_fldL (p := eptr vb j 3) 0 fd49_0 rfl (hl3 _ (Chg.of_ext [] hE1.drew)) zN (q_load (p := (padd (eptr vb j 3) 0)) (.inl rfl) (.string ((b.getD j Fn.zero).name)) one9 rfl ((hl3 _ (Chg.of_ext [] hE1.drew)).ld (i := 0) (by simp [exC, fnC])) zN (lw_tv 1 rfl (lw_call 129 [] [] [(.int .i64 l)] rfl rfl cf129 zN (c_laws_markText _ (l) oM oM) ?_)))
    rintro e4 w4 ⟨_, rfl, hX4, rfl⟩
    refine ⟨_, rfl, hX4, ?_⟩
    replace hX4 := hX4.of_drew
    have hzs4 : w1.heap.size ≤ w4.heap.size := hX4.size
    have hE4 : Ext w w4 := hE1.trans hX4
    cases hc5 : (!strE ((b.getD j Fn.zero).name) (mtx (l)))
    ·
      refine q_neqs false u9 rfl rfl hc5 zN (lw_nil (c_cond_f rfl (wp_skip (wp_seq (wp_plain _ [0, 0, 0] rfl (lw_tv 1 rfl (q_add (l + 1) rfl rfl (by first | exact w64 oM oM | (rw [w64 oM oM]; omega)) zN (lw_tvn 1 rfl (wp_seq (wp_seq (wp_plain _ [0, 0, 0, 0, 2, 0, 0] rfl (lw_tv 2 rfl (q_idx (v := vb) j u50 tiS49 rfl rfl hb.isSl rfl sD zN ?_)))))))))))))
      refine q_fldL (p := eptr vb j 3) 1 fd49_1 rfl (hl3 _ (Chg.of_ext [] hE4)) zN (q_load (p := (padd (eptr vb j 3) 1)) (.inr rfl) (.int .i64 ((b.getD j Fn.zero).params)) one2 rfl ((hl3 _ (Chg.of_ext [] hE4)).ld (i := 1) (by simp [exC, fnC])) zN (lw_tv 1 rfl ?_))
      by_cases hc6 : (b.getD j Fn.zero).params ≠ l + 1
      ·
        exact q_neq true rfl rfl (decide_eq_true hc6) zN (lw_nil (c_cond_t rfl (wp_seq (wp_plain _ [0] rfl (lw_tvn 1 rfl (wp_ret (t_ret (b_ret (t_ret (t_ret (b_ret (t_ret (post_ret [4] rfl (.int .i64 (-1)) rfl ⟨z91_0, hE4⟩)))))))))))))
      ·
        refine q_neq false rfl rfl (decide_eq_false hc6) zN (lw_nil (c_cond_f rfl (wp_skip (wp_seq (wp_plain _ [0, 0, 0] rfl (lw_tv 1 rfl (q_add (l + 2) rfl rfl (by first | exact w64 oM oM | (rw [w64 oM oM]; omega)) zN (lw_tvn 1 rfl (wp_seq (wp_plain _ [0, 0, 0, 0, 2, 0, 3, 0] rfl (lw_tv 2 rfl (q_idx (v := vb) j u50 tiS49 rfl rfl hb.isSl rfl sD zN ?_))))))))))))
        refine q_fldL (p := eptr vb j 3) 2 fd49_2 rfl (hl3 _ (Chg.of_ext [] hE4)) zN (q_load (p := (padd (eptr vb j 3) 2)) (.inr rfl) ve3 one44 rfl ((hl3 _ (Chg.of_ext [] hE4)).ld (i := 2) (by simp [exC, fnC])) zN (lw_tv 1 rfl (lw_call 131 [] [] [ve3, (.int .i64 (l + 2))] rfl rfl cf131 zN (c_laws_heldExprS _ db ve3 ((b.getD j Fn.zero).outs) (l + 2) (hx3.rn.ext (good_rdS (good_rEx db)) hE4) oM (by exact ⟨_, hk5⟩) oM) ?_)))
        rintro e7 w7 ⟨rfl, hX7⟩
        refine ⟨_, rfl, hX7, ?_⟩
        have hzs7 : w4.heap.size ≤ w7.heap.size := hX7.size
        have hE7 : Ext w w7 := hE4.trans hX7
        refine lw_tvn 1 rfl (wp_seq (wp_plain _ [0, 0] rfl (lw_tv 1 rfl ?_)))
        by_cases hc8 : l + 2 + 4 * ((Ex.sizes ((b.getD j Fn.zero).outs) : Nat) : Int) < ((0 : Nat) : Int)
        ·
          exact q_lss true rfl rfl (decide_eq_true hc8) zN (lw_nil (c_cond_t rfl (wp_seq (wp_plain _ [0] rfl (lw_tvn 1 rfl (wp_ret (b_ret (t_ret (t_ret (b_ret (t_ret (post_ret [4] rfl (.int .i64 (-1)) rfl ⟨z91_0, hE7⟩))))))))))))
        ·
          exact q_lss false rfl rfl (decide_eq_false hc8) zN (lw_nil (c_cond_f rfl (wp_skip (wp_plain _ [0, 0, 0] rfl (lw_tv 1 rfl (q_add ((j + 1 : Nat) : Int) rfl rfl (w64n oM sD) zN (lw_tvn 1 rfl ⟨((j + 1), (l + 2 + 4 * ((Ex.sizes ((b.getD j Fn.zero).outs) : Nat) : Int))), _, rfl, ⟨rfl, rfl, rfl, trivial⟩, ⟨hE7, oM, oM⟩, by first | omega | (dsimp only; omega)⟩)))))))
    ·
      exact q_neqs true u9 rfl rfl hc5 zN (lw_nil (c_cond_t rfl (wp_seq (wp_plain _ [0] rfl (lw_tvn 1 rfl (wp_ret (t_ret (b_ret (t_ret (t_ret (b_ret (t_ret (post_ret [4] rfl (.int .i64 (-1)) rfl ⟨z91_0, hE4⟩)))))))))))))
  ·
    exact q_lss false rfl rfl (decide_eq_false hc2) zN (lw_nil (c_cond_f rfl (wp_exit (t_exit (t_exit (c_exit_here (wp_seq (wp_plain _ [0, 0] rfl (lw_tvn 2 rfl (wp_ret (post_ret [4] rfl (.int .i64 l) rfl ⟨z91_0, hE1⟩)))))))))))
theorem c_laws_heldProgram (w : World) (db : Nat) (vp : Value) (b : List Fn) (k : Int) (hb : RP [] db w.heap vp b) (_hk : -9223372036854775808 ≤ k ∧ k ≤ 9223372036854775807) (hb2 : ∃ a, b = mkP k a) (hk : 0 ≤ k ∧ k + ((mkN b : Nat) : Int) ≤ 4000000000) :
    Calls Try.prog 36 #[(.agg #[vp]), .int .i64 k] w (fun e w' => e = .returned (.int .i64 (k + ((mkN b : Nat) : Int))) ∧ Ext w w') := by
  refine calls_mk [(.agg #[vp]), .int .i64 k] 12 Try.func36 rfl rfl sM ?_
  have hE0 : Ext w w := Ext.refl w
  have hl_vp := hb.lenle
  unfold maxLen at hl_vp
  refine wp_seq (wp_plain _ [3, 0] rfl (r_boxA (cs := #[vp]) rfl zN fun w1 hX1 hz1 hB1 => ?_))
  have hzs1 : w.heap.size ≤ w1.heap.size := hX1.size
  have hE1 : Ext w w1 := hE0.trans hX1
  replace hB1 : BX w1.heap w.heap.size [vp] := hB1
  refine lw_tvn 1 rfl (wp_seq (wp_plain _ [0, 2, 0, 3, 0] rfl (q_fldP (p := (.pointer (some ⟨w.heap.size, 0, none⟩))) (b := w.heap.size) (o := 0) 0 fd52_0 rfl rfl zN (q_load (p := (padd (.pointer (some ⟨w.heap.size, 0, none⟩)) 0)) (.inr rfl) vp one50 rfl (hB1.ldp (i := 0) sM) zN (lw_tv 1 rfl (lw_call 91 [] [] [vp, (.int .i64 k)] rfl rfl cf91 zN (c_laws_heldFuncS _ db vp (b) (k) (hb.ext (good_rdS (good_rFn db)) hE1) _hk (by exact hb2) oM) ?_))))))
  rintro e2 w2 ⟨rfl, hX2⟩
  refine ⟨_, rfl, hX2, ?_⟩
  have hzs2 : w1.heap.size ≤ w2.heap.size := hX2.size
  have hE2 : Ext w w2 := hE1.trans hX2
  have hB1x2 := hB1.ext hX2
  refine lw_tvn 1 rfl (wp_seq (wp_seq (wp_plain _ [0, 0] rfl (lw_tv 1 rfl ?_))))
  by_cases hc3 : k + ((mkN b : Nat) : Int) < ((0 : Nat) : Int)
  ·
    exact q_lss true rfl rfl (decide_eq_true hc3) zN (lw_nil (c_cond_t rfl (wp_seq (wp_plain _ [0] rfl (lw_tvn 1 rfl (wp_ret (t_ret (post_ret [4] rfl (.int .i64 (-1)) rfl ⟨(by first | rfl | exact ret_int rfl | (exfalso; omega)), hE2⟩))))))))
  ·
    exact q_lss false rfl rfl (decide_eq_false hc3) zN (lw_nil (c_cond_f rfl (wp_skip (wp_seq (wp_plain _ [0, 0] rfl (lw_tvn 2 rfl (wp_ret (post_ret [4] rfl (.int .i64 (k + ((mkN b : Nat) : Int))) rfl ⟨(by first | rfl | exact ret_int rfl | (exfalso; omega)), hE2⟩))))))))
end Go.Proofs.Ytjnbnlniafmblaa
namespace Go.Proofs.Ytjnbnlniafmblaa
open Go Go.RowKit
set_option linter.unusedVariables false
set_option linter.unusedSimpArgs false
set_option maxHeartbeats 4000000
set_option maxRecDepth 100000
attribute [local irreducible] LW
theorem RP.up2 {d : Nat} {H : Array Obj} {v : Value} {p : List Fn} (h : RP [] d H v p) : RP [] (d + 2) H v p := by
  obtain ⟨F, h, hb⟩ := h
  exact ⟨F, h.imp (fun ⟨v, a1, a2, a3⟩ => ⟨v, a1, a2, a3.imp fun h => rEx_up (rEx_up h)⟩), hb⟩
theorem mkN_bt {l : List Fn} (h : SzP l) : ∀ j, j ≤ l.length → mkN (l.take j) ≤ j * 8000002
  | 0, _ => by rw [List.take_zero]; exact Nat.zero_le _
  | j + 1, hj => by
    have ih := mkN_bt h j (by omega)
    have := h j (by omega)
    rw [mkN_succ (by omega)]; omega
theorem mkN_bnd {l : List Fn} (h : SzP l) : mkN l ≤ l.length * 8000002 := by
  have := mkN_bt h l.length (Nat.le_refl _)
  rwa [List.take_length] at this
theorem wl_mk {p : List Fn} {f n : Int} (hz : SzP p) : mkN (wlR p f n) ≤ 400000000 := by
  by_cases h : wlC p f n = 0
  · have hwl := wlC_0 h
    have hq0 := wlA_0 hwl.1
    have hq1 := rnF_iff.1 hq0.2.1
    have hvp := okP_vpr hq0.1
    have hs := hz.lp (n := n) hvp (f := f) (by omega)
    have hl := okP_len hwl.2.2
    rw [wlR_t h]
    have := mkN_bnd hs
    omega
  · rw [wlR_n h]; exact Nat.zero_le _
theorem z6_0 {p : Prop} (h : p := by first | rfl | (exfalso; omega) | simp_all) : p := h
theorem c_laws_FnExactWithLoop (w : World) (dp : Nat) (vp : Value) (p : List Fn) (f : Int) (n : Int) (hp : RP [] dp w.heap vp p) (_hf : -9223372036854775808 ≤ f ∧ f ≤ 9223372036854775807) (_hn : -9223372036854775808 ≤ n ∧ n ≤ 9223372036854775807) (hnm : ∀ k, k < p.length → (p.getD k Fn.zero).name.size ≤ 9223372036854775807) :
    Calls Try.prog 6 #[(.agg #[vp]), .int .i64 f, .int .i64 n] w (fun e w' => e = .returned (.bool true) ∧ Ext w w') := by
  refine calls_mk [(.agg #[vp]), .int .i64 f, .int .i64 n] 106 Try.func6 rfl rfl sM ?_
  have hE0 : Ext w w := Ext.refl w
  have hl_vp := hp.lenle
  unfold maxLen at hl_vp
  refine wp_seq (wp_plain _ [3, 0] rfl ?_)
  have hp2 := RP.up2 hp
  refine r_boxA (cs := #[vp]) rfl zN fun w1 hX1 hz1 hB1 => ?_
  have hzs1 : w.heap.size ≤ w1.heap.size := hX1.size
  have hE1 : Ext w w1 := hE0.trans hX1
  replace hB1 : BX w1.heap w.heap.size [vp] := hB1
  refine lw_tvn 1 rfl (wp_seq (wp_plain _ [0] rfl (lw_tvn 1 rfl (wp_seq (wp_plain _ [2, 0, 3, 0] rfl (q_loadA (p := (.pointer (some ⟨w.heap.size, 0, none⟩))) (.inr rfl) [vp] agg65 rfl (fun wq9 hw9 => LD.of_box (BX.ext (w := w1) hB1 hw9)) rfl zN (lw_tv 1 rfl (lw_call 30 [] [] [(.agg #[vp]), (.int .i64 ((1048576 : Nat) : Int))] rfl rfl cf30 zN (c_laws_szProgram _ (dp + 2) vp (p) _ (hp2.ext (good_rdS (good_rFn (dp + 2))) hE1) oM oM (by exact hnm)) ?_))))))))
  rintro e2 w2 ⟨rfl, hX2⟩
  refine ⟨_, rfl, hX2, ?_⟩
  have hzs2 : w1.heap.size ≤ w2.heap.size := hX2.size
  have hE2 : Ext w w2 := hE1.trans hX2
  have hB1x2 := hB1.ext hX2
  refine lw_tvn 1 rfl (wp_seq (wp_seq (wp_plain _ [0, 0] rfl (lw_tv 1 rfl ?_))))
  by_cases hc3 : szV (szP p) ((1048576 : Nat) : Int) < ((0 : Nat) : Int)
  ·
    exact q_lss true rfl rfl (decide_eq_true hc3) zN (lw_nil (c_cond_t rfl (wp_seq (wp_plain _ [0] rfl (lw_tvn 1 rfl (wp_ret (t_ret (post_ret [6] rfl (.bool true) rfl ⟨z6_0, hE2⟩))))))))
  ·
    refine q_lss false rfl rfl (decide_eq_false hc3) zN (lw_nil (c_cond_f rfl (wp_skip (wp_seq (wp_plain _ [2, 3, 0, 0, 3, 0, 0, 0, 3, 4, 0] rfl ?_)))))
    have hzv := szV_pos (t := szP p) (x := ((1048576 : Nat) : Int)) oM
    have hz0 : szP p ≤ 1048576 := by omega
    have hz := szP_ok hz0
    have hmk := mkN_szP p
    have hml := wl_mk (f := f) (n := n) hz
    refine q_loadA (p := (.pointer (some ⟨w.heap.size, 0, none⟩))) (.inr rfl) [vp] agg65 rfl (fun wq9 hw9 => LD.of_box (BX.ext (w := w2) hB1x2 hw9)) rfl zN (lw_call 32 [] [] [(.agg #[vp])] rfl rfl cf32 zN (c_laws_toProgram _ (dp + 2) vp (p) (hp2.ext (good_rdS (good_rFn (dp + 2))) hE2) oM) ?_)
    rintro e4 w4 ⟨v4, rfl, hX4, hO4⟩
    refine ⟨_, rfl, hX4, ?_⟩
    have hzs4 : w2.heap.size ≤ w4.heap.size := hX4.size
    have hE4 : Ext w w4 := hE2.trans hX4
    have hB1x4 := hB1x2.ext hX4
    refine lw_tv 2 rfl (lw_call 31 [] [] [(.agg #[v4]), (.int .i64 f), (.int .i64 n)] rfl rfl cf31 zN (c_spec_WithLoop _ (dp + 2) v4 (p) (f) (n) (RN.of_frF hO4 (fun b hb => by cases hb)) _hf _hn (by exact hz) oM) ?_)
    rintro e5 w5 ⟨v5, rfl, hX5, hO5⟩
    refine ⟨_, rfl, hX5, ?_⟩
    have hzs5 : w4.heap.size ≤ w5.heap.size := hX5.size
    have hE5 : Ext w w5 := hE4.trans hX5
    have hB1x5 := hB1x4.ext hX5
    have hO4x5 := hO4.ext ((good_owS (good_oFn 46 (dp + 2)))) hX5
    have hwr5 := wlC_rng (p := p) (f := f) (n := n)
    refine lw_tv 1 rfl (q_extract (vs := [(.agg #[v5]), (.int .i64 (wlC p f n))]) (.agg #[v5]) rfl rfl zN (q_extract (vs := [(.agg #[v5]), (.int .i64 (wlC p f n))]) (.int .i64 (wlC p f n)) rfl rfl zN ?_))
    have hq7 := hB1x5.lt
    refine r_allocA (z := .agg #[.slice none 0 0]) zr52 zN fun w6 hX6 hz6 hB6 => ?_
    have hzs6 : w5.heap.size ≤ w6.heap.size := hX6.size
    have hE6 : Ext w w6 := hE5.trans hX6
    have hB1x6 := hB1x5.ext hX6
    have hO4x6 := hO4x5.ext ((good_owS (good_oFn 46 (dp + 2)))) hX6
    have hO5x6 := hO5.ext ((good_owS (good_oFn 46 (dp + 2)))) hX6
    replace hB6 : BX w6.heap w5.heap.size [(.slice none 0 0)] := hB6
    refine e_setA (vs := [v5]) agg52 rfl rfl (by intro u hu; simp only [List.mem_cons, List.not_mem_nil, or_false] at hu; rcases hu with rfl <;> first | exact ⟨rfl, rfl⟩ | exact isSl_one hO5x6.isSlS) hB6 rfl rfl zN fun w8 hC8 hz8 hB8 => ?_
    replace hB8 : BX w8.heap w5.heap.size [v5] := hB8
    have hE8 : Ext w w8 := hC8.below hE6 (fun c hc => by have := List.mem_singleton.1 hc; omega) hE6.size
    have hzs8 : w6.heap.size ≤ w8.heap.size := hC8.size
    have hF9 := hB1x6.chg hC8 (fun hm => by have := List.mem_singleton.1 hm; omega)
    have hF10 := hO4x6.chg ((good_owS (good_oFn 46 (dp + 2)))) hC8 (fun c hc => by have := List.mem_singleton.1 hc; omega)
    have hF11 := hO5x6.chg ((good_owS (good_oFn 46 (dp + 2)))) hC8 (fun c hc => by have := List.mem_singleton.1 hc; omega)
    refine lw_tvn 1 rfl (wp_seq (wp_plain _ [2, 3, 3, 4] rfl (q_loadA (p := (.pointer (some ⟨w.heap.size, 0, none⟩))) (.inr rfl) [vp] agg65 rfl (fun wq9 hw9 => LD.of_box (BX.ext (w := w8) hF9 hw9)) rfl zN (lw_call 32 [] [] [(.agg #[vp])] rfl rfl cf32 zN (c_laws_toProgram _ (dp + 2) vp (p) (hp2.ext (good_rdS (good_rFn (dp + 2))) hE8) oM) ?_))))
    rintro e12 w12 ⟨v12, rfl, hX12, hO12⟩
    refine ⟨_, rfl, hX12, ?_⟩
    have hzs12 : w8.heap.size ≤ w12.heap.size := hX12.size
    have hE12 : Ext w w12 := hE8.trans hX12
    have hF9x12 := hF9.ext hX12
    have hF10x12 := hF10.ext ((good_owS (good_oFn 46 (dp + 2)))) hX12
    have hF11x12 := hF11.ext ((good_owS (good_oFn 46 (dp + 2)))) hX12
    have hB8x12 := hB8.ext hX12
    have hq14 := hF9x12.lt
    have hq15 := hB8x12.lt
    refine r_allocA (z := .agg #[.slice none 0 0]) zr52 zN fun w13 hX13 hz13 hB13 => ?_
    have hzs13 : w12.heap.size ≤ w13.heap.size := hX13.size
    have hE13 : Ext w w13 := hE12.trans hX13
    have hF9x13 := hF9x12.ext hX13
    have hF10x13 := hF10x12.ext ((good_owS (good_oFn 46 (dp + 2)))) hX13
    have hF11x13 := hF11x12.ext ((good_owS (good_oFn 46 (dp + 2)))) hX13
    have hB8x13 := hB8x12.ext hX13
    have hO12x13 := hO12.ext ((good_owS (good_oFn 46 (dp + 2)))) hX13
    replace hB13 : BX w13.heap w12.heap.size [(.slice none 0 0)] := hB13
    refine e_setA (vs := [v12]) agg52 rfl rfl (by intro u hu; simp only [List.mem_cons, List.not_mem_nil, or_false] at hu; rcases hu with rfl <;> first | exact ⟨rfl, rfl⟩ | exact isSl_one hO12x13.isSlS) hB13 rfl rfl zN fun w16 hC16 hz16 hB16 => ?_
    replace hB16 : BX w16.heap w12.heap.size [v12] := hB16
    have hE16 : Ext w w16 := hC16.below hE13 (fun c hc => by have := List.mem_singleton.1 hc; omega) hE13.size
    have hzs16 : w13.heap.size ≤ w16.heap.size := hC16.size
    have hF17 := hF9x13.chg hC16 (fun hm => by have := List.mem_singleton.1 hm; omega)
    have hF18 := hF10x13.chg ((good_owS (good_oFn 46 (dp + 2)))) hC16 (fun c hc => by have := List.mem_singleton.1 hc; omega)
    have hF19 := hF11x13.chg ((good_owS (good_oFn 46 (dp + 2)))) hC16 (fun c hc => by have := List.mem_singleton.1 hc; omega)
    have hF20 := hB8x13.chg hC16 (fun hm => by have := List.mem_singleton.1 hm; omega)
    have hF21 := hO12x13.chg ((good_owS (good_oFn 46 (dp + 2)))) hC16 (fun c hc => by have := List.mem_singleton.1 hc; omega)
    refine lw_nil (wp_seq (wp_plain _ [2, 0, 0, 3, 0, 0, 0, 3, 4, 0] rfl (q_loadA (p := (.pointer (some ⟨w12.heap.size, 0, none⟩))) (.inr rfl) [v12] agg52 rfl (fun wq9 hw9 => LD.of_box (BX.ext (w := w16) hB16 hw9)) rfl zN (lw_tv 2 rfl (lw_call 33 [] [] [(.agg #[v12]), (.int .i64 f), (.int .i64 n)] rfl rfl cf33 zN (c_impl_WithLoop _ (dp + 2) v12 (p) (f) (n) (RN.of_frF hF21 (fun b hb => by cases hb)) _hf _hn (by exact hz) oM) ?_)))))
    rintro e22 w22 ⟨v22, rfl, hX22, hO22⟩
    refine ⟨_, rfl, hX22, ?_⟩
    have hzs22 : w16.heap.size ≤ w22.heap.size := hX22.size
    have hE22 : Ext w w22 := hE16.trans hX22
    have hF17x22 := hF17.ext hX22
    have hF18x22 := hF18.ext ((good_owS (good_oFn 46 (dp + 2)))) hX22
    have hF19x22 := hF19.ext ((good_owS (good_oFn 46 (dp + 2)))) hX22
    have hF20x22 := hF20.ext hX22
    have hF21x22 := hF21.ext ((good_owS (good_oFn 46 (dp + 2)))) hX22
    have hB16x22 := hB16.ext hX22
    have hwr22 := wlC_rng (p := p) (f := f) (n := n)
    refine lw_tv 1 rfl (q_extract (vs := [(.agg #[v22]), (.int .i64 (wlC p f n))]) (.agg #[v22]) rfl rfl zN (q_extract (vs := [(.agg #[v22]), (.int .i64 (wlC p f n))]) (.int .i64 (wlC p f n)) rfl rfl zN ?_))
    have hq24 := hF17x22.lt
    have hq25 := hF20x22.lt
    have hq26 := hB16x22.lt
    refine r_allocA (z := .agg #[.slice none 0 0]) zr52 zN fun w23 hX23 hz23 hB23 => ?_
    have hzs23 : w22.heap.size ≤ w23.heap.size := hX23.size
    have hE23 : Ext w w23 := hE22.trans hX23
    have hF17x23 := hF17x22.ext hX23
    have hF18x23 := hF18x22.ext ((good_owS (good_oFn 46 (dp + 2)))) hX23
    have hF19x23 := hF19x22.ext ((good_owS (good_oFn 46 (dp + 2)))) hX23
    have hF20x23 := hF20x22.ext hX23
    have hF21x23 := hF21x22.ext ((good_owS (good_oFn 46 (dp + 2)))) hX23
    have hB16x23 := hB16x22.ext hX23
    have hO22x23 := hO22.ext ((good_owS (good_oFn 46 (dp + 2)))) hX23
    replace hB23 : BX w23.heap w22.heap.size [(.slice none 0 0)] := hB23
    refine e_setA (vs := [v22]) agg52 rfl rfl (by intro u hu; simp only [List.mem_cons, List.not_mem_nil, or_false] at hu; rcases hu with rfl <;> first | exact ⟨rfl, rfl⟩ | exact isSl_one hO22x23.isSlS) hB23 rfl rfl zN fun w27 hC27 hz27 hB27 => ?_
    replace hB27 : BX w27.heap w22.heap.size [v22] := hB27
    have hE27 : Ext w w27 := hC27.below hE23 (fun c hc => by have := List.mem_singleton.1 hc; omega) hE23.size
    have hzs27 : w23.heap.size ≤ w27.heap.size := hC27.size
    have hF28 := hF17x23.chg hC27 (fun hm => by have := List.mem_singleton.1 hm; omega)
    have hF29 := hF18x23.chg ((good_owS (good_oFn 46 (dp + 2)))) hC27 (fun c hc => by have := List.mem_singleton.1 hc; omega)
    have hF30 := hF19x23.chg ((good_owS (good_oFn 46 (dp + 2)))) hC27 (fun c hc => by have := List.mem_singleton.1 hc; omega)
    have hF31 := hF20x23.chg hC27 (fun hm => by have := List.mem_singleton.1 hm; omega)
    have hF32 := hF21x23.chg ((good_owS (good_oFn 46 (dp + 2)))) hC27 (fun c hc => by have := List.mem_singleton.1 hc; omega)
    have hF33 := hB16x23.chg hC27 (fun hm => by have := List.mem_singleton.1 hm; omega)
    have hF34 := hO22x23.chg ((good_owS (good_oFn 46 (dp + 2)))) hC27 (fun c hc => by have := List.mem_singleton.1 hc; omega)
    refine lw_tvn 1 rfl (wp_seq (wp_seq (wp_plain _ [2, 2, 3, 0, 0, 0, 0, 0, 0] rfl (q_loadA (p := (.pointer (some ⟨w22.heap.size, 0, none⟩))) (.inr rfl) [v22] agg52 rfl (fun wq9 hw9 => LD.of_box (BX.ext (w := w27) hB27 hw9)) rfl zN (q_loadA (p := (.pointer (some ⟨w5.heap.size, 0, none⟩))) (.inr rfl) [v5] agg52 rfl (fun wq9 hw9 => LD.of_box (BX.ext (w := w27) hF31 hw9)) rfl zN (lw_call 34 [] [] [(.agg #[v22]), (.agg #[v5])] rfl rfl cf34 zN (c_laws_eqProgram _ (dp + 2) v22 ((wlR p f n)) (dp + 2) v5 ((wlR p f n)) (RN.of_frF hF34 (fun b hb => by cases hb)) (RN.of_frF hF30 (fun b hb => by cases hb)) (by rfl)) ?_))))))
    rintro e35 w35 ⟨rfl, hX35⟩
    refine ⟨_, rfl, hX35, ?_⟩
    have hzs35 : w27.heap.size ≤ w35.heap.size := hX35.size
    have hE35 : Ext w w35 := hE27.trans hX35
    have hF28x35 := hF28.ext hX35
    have hF29x35 := hF29.ext ((good_owS (good_oFn 46 (dp + 2)))) hX35
    have hF30x35 := hF30.ext ((good_owS (good_oFn 46 (dp + 2)))) hX35
    have hF31x35 := hF31.ext hX35
    have hF32x35 := hF32.ext ((good_owS (good_oFn 46 (dp + 2)))) hX35
    have hF33x35 := hF33.ext hX35
    have hF34x35 := hF34.ext ((good_owS (good_oFn 46 (dp + 2)))) hX35
    have hB27x35 := hB27.ext hX35
    refine q_not false rfl rfl zN (lw_tv 3 rfl (q_neq false rfl rfl sM (zS (e := 44) rfl rfl rfl) (lw_tvn 1 rfl (c_cond_f rfl (wp_skip (wp_seq (wp_seq (wp_draw _ [1, 1, 3, 3, 0] mixed (by kernel_rfl) (q_loadA (p := (.pointer (some ⟨w12.heap.size, 0, none⟩))) (.inl rfl) [v12] agg52 rfl (fun wq9 hw9 => LD.of_box (BX.ext (w := w35.drew) hF33x35 hw9)) rfl zN (q_loadA (p := (.pointer (some ⟨w.heap.size, 0, none⟩))) (.inl rfl) [vp] agg65 rfl (fun wq9 hw9 => LD.of_box (BX.ext (w := w35.drew) hF28x35 hw9)) rfl zN (lw_call 32 [] [] [(.agg #[vp])] rfl rfl cf32 zN (c_laws_toProgram _ (dp + 2) vp (p) (hp2.ext (good_rdS (good_rFn (dp + 2))) hE35.drew) oM) ?_)))))))))))
    rintro e36 w36 ⟨v36, rfl, hX36, hO36⟩
    refine ⟨_, rfl, hX36, ?_⟩
    replace hX36 := hX36.of_drew
    have hzs36 : w35.heap.size ≤ w36.heap.size := hX36.size
    have hE36 : Ext w w36 := hE35.trans hX36
    have hF28x36 := hF28x35.ext hX36
    have hF29x36 := hF29x35.ext ((good_owS (good_oFn 46 (dp + 2)))) hX36
    have hF30x36 := hF30x35.ext ((good_owS (good_oFn 46 (dp + 2)))) hX36
    have hF31x36 := hF31x35.ext hX36
    have hF32x36 := hF32x35.ext ((good_owS (good_oFn 46 (dp + 2)))) hX36
    have hF33x36 := hF33x35.ext hX36
    have hF34x36 := hF34x35.ext ((good_owS (good_oFn 46 (dp + 2)))) hX36
    have hB27x36 := hB27x35.ext hX36
    replace hO36 := hO36.low (B' := w35.heap.size) (Nat.le_refl _)
    refine lw_call 34 [] [] [(.agg #[v12]), (.agg #[v36])] rfl rfl cf34 zN (c_laws_eqProgram _ (dp + 2) v12 (p) (dp + 2) v36 (p) (RN.of_frF hF32x36 (fun b hb => by cases hb)) (RN.of_frF hO36 (fun b hb => by cases hb)) (by rfl)) ?_
    rintro e37 w37 ⟨rfl, hX37⟩
    refine ⟨_, rfl, hX37, ?_⟩
    have hzs37 : w36.heap.size ≤ w37.heap.size := hX37.size
    have hE37 : Ext w w37 := hE36.trans hX37
    have hF28x37 := hF28x36.ext hX37
    have hF29x37 := hF29x36.ext ((good_owS (good_oFn 46 (dp + 2)))) hX37
    have hF30x37 := hF30x36.ext ((good_owS (good_oFn 46 (dp + 2)))) hX37
    have hF31x37 := hF31x36.ext hX37
    have hF32x37 := hF32x36.ext ((good_owS (good_oFn 46 (dp + 2)))) hX37
    have hF33x37 := hF33x36.ext hX37
    have hF34x37 := hF34x36.ext ((good_owS (good_oFn 46 (dp + 2)))) hX37
    have hB27x37 := hB27x36.ext hX37
    have hO36x37 := hO36.ext ((good_owS (good_oFn 46 (dp + 2)))) hX37
    refine q_not false rfl rfl zN (lw_nil (c_cond_f rfl (wp_skip (wp_seq (wp_plain _ [0] rfl (lw_tvn 1 rfl (wp_seq (wp_plain _ [2, 0, 4, 0] rfl (q_loadA (p := (.pointer (some ⟨w12.heap.size, 0, none⟩))) (.inr rfl) [v12] agg52 rfl (fun wq9 hw9 => LD.of_box (BX.ext (w := w37) hF33x37 hw9)) rfl zN (lw_tv 1 rfl ?_))))))))))
    obtain ⟨F38, ho38, hn38, hF38⟩ := hF32x37
    refine lw_callE 35 [] [] [(.agg #[v12]), (.int .i64 ((1 : Nat) : Int))] rfl rfl cf35 zN (c_laws_markProgram _ (dp + 2) v12 p F38 (((1 : Nat) : Int)) ho38 hn38 oM oM) ?_
    rintro e38 w38 ⟨rfl, hC38, hO38⟩
    refine ⟨_, rfl, ?_⟩
    have hE38 : Ext w w38 := hC38.below hE37 (fun c hc => Nat.le_trans oM (hF38 c hc).1) hE37.size
    have hzs38 : w37.heap.size ≤ w38.heap.size := hC38.size
    have hF39 := hF28x37.chg hC38 (fun hm => by have := hF38 _ hm; omega)
    have hF40 := hF29x37.chg ((good_owS (good_oFn 46 (dp + 2)))) hC38 (fun c hc => by have := hF38 c hc; omega)
    have hF41 := hF30x37.chg ((good_owS (good_oFn 46 (dp + 2)))) hC38 (fun c hc => by have := hF38 c hc; omega)
    have hF42 := hF31x37.chg hC38 (fun hm => by have := hF38 _ hm; omega)
    have hF43 := hF33x37.chg hC38 (fun hm => by have := hF38 _ hm; omega)
    have hF44 := hF34x37.chg ((good_owS (good_oFn 46 (dp + 2)))) hC38 (fun c hc => by have := hF38 c hc; omega)
    have hF45 := hB27x37.chg hC38 (fun hm => by have := hF38 _ hm; omega)
    have hF46 := hO36x37.chg ((good_owS (good_oFn 46 (dp + 2)))) hC38 (fun c hc => by have := hF38 c hc; omega)
    refine lw_tvn 1 rfl (wp_seq (wp_seq (wp_plain _ [0, 0, 0, 2, 2, 3, 0, 0, 0, 0, 0, 0, 0] rfl (lw_tv 1 rfl ?_))))
    by_cases hc47 : ((1 : Nat) : Int) + ((mkN p : Nat) : Int) < ((0 : Nat) : Int)
    ·
      exact q_lss true rfl rfl (decide_eq_true hc47) zN (lw_tvn 11 rfl (c_cond_t rfl (wp_seq (wp_plain _ [0] rfl (lw_tvn 1 rfl (wp_ret (t_ret (post_ret [6] rfl (.bool false) rfl ⟨z6_0, hE38⟩))))))))
    ·
      refine q_lss false rfl rfl (decide_eq_false hc47) zN (lw_tv 1 rfl (q_loadA (p := (.pointer (some ⟨w22.heap.size, 0, none⟩))) (.inr rfl) [v22] agg52 rfl (fun wq9 hw9 => LD.of_box (BX.ext (w := w38) hF45 hw9)) rfl (zS (e := 59) rfl rfl rfl) (q_loadA (p := (.pointer (some ⟨w5.heap.size, 0, none⟩))) (.inr rfl) [v5] agg52 rfl (fun wq9 hw9 => LD.of_box (BX.ext (w := w38) hF42 hw9)) rfl (zS (e := 59) rfl rfl rfl) (lw_call 34 [] [] [(.agg #[v22]), (.agg #[v5])] rfl rfl cf34 (zS (e := 59) rfl rfl rfl) (c_laws_eqProgram _ (dp + 2) v22 ((wlR p f n)) (dp + 2) v5 ((wlR p f n)) (RN.of_frF hF44 (fun b hb => by cases hb)) (RN.of_frF hF41 (fun b hb => by cases hb)) (by rfl)) ?_))))
      rintro e48 w48 ⟨rfl, hX48⟩
      refine ⟨_, rfl, hX48, ?_⟩
      have hzs48 : w38.heap.size ≤ w48.heap.size := hX48.size
      have hE48 : Ext w w48 := hE38.trans hX48
      have hF39x48 := hF39.ext hX48
      have hF40x48 := hF40.ext ((good_owS (good_oFn 46 (dp + 2)))) hX48
      have hF41x48 := hF41.ext ((good_owS (good_oFn 46 (dp + 2)))) hX48
      have hF42x48 := hF42.ext hX48
      have hF43x48 := hF43.ext hX48
      have hF44x48 := hF44.ext ((good_owS (good_oFn 46 (dp + 2)))) hX48
      have hF45x48 := hF45.ext hX48
      have hF46x48 := hF46.ext ((good_owS (good_oFn 46 (dp + 2)))) hX48
      refine q_not false rfl rfl (zS (e := 59) rfl rfl rfl) (lw_tv 4 rfl (q_neq false rfl rfl sM (zS (e := 65) rfl rfl rfl) (lw_tvn 1 rfl (c_cond_f rfl (wp_skip (wp_seq (wp_plain _ [0] rfl (lw_tvn 1 rfl (wp_seq (wp_plain _ [2, 0, 4, 0] rfl (q_loadA (p := (.pointer (some ⟨w22.heap.size, 0, none⟩))) (.inr rfl) [v22] agg52 rfl (fun wq9 hw9 => LD.of_box (BX.ext (w := w48) hF45x48 hw9)) rfl zN (lw_tv 1 rfl ?_))))))))))))
      obtain ⟨F49, ho49, hn49, hF49⟩ := hF44x48
      refine lw_callE 35 [] [] [(.agg #[v22]), (.int .i64 ((1 : Nat) : Int))] rfl rfl cf35 zN (c_laws_markProgram _ (dp + 2) v22 (wlR p f n) F49 (((1 : Nat) : Int)) ho49 hn49 oM oM) ?_
      rintro e49 w49 ⟨rfl, hC49, hO49⟩
      refine ⟨_, rfl, ?_⟩
      have hE49 : Ext w w49 := hC49.below hE48 (fun c hc => Nat.le_trans oM (hF49 c hc).1) hE48.size
      have hzs49 : w48.heap.size ≤ w49.heap.size := hC49.size
      have hF50 := hF39x48.chg hC49 (fun hm => by have := hF49 _ hm; omega)
      have hF51 := hF40x48.chg ((good_owS (good_oFn 46 (dp + 2)))) hC49 (fun c hc => by have := hF49 c hc; omega)
      have hF52 := hF41x48.chg ((good_owS (good_oFn 46 (dp + 2)))) hC49 (fun c hc => by have := hF49 c hc; omega)
      have hF53 := hF42x48.chg hC49 (fun hm => by have := hF49 _ hm; omega)
      have hF54 := hF43x48.chg hC49 (fun hm => by have := hF49 _ hm; omega)
      have hF55 := hF45x48.chg hC49 (fun hm => by have := hF49 _ hm; omega)
      have hF56 := hF46x48.chg ((good_owS (good_oFn 46 (dp + 2)))) hC49 (fun c hc => by have := hF49 c hc; omega)
      have hFr49 : Fr (owS 3 (oFn 46 (dp + 2)) 49) w16.heap.size w49.heap.size w49.heap v22 (mkP ((1 : Nat) : Int) (wlR p f n)) := ⟨F49, hO49, hn49, fun c hc => ⟨(hF49 c hc).1, (good_owS (good_oFn 46 (dp + 2))).lt hO49 c hc⟩⟩
      refine lw_tvn 1 rfl (wp_seq (wp_plain _ [0] rfl (lw_tvn 1 rfl (wp_seq (wp_plain _ [2, 0, 3, 0] rfl ?_)))))
      have hmm := mkN_mk ((1 : Nat) : Int) (wlR p f n)
      refine q_loadA (p := (.pointer (some ⟨w22.heap.size, 0, none⟩))) (.inr rfl) [v22] agg52 rfl (fun wq9 hw9 => LD.of_box (BX.ext (w := w49) hF55 hw9)) rfl zN (lw_tv 1 rfl (lw_call 36 [] [] [(.agg #[v22]), (.int .i64 ((1 : Nat) : Int))] rfl rfl cf36 zN (c_laws_heldProgram _ (dp + 2) v22 ((mkP ((1 : Nat) : Int) (wlR p f n))) (((1 : Nat) : Int)) (RN.of_frF hFr49 (fun b hb => by cases hb)) oM (by exact ⟨_, rfl⟩) oM) ?_))
      rintro e57 w57 ⟨rfl, hX57⟩
      refine ⟨_, rfl, hX57, ?_⟩
      have hzs57 : w49.heap.size ≤ w57.heap.size := hX57.size
      have hE57 : Ext w w57 := hE49.trans hX57
      have hF50x57 := hF50.ext hX57
      have hF51x57 := hF51.ext ((good_owS (good_oFn 46 (dp + 2)))) hX57
      have hF52x57 := hF52.ext ((good_owS (good_oFn 46 (dp + 2)))) hX57
      have hF53x57 := hF53.ext hX57
      have hF54x57 := hF54.ext hX57
      have hFr49x57 := hFr49.ext ((good_owS (good_oFn 46 (dp + 2)))) hX57
      have hF55x57 := hF55.ext hX57
      have hF56x57 := hF56.ext ((good_owS (good_oFn 46 (dp + 2)))) hX57
      refine lw_tvn 1 rfl (wp_seq (wp_seq (wp_plain _ [0, 0] rfl (lw_tv 1 rfl ?_))))
      by_cases hc58 : ((1 : Nat) : Int) + ((mkN (mkP ((1 : Nat) : Int) (wlR p f n)) : Nat) : Int) < ((0 : Nat) : Int)
      ·
        exact q_lss true rfl rfl (decide_eq_true hc58) zN (lw_nil (c_cond_t rfl (wp_seq (wp_plain _ [0] rfl (lw_tvn 1 rfl (wp_ret (t_ret (post_ret [6] rfl (.bool false) rfl ⟨z6_0, hE57⟩))))))))
      ·
        refine q_lss false rfl rfl (decide_eq_false hc58) zN (lw_nil (c_cond_f rfl (wp_skip (wp_seq (wp_seq (wp_plain _ [0, 0, 0] rfl (lw_tv 2 rfl ?_)))))))
        by_cases hc59 : ((1 : Nat) : Int) + ((mkN (mkP ((1 : Nat) : Int) (wlR p f n)) : Nat) : Int) ≠ ((1 : Nat) : Int) + ((mkN (wlR p f n) : Nat) : Int)
        ·
          exact q_neq true rfl rfl (decide_eq_true hc59) zN (lw_nil (c_cond_t rfl (wp_seq (wp_plain _ [0] rfl (lw_tvn 1 rfl (wp_ret (t_ret (post_ret [6] rfl (.bool false) rfl ⟨z6_0, hE57⟩))))))))
        ·
          refine q_neq false rfl rfl (decide_eq_false hc59) zN (lw_nil (c_cond_f rfl (wp_skip (wp_seq (wp_plain _ [2, 3, 0, 0, 3, 0, 0, 0, 3, 4, 0] rfl (q_loadA (p := (.pointer (some ⟨w.heap.size, 0, none⟩))) (.inr rfl) [vp] agg65 rfl (fun wq9 hw9 => LD.of_box (BX.ext (w := w57) hF50x57 hw9)) rfl zN (lw_call 32 [] [] [(.agg #[vp])] rfl rfl cf32 zN (c_laws_toProgram _ (dp + 2) vp (p) (hp2.ext (good_rdS (good_rFn (dp + 2))) hE57) oM) ?_)))))))
          rintro e60 w60 ⟨v60, rfl, hX60, hO60⟩
          refine ⟨_, rfl, hX60, ?_⟩
          have hzs60 : w57.heap.size ≤ w60.heap.size := hX60.size
          have hE60 : Ext w w60 := hE57.trans hX60
          have hF50x60 := hF50x57.ext hX60
          have hF51x60 := hF51x57.ext ((good_owS (good_oFn 46 (dp + 2)))) hX60
          have hF52x60 := hF52x57.ext ((good_owS (good_oFn 46 (dp + 2)))) hX60
          have hF53x60 := hF53x57.ext hX60
          have hF54x60 := hF54x57.ext hX60
          have hFr49x60 := hFr49x57.ext ((good_owS (good_oFn 46 (dp + 2)))) hX60
          have hF55x60 := hF55x57.ext hX60
          have hF56x60 := hF56x57.ext ((good_owS (good_oFn 46 (dp + 2)))) hX60
          refine lw_tv 2 rfl (lw_call 33 [] [] [(.agg #[v60]), (.int .i64 f), (.int .i64 n)] rfl rfl cf33 zN (c_impl_WithLoop _ (dp + 2) v60 (p) (f) (n) (RN.of_frF hO60 (fun b hb => by cases hb)) _hf _hn (by exact hz) oM) ?_)
          rintro e61 w61 ⟨v61, rfl, hX61, hO61⟩
          refine ⟨_, rfl, hX61, ?_⟩
          have hzs61 : w60.heap.size ≤ w61.heap.size := hX61.size
          have hE61 : Ext w w61 := hE60.trans hX61
          have hF50x61 := hF50x60.ext hX61
          have hF51x61 := hF51x60.ext ((good_owS (good_oFn 46 (dp + 2)))) hX61
          have hF52x61 := hF52x60.ext ((good_owS (good_oFn 46 (dp + 2)))) hX61
          have hF53x61 := hF53x60.ext hX61
          have hF54x61 := hF54x60.ext hX61
          have hFr49x61 := hFr49x60.ext ((good_owS (good_oFn 46 (dp + 2)))) hX61
          have hF55x61 := hF55x60.ext hX61
          have hF56x61 := hF56x60.ext ((good_owS (good_oFn 46 (dp + 2)))) hX61
          have hO60x61 := hO60.ext ((good_owS (good_oFn 46 (dp + 2)))) hX61
          have hwr61 := wlC_rng (p := p) (f := f) (n := n)
          refine lw_tv 1 rfl (q_extract (vs := [(.agg #[v61]), (.int .i64 (wlC p f n))]) (.agg #[v61]) rfl rfl zN (q_extract (vs := [(.agg #[v61]), (.int .i64 (wlC p f n))]) (.int .i64 (wlC p f n)) rfl rfl zN ?_))
          have hq63 := hF50x61.lt
          have hq64 := hF53x61.lt
          have hq65 := hF54x61.lt
          have hq66 := hF55x61.lt
          refine r_allocA (z := .agg #[.slice none 0 0]) zr52 zN fun w62 hX62 hz62 hB62 => ?_
          have hzs62 : w61.heap.size ≤ w62.heap.size := hX62.size
          have hE62 : Ext w w62 := hE61.trans hX62
          have hF50x62 := hF50x61.ext hX62
          have hF51x62 := hF51x61.ext ((good_owS (good_oFn 46 (dp + 2)))) hX62
          have hF52x62 := hF52x61.ext ((good_owS (good_oFn 46 (dp + 2)))) hX62
          have hF53x62 := hF53x61.ext hX62
          have hF54x62 := hF54x61.ext hX62
          have hFr49x62 := hFr49x61.ext ((good_owS (good_oFn 46 (dp + 2)))) hX62
          have hF55x62 := hF55x61.ext hX62
          have hF56x62 := hF56x61.ext ((good_owS (good_oFn 46 (dp + 2)))) hX62
          have hO60x62 := hO60x61.ext ((good_owS (good_oFn 46 (dp + 2)))) hX62
          have hO61x62 := hO61.ext ((good_owS (good_oFn 46 (dp + 2)))) hX62
          replace hB62 : BX w62.heap w61.heap.size [(.slice none 0 0)] := hB62
          refine e_setA (vs := [v61]) agg52 rfl rfl (by intro u hu; simp only [List.mem_cons, List.not_mem_nil, or_false] at hu; rcases hu with rfl <;> first | exact ⟨rfl, rfl⟩ | exact isSl_one hO61x62.isSlS) hB62 rfl rfl zN fun w67 hC67 hz67 hB67 => ?_
          replace hB67 : BX w67.heap w61.heap.size [v61] := hB67
          have hE67 : Ext w w67 := hC67.below hE62 (fun c hc => by have := List.mem_singleton.1 hc; omega) hE62.size
          have hzs67 : w62.heap.size ≤ w67.heap.size := hC67.size
          have hF68 := hF50x62.chg hC67 (fun hm => by have := List.mem_singleton.1 hm; omega)
          have hF69 := hF51x62.chg ((good_owS (good_oFn 46 (dp + 2)))) hC67 (fun c hc => by have := List.mem_singleton.1 hc; omega)
          have hF70 := hF52x62.chg ((good_owS (good_oFn 46 (dp + 2)))) hC67 (fun c hc => by have := List.mem_singleton.1 hc; omega)
          have hF71 := hF53x62.chg hC67 (fun hm => by have := List.mem_singleton.1 hm; omega)
          have hF72 := hF54x62.chg hC67 (fun hm => by have := List.mem_singleton.1 hm; omega)
          have hF73 := hFr49x62.chg ((good_owS (good_oFn 46 (dp + 2)))) hC67 (fun c hc => by have := List.mem_singleton.1 hc; omega)
          have hF74 := hF55x62.chg hC67 (fun hm => by have := List.mem_singleton.1 hm; omega)
          have hF75 := hF56x62.chg ((good_owS (good_oFn 46 (dp + 2)))) hC67 (fun c hc => by have := List.mem_singleton.1 hc; omega)
          have hF76 := hO60x62.chg ((good_owS (good_oFn 46 (dp + 2)))) hC67 (fun c hc => by have := List.mem_singleton.1 hc; omega)
          have hF77 := hO61x62.chg ((good_owS (good_oFn 46 (dp + 2)))) hC67 (fun c hc => by have := List.mem_singleton.1 hc; omega)
          refine lw_tvn 1 rfl (wp_seq (wp_seq (wp_plain _ [2, 2, 3, 0, 0, 0, 0, 0, 0] rfl (q_loadA (p := (.pointer (some ⟨w61.heap.size, 0, none⟩))) (.inr rfl) [v61] agg52 rfl (fun wq9 hw9 => LD.of_box (BX.ext (w := w67) hB67 hw9)) rfl zN (q_loadA (p := (.pointer (some ⟨w5.heap.size, 0, none⟩))) (.inr rfl) [v5] agg52 rfl (fun wq9 hw9 => LD.of_box (BX.ext (w := w67) hF71 hw9)) rfl zN (lw_call 34 [] [] [(.agg #[v61]), (.agg #[v5])] rfl rfl cf34 zN (c_laws_eqProgram _ (dp + 2) v61 ((wlR p f n)) (dp + 2) v5 ((wlR p f n)) (RN.of_frF hF77 (fun b hb => by cases hb)) (RN.of_frF hF70 (fun b hb => by cases hb)) (by rfl)) ?_))))))
          rintro e78 w78 ⟨rfl, hX78⟩
          refine ⟨_, rfl, hX78, ?_⟩
          have hzs78 : w67.heap.size ≤ w78.heap.size := hX78.size
          have hE78 : Ext w w78 := hE67.trans hX78
          have hF68x78 := hF68.ext hX78
          have hF69x78 := hF69.ext ((good_owS (good_oFn 46 (dp + 2)))) hX78
          have hF70x78 := hF70.ext ((good_owS (good_oFn 46 (dp + 2)))) hX78
          have hF71x78 := hF71.ext hX78
          have hF72x78 := hF72.ext hX78
          have hF73x78 := hF73.ext ((good_owS (good_oFn 46 (dp + 2)))) hX78
          have hF74x78 := hF74.ext hX78
          have hF75x78 := hF75.ext ((good_owS (good_oFn 46 (dp + 2)))) hX78
          have hF76x78 := hF76.ext ((good_owS (good_oFn 46 (dp + 2)))) hX78
          have hF77x78 := hF77.ext ((good_owS (good_oFn 46 (dp + 2)))) hX78
          have hB67x78 := hB67.ext hX78
          refine q_not false rfl rfl zN (lw_tv 3 rfl (q_neq false rfl rfl sM (zS (e := 93) rfl rfl rfl) (lw_tvn 1 rfl (c_cond_f rfl (wp_skip (wp_seq (wp_plain _ [0] rfl (lw_tvn 1 rfl (wp_seq (wp_plain _ [2, 0, 3, 0] rfl ?_))))))))))
          have hmm := mkN_mk ((1 : Nat) : Int) (wlR p f n)
          refine q_loadA (p := (.pointer (some ⟨w22.heap.size, 0, none⟩))) (.inr rfl) [v22] agg52 rfl (fun wq9 hw9 => LD.of_box (BX.ext (w := w78) hF74x78 hw9)) rfl zN (lw_tv 1 rfl (lw_call 36 [] [] [(.agg #[v22]), (.int .i64 ((1 : Nat) : Int))] rfl rfl cf36 zN (c_laws_heldProgram _ (dp + 2) v22 ((mkP ((1 : Nat) : Int) (wlR p f n))) (((1 : Nat) : Int)) (RN.of_frF hF73x78 (fun b hb => by cases hb)) oM (by exact ⟨_, rfl⟩) oM) ?_))
          rintro e79 w79 ⟨rfl, hX79⟩
          refine ⟨_, rfl, hX79, ?_⟩
          have hzs79 : w78.heap.size ≤ w79.heap.size := hX79.size
          have hE79 : Ext w w79 := hE78.trans hX79
          have hF68x79 := hF68x78.ext hX79
          have hF69x79 := hF69x78.ext ((good_owS (good_oFn 46 (dp + 2)))) hX79
          have hF70x79 := hF70x78.ext ((good_owS (good_oFn 46 (dp + 2)))) hX79
          have hF71x79 := hF71x78.ext hX79
          have hF72x79 := hF72x78.ext hX79
          have hF73x79 := hF73x78.ext ((good_owS (good_oFn 46 (dp + 2)))) hX79
          have hF74x79 := hF74x78.ext hX79
          have hF75x79 := hF75x78.ext ((good_owS (good_oFn 46 (dp + 2)))) hX79
          have hF76x79 := hF76x78.ext ((good_owS (good_oFn 46 (dp + 2)))) hX79
          have hF77x79 := hF77x78.ext ((good_owS (good_oFn 46 (dp + 2)))) hX79
          have hB67x79 := hB67x78.ext hX79
          refine lw_tvn 1 rfl (wp_seq (wp_seq (wp_plain _ [0, 0] rfl (lw_tv 1 rfl ?_))))
          by_cases hc80 : ((1 : Nat) : Int) + ((mkN (mkP ((1 : Nat) : Int) (wlR p f n)) : Nat) : Int) < ((0 : Nat) : Int)
          ·
            exact q_lss true rfl rfl (decide_eq_true hc80) zN (lw_nil (c_cond_t rfl (wp_seq (wp_plain _ [0] rfl (lw_tvn 1 rfl (wp_ret (t_ret (post_ret [6] rfl (.bool false) rfl ⟨z6_0, hE79⟩))))))))
          ·
            refine q_lss false rfl rfl (decide_eq_false hc80) zN (lw_nil (c_cond_f rfl (wp_skip (wp_seq (wp_seq (wp_plain _ [0, 0, 0] rfl (lw_tv 2 rfl ?_)))))))
            by_cases hc81 : ((1 : Nat) : Int) + ((mkN (mkP ((1 : Nat) : Int) (wlR p f n)) : Nat) : Int) ≠ ((1 : Nat) : Int) + ((mkN (wlR p f n) : Nat) : Int)
            ·
              exact q_neq true rfl rfl (decide_eq_true hc81) zN (lw_nil (c_cond_t rfl (wp_seq (wp_plain _ [0] rfl (lw_tvn 1 rfl (wp_ret (t_ret (post_ret [6] rfl (.bool false) rfl ⟨z6_0, hE79⟩))))))))
            ·
              exact q_neq false rfl rfl (decide_eq_false hc81) zN (lw_nil (c_cond_f rfl (wp_skip (wp_seq (wp_plain _ [0] rfl (lw_tvn 1 rfl (wp_ret (post_ret [6] rfl (.bool true) rfl ⟨z6_0, hE79⟩))))))))
end Go.Proofs.Ytjnbnlniafmblaa
