/- Uw: texts of this claim, joined; what the claim does not come to is left out. -/
import Derived.Test.YtemfgblmfahllaaQB3
import Derived.Test.YtemfgblmfahllaaProg
set_option linter.unusedVariables false
set_option linter.unusedSimpArgs false
namespace Go.Proofs.Ytemfgblmfahllaa
open Go Go.RowKit
set_option linter.unusedVariables false
set_option linter.unusedSimpArgs false
set_option maxHeartbeats 4000000
set_option maxRecDepth 100000
attribute [local irreducible] LW
theorem z4_0 {p:Prop} (h:p:=by simp only [List.map_toArray,List.map_cons,List.map_nil]; rfl):p:=h
theorem z4_1 {p:Prop} (h:p:=by first | rfl | (exfalso; omega)):p:=h
theorem c_laws_FnLinearFlow (w:World) (vc:Value) (cs:List UInt8) (vd:Value) (ds:List UInt8) (hcs:Rd (rdL rU) w.heap vc cs) (hds:Rd (rdL rU) w.heap vd ds)  :
    Calls Try.prog 4 #[vc,vd] w (fun e w'=>e = .returned (.bool true)∧Ext w w'):=by
  refine calls_mk [vc,vd] 202 Try.func4 rfl rfl sM ?_
  have hE0:Ext w w:=Ext.refl w
  have hl_vc:=hcs.lenle
  have hl_vd:=hds.lenle
  refine wp_seq (wp_plain _ [0] rfl (lw_tvn 1 rfl (wp_seq (wp_seq (wp_plain _ [0,0,3] rfl (lw_tv 2 rfl (lw_call 12 [] [] [vc,vd] rfl rfl cf12 zN (c_laws_a2Long _ _ _ _ _ (hcs.ext good_u hE0) (hds.ext good_u hE0)) ?_)))))))
  rintro e1 w1 ⟨rfl,hX1⟩
  refine ⟨_,rfl,hX1,?_⟩
  have hzs1:w.heap.size≤w1.heap.size:=hX1.size
  have hE1:Ext w w1:=hE0.trans hX1
  refine lw_nil ?_
  cases hb2:(decide (((3000:Nat):Int) < ((cs.length:Nat):Int)) || decide (((3000:Nat):Int) < ((ds.length:Nat):Int)))
  ·
    refine c_cond_f (by first | rfl | (show Value.bool _ = _; rw [hb2])) (wp_skip (wp_seq (wp_plain _ [0,3,0,0,0,0,0] rfl (lw_tv 1 rfl (lw_call 13 [] [] [vc] rfl rfl cf13 zN (c_spec_A2Matrix _ _ _ (hcs.ext good_u hE1)) ?_)))))
    rintro e3 w3 ⟨v3_0,v3_1,x3_0,x3_1,rfl,hX3,hO3_0,hO3_1,hp3_0,hp3_1⟩
    refine ⟨_,rfl,hX3,?_⟩
    have hzs3:w1.heap.size≤w3.heap.size:=hX3.size
    have hE3:Ext w w3:=hE1.trans hX3
    refine lw_tv 1 rfl (q_extract (vs:=[v3_0,v3_1]) v3_0 rfl rfl zN (q_extract (vs:=[v3_0,v3_1]) v3_1 rfl rfl zN (lw_tvn 2 rfl (wp_seq (wp_plain _ [0,3,0] rfl ?_)))))
    obtain ⟨hn1,hn5,hsq⟩:=hp3_0
    obtain ⟨hbl,hbn⟩:=hp3_1
    refine lw_tv 1 rfl (lw_call 14 [] [] [vd,(.int .i64 ((0:Nat):Int)),(.int .i64 ((10:Nat):Int))] rfl rfl cf14 zN (c_laws_a2At _ _ _ _ _ (hds.ext good_u hE3) oM oM sD) ?_)
    rintro e4 w4 ⟨rfl,hX4⟩
    refine ⟨_,rfl,hX4,?_⟩
    have hzs4:w3.heap.size≤w4.heap.size:=hX4.size
    have hE4:Ext w w4:=hE3.trans hX4
    have hO3_0x4:=hO3_0.ext (o2) hX4
    have hO3_1x4:=hO3_1.ext (o1) hX4
    refine lw_tvn 1 rfl (wp_seq (wp_plain _ [0,0,0] rfl ?_))
    have hoo:=a2at_num ds ((0:Nat):Int) ((10:Nat):Int)
    refine lw_tv 1 rfl (q_len (v:=v3_0) u37 rfl hO3_0x4.isSl zN (lw_tvn 1 rfl (wp_seq (wp_plain _ [3,0] rfl (r_nilS (α:=Ex) (good_oEx 43 8) u41 tiS43 zN fun v5 w5 hX5 hz5 hO5=>?_)))))
    have hzs5:w4.heap.size≤w5.heap.size:=hX5.size
    have hE5:Ext w w5:=hE4.trans hX5
    have hO3_0x5:=hO3_0x4.ext (o2) hX5
    have hO3_1x5:=hO3_1x4.ext (o1) hX5
    refine lw_tvn 1 rfl (wp_seq (wp_plain _ [3,0] rfl (r_nil (owL rI 2) o1 u37 ti25 zN fun v6 w6 hX6 hz6 hO6=>?_)))
    have hzs6:w5.heap.size≤w6.heap.size:=hX6.size
    have hE6:Ext w w6:=hE5.trans hX6
    have hO3_0x6:=hO3_0x5.ext (o2) hX6
    have hO3_1x6:=hO3_1x5.ext (o1) hX6
    have hO5x6:=hO5.ext ((good_owS (good_oEx 43 8))) hX6
    refine lw_tvn 1 rfl (wp_seq (wp_seq (wp_plain _ [0] rfl (lw_tvn 1 rfl (wp_block ?_)))))
    have hTS:TwL 43 25 2 8 w3.heap.size w6.heap.size w6.heap v5 [] v6 []:=TwL.start hO5x6 hO6 oM oM oM oM oM
    refine c_loop (S:=Nat × Value × Value × List Ex) (fun (⟨i,vo,vd9,xs⟩:Nat × Value × Value × List Ex)=>([(9,vo),(10,vd9),(11,(.int .i64 ((i:Nat):Int))),(5,v3_0),(6,v3_1),(7,(.int .i64 (a2at ds ((0:Nat):Int) ((10:Nat):Int)))),(8,(.int .i64 ((x3_0.length:Nat):Int)))]:List (Nat × Value))) (fun (⟨i,vo,vd9,xs⟩:Nat × Value × Value × List Ex) (W:World)=>Ext w W∧Fr (owL (owL rI 2) 25) w1.heap.size w3.heap.size W.heap v3_0 x3_0∧Fr (owL rI 2) w1.heap.size w3.heap.size W.heap v3_1 x3_1∧i≤x3_0.length∧w3.heap.size≤W.heap.size∧xs = lxO (x3_0.take i) x3_0.length∧TwL 43 25 2 8 w3.heap.size W.heap.size W.heap vo xs vd9 (dbl (x3_0.take i))∧w1.heap.size≤W.heap.size) (fun (⟨i,vo,vd9,xs⟩:Nat × Value × Value × List Ex)=>x3_0.length - i) (0,v5,v6,[]) ⟨rfl,rfl,rfl,rfl,rfl,rfl,rfl,trivial⟩ ⟨hE6,hO3_0x6,hO3_1x6,oM,oM,(by rfl),(by exact hTS),oM⟩ ?_
    clear hE0 hX1 hO3_1 hO3_0 hX3 hX4 hzs4 hE4 hO3_0x4 hO3_1x4 hO5 hz5 hX5 hzs5 hE5 hO3_0x5 hO3_1x5 hO6 hz6 hX6 hzs6 hE6 hO3_0x6 hO3_1x6 hO5x6
    rintro ⟨i,vo,vd9,xs⟩ ρ7 w7 ⟨hE7,hL7_0,hL7_1,hp7_0,hkU,hxs,hTw,hkB8⟩
    have hzs7:w.heap.size≤w7.heap.size:=hE7.size
    refine wp_seq (wp_seq (wp_plain _ [0,0,0] rfl (lw_tv 2 rfl ?_)))
    by_cases hc9:((i:Nat):Int) < ((x3_0.length:Nat):Int)
    ·
      refine q_lss true rfl rfl (decide_eq_true hc9) zN (lw_nil (c_cond_t rfl (wp_skip (wp_seq (wp_block (wp_seq (wp_plain _ [0,3,4] rfl ?_)))))))
      have hbd10:∀ (wq:World),(Instr.build 43 #[(0,(.int .i64 ((1:Nat):Int)))]).run Try.prog wq = .ok (.agg #[(.int .i64 ((1:Nat):Int)),(.int .i64 0),(.int .i64 0),(.int .i64 0),(.slice none 0 0)]) wq:=by intro wq; kernel_rfl
      refine q_build (ps:=#[(0,(.int .i64 ((1:Nat):Int)))]) (.agg #[(.int .i64 ((1:Nat):Int)),(.int .i64 0),(.int .i64 0),(.int .i64 0),(.slice none 0 0)]) z4_0 (fun wq=>hbd10  wq) zN (r_allocA (z:=.agg #[.int .i64 0,.int .i64 0,.int .i64 0,.int .i64 0,.slice none 0 0]) zr43 zN fun w11 hX11 hz11 hB11=>?_)
      have hzs11:w7.heap.size≤w11.heap.size:=hX11.size
      have hE11:Ext w w11:=hE7.trans hX11
      have hL7_0x11:=hL7_0.ext (o2) hX11
      have hL7_1x11:=hL7_1.ext (o1) hX11
      have hTwx11:=hTw.ext (trivial) hX11
      replace hB11:BX w11.heap w7.heap.size [(.int .i64 0),(.int .i64 0),(.int .i64 0),(.int .i64 0),(.slice none 0 0)]:=hB11
      refine e_setA (vs:=[(.int .i64 ((1:Nat):Int)),(.int .i64 0),(.int .i64 0),(.int .i64 0),(.slice none 0 0)]) agg43 rfl rfl (by intro u hu; simp only [List.mem_cons,List.not_mem_nil,or_false] at hu; rcases hu with rfl | rfl | rfl | rfl | rfl <;> first | exact ⟨rfl,rfl⟩) hB11 rfl rfl zN fun w12 hC12 hz12 hB12=>?_
      replace hB12:BX w12.heap w7.heap.size [(.int .i64 ((1:Nat):Int)),(.int .i64 0),(.int .i64 0),(.int .i64 0),(.slice none 0 0)]:=hB12
      have hzs12:w11.heap.size≤w12.heap.size:=hC12.size
      have hE12:Ext w w12:=hC12.below hE11 (fun c hc=>by have:=List.mem_singleton.1 hc; omega) hE11.size
      have hF13:=hL7_0x11.chg (o2) hC12 (fun c hc=>by have:=List.mem_singleton.1 hc; omega)
      have hF14:=hL7_1x11.chg (o1) hC12 (fun c hc=>by have:=List.mem_singleton.1 hc; omega)
      have hF15:=hTwx11.chg (trivial) hC12 (fun c hc=>by have:=List.mem_singleton.1 hc; omega)
      refine lw_nil (wp_seq (wp_seq (wp_plain _ [0] rfl (lw_tvn 1 rfl (wp_block ?_)))))
      have hTS:=hF15
      refine c_loop (S:=Nat × Value × List Ex × Int) (fun (⟨k,vk,ys,kd⟩:Nat × Value × List Ex × Int)=>([(13,(.int .i64 ((k:Nat):Int))),(5,v3_0),(6,v3_1),(7,(.int .i64 (a2at ds ((0:Nat):Int) ((10:Nat):Int)))),(8,(.int .i64 ((x3_0.length:Nat):Int))),(9,vo),(10,vd9),(11,(.int .i64 ((i:Nat):Int))),(12,(.pointer (some ⟨w7.heap.size,0,none⟩)))]:List (Nat × Value))) (fun (⟨k,vk,ys,kd⟩:Nat × Value × List Ex × Int) (W:World)=>Ext w W∧Fr (owS 5 (oEx 43 (k + 1)) 43) w12.heap.size W.heap.size W.heap vk ys∧Fr (owL (owL rI 2) 25) w1.heap.size w3.heap.size W.heap v3_0 x3_0∧Fr (owL rI 2) w1.heap.size w3.heap.size W.heap v3_1 x3_1∧BX W.heap w7.heap.size [(.int .i64 kd),(.int .i64 0),(.int .i64 0),(.int .i64 0),vk]∧k≤x3_0.length∧w3.heap.size≤W.heap.size∧Ex.mk kd 0 0 0 ys = lxE (x3_0.getD i []) k∧(1≤kd∧kd≤3)∧TwL 43 25 2 8 w3.heap.size w7.heap.size W.heap vo xs vd9 (dbl (x3_0.take i))∧w7.heap.size < w12.heap.size∧w12.heap.size≤W.heap.size∧w1.heap.size≤W.heap.size) (fun (⟨k,vk,ys,kd⟩:Nat × Value × List Ex × Int)=>x3_0.length - k) (0,(.slice none 0 0),([]:List Ex),((1:Nat):Int)) ⟨rfl,rfl,rfl,rfl,rfl,rfl,rfl,rfl,rfl,trivial⟩ ⟨hE12,(frNilS _ 0 _).up (good_owS (good_oEx 43 (0 + 1))),hF13,hF14,hB12,oM,oM,(by rfl),oM,(by exact hTS),oM,oM,oM⟩ ?_
      clear hL7_1 hL7_0 hE7 hzs7 hz11 hX11 hzs11 hE11 hL7_0x11 hL7_1x11 hz12 hC12 hF13 hF14 hF15
      rintro ⟨k,vk,ys,kd⟩ ρ17 w17 ⟨hE17,hL17_0,hL17_1,hL17_2,hL17_3,hp17_0,hkU2,hye,hp17_3,hTw2,hkg16,hkB18,hkB19⟩
      have hzs17:w.heap.size≤w17.heap.size:=hE17.size
      have hq20:=hL17_3.lt
      refine wp_seq (wp_seq (wp_plain _ [0,0,0] rfl (lw_tv 2 rfl ?_)))
      by_cases hc21:((k:Nat):Int) < ((x3_0.length:Nat):Int)
      ·
        refine q_lss true rfl rfl (decide_eq_true hc21) zN (lw_nil (c_cond_t rfl (wp_skip (wp_seq (wp_block (wp_seq (wp_plain _ [0,0,0,2,0,0,2,0,0,0,3,0,3,4] rfl ?_)))))))
        have hri:=hsq.row i oM
        have hrk:=allN_get (hsq.num i) k
        refine lw_tv 2 rfl (q_idx (v:=v3_0) i u37 ti25 rfl rfl hL17_1.isSl rfl sD zN ?_)
        obtain ⟨ue22,hl22,hd22⟩:=hL17_1.rd2.get (k:=i) [] sD
        have hln22:=hd22.lenle
        refine q_load (p:=eptr v3_0 i 1) (.inr rfl) ue22 one25 rfl hl22 zN (lw_tv 1 rfl (q_idx (v:=ue22) k u25 ti2 rfl rfl hd22.isSl rfl sD zN ?_))
        refine q_load (p:=eptr ue22 k 1) (.inr rfl) (.int .i64 ((x3_0.getD i []).getD k 0)) one2 rfl (hd22.getI sD).1 zN ?_
        have hbd23:∀ (wq:World),(Instr.build 43 #[(0,(.int .i64 ((1:Nat):Int))),(1,(.int .i64 ((x3_0.getD i []).getD k 0)))]).run Try.prog wq = .ok (.agg #[(.int .i64 ((1:Nat):Int)),(.int .i64 ((x3_0.getD i []).getD k 0)),(.int .i64 0),(.int .i64 0),(.slice none 0 0)]) wq:=by intro wq; kernel_rfl
        refine q_build (ps:=#[(0,(.int .i64 ((1:Nat):Int))),(1,(.int .i64 ((x3_0.getD i []).getD k 0)))]) (.agg #[(.int .i64 ((1:Nat):Int)),(.int .i64 ((x3_0.getD i []).getD k 0)),(.int .i64 0),(.int .i64 0),(.slice none 0 0)]) z4_0 (fun wq=>hbd23  wq) zN (lw_tv 1 rfl ?_)
        have hbd24:∀ (wq:World),(Instr.build 43 #[(0,(.int .i64 ((2:Nat):Int))),(1,(.int .i64 ((k:Nat):Int)))]).run Try.prog wq = .ok (.agg #[(.int .i64 ((2:Nat):Int)),(.int .i64 ((k:Nat):Int)),(.int .i64 0),(.int .i64 0),(.slice none 0 0)]) wq:=by intro wq; kernel_rfl
        refine q_build (ps:=#[(0,(.int .i64 ((2:Nat):Int))),(1,(.int .i64 ((k:Nat):Int)))]) (.agg #[(.int .i64 ((2:Nat):Int)),(.int .i64 ((k:Nat):Int)),(.int .i64 0),(.int .i64 0),(.slice none 0 0)]) z4_0 (fun wq=>hbd24  wq) zN ?_
        refine r_twoS (cs:=[(.int .i64 ((1:Nat):Int)),(.int .i64 ((x3_0.getD i []).getD k 0)),(.int .i64 0),(.int .i64 0),(.slice none 0 0)]) (ds:=[(.int .i64 ((2:Nat):Int)),(.int .i64 ((k:Nat):Int)),(.int .i64 0),(.int .i64 0),(.slice none 0 0)]) (y:=(.mk 1 ((x3_0.getD i []).getD k 0) 0 0 [])) (y2:=(.mk 2 ((k:Nat):Int) 0 0 [])) (B:=w17.heap.size) (good_oEx 43 (k + 1)) u41 tiS43 rfl (by decide) rfl rfl (FrN.leaf (d:=k + 1) (x:=(.mk 1 ((x3_0.getD i []).getD k 0) 0 0 [])) oM (exR_mk oM oM oM oM) rfl w17.heap.size w17.heap.size) (FrN.leaf (d:=k + 1) (x:=(.mk 2 ((k:Nat):Int) 0 0 [])) oM (exR_mk oM oM oM oM) rfl w17.heap.size w17.heap.size) oM oM oM zN fun v25 w25 hX25 hz25 hO25=>?_
        have hzs25:w17.heap.size≤w25.heap.size:=hX25.size
        have hE25:Ext w w25:=hE17.trans hX25
        have hL17_0x25:=hL17_0.ext ((good_owS (good_oEx 43 (k + 1)))) hX25
        have hL17_1x25:=hL17_1.ext (o2) hX25
        have hL17_2x25:=hL17_2.ext (o1) hX25
        have hL17_3x25:=hL17_3.ext hX25
        have hTw2x25:=hTw2.ext (trivial) hX25
        have hd22x25:=hd22.ext g1 hX25
        have hlx26:=ldH_ext hX25 hl22
        have hbd27:∀ (v25:Value) (m27_0:Nat) (h27_0:isSl v25 m27_0) (wq:World),(Instr.build 43 #[(0,(.int .i64 ((5:Nat):Int))),(4,v25)]).run Try.prog wq = .ok (.agg #[(.int .i64 ((5:Nat):Int)),(.int .i64 0),(.int .i64 0),(.int .i64 0),v25]) wq:=by intro v25 m27_0 h27_0 wq; obtain ⟨a27_0,c27_0,rfl,_⟩:=h27_0; kernel_rfl
        refine q_build (ps:=#[(0,(.int .i64 ((5:Nat):Int))),(4,v25)]) (.agg #[(.int .i64 ((5:Nat):Int)),(.int .i64 0),(.int .i64 0),(.int .i64 0),v25]) z4_0 (fun wq=>hbd27 v25 _ hO25.isSlS wq) zN ?_
        have hq29:=hL17_3x25.lt
        refine r_allocA (z:=.agg #[.int .i64 0,.int .i64 0,.int .i64 0,.int .i64 0,.slice none 0 0]) zr43 zN fun w28 hX28 hz28 hB28=>?_
        have hzs28:w25.heap.size≤w28.heap.size:=hX28.size
        have hE28:Ext w w28:=hE25.trans hX28
        have hL17_0x28:=hL17_0x25.ext ((good_owS (good_oEx 43 (k + 1)))) hX28
        have hL17_1x28:=hL17_1x25.ext (o2) hX28
        have hL17_2x28:=hL17_2x25.ext (o1) hX28
        have hL17_3x28:=hL17_3x25.ext hX28
        have hTw2x28:=hTw2x25.ext (trivial) hX28
        have hd22x28:=hd22x25.ext g1 hX28
        have hlx30:=ldH_ext hX28 hlx26
        have hO25x28:=hO25.ext ((good_owS (good_oEx 43 (k + 1)))) hX28
        replace hB28:BX w28.heap w25.heap.size [(.int .i64 0),(.int .i64 0),(.int .i64 0),(.int .i64 0),(.slice none 0 0)]:=hB28
        refine e_setA (vs:=[(.int .i64 ((5:Nat):Int)),(.int .i64 0),(.int .i64 0),(.int .i64 0),v25]) agg43 rfl rfl (by intro u hu; simp only [List.mem_cons,List.not_mem_nil,or_false] at hu; rcases hu with rfl | rfl | rfl | rfl | rfl <;> first | exact ⟨rfl,rfl⟩ | exact isSl_one hO25x28.isSlS) hB28 rfl rfl zN fun w31 hC31 hz31 hB31=>?_
        replace hB31:BX w31.heap w25.heap.size [(.int .i64 ((5:Nat):Int)),(.int .i64 0),(.int .i64 0),(.int .i64 0),v25]:=hB31
        have hzs31:w28.heap.size≤w31.heap.size:=hC31.size
        have hE31:Ext w w31:=hC31.below hE28 (fun c hc=>by have:=List.mem_singleton.1 hc; omega) hE28.size
        have hF32:=hL17_0x28.chg ((good_owS (good_oEx 43 (k + 1)))) hC31 (fun c hc=>by have:=List.mem_singleton.1 hc; omega)
        have hF33:=hL17_1x28.chg (o2) hC31 (fun c hc=>by have:=List.mem_singleton.1 hc; omega)
        have hF34:=hL17_2x28.chg (o1) hC31 (fun c hc=>by have:=List.mem_singleton.1 hc; omega)
        have hF35:=hL17_3x28.chg hC31 (fun hm=>by have:=List.mem_singleton.1 hm; omega)
        have hF36:=hTw2x28.chg (trivial) hC31 (fun c hc=>by have:=List.mem_singleton.1 hc; omega)
        have hF38:=hO25x28.chg ((good_owS (good_oEx 43 (k + 1)))) hC31 (fun c hc=>by have:=List.mem_singleton.1 hc; omega)
        refine lw_nil (wp_plain _ [2,2,3,0,4] rfl (q_loadA (p:=(.pointer (some ⟨w7.heap.size,0,none⟩))) (.inr rfl) [(.int .i64 kd),(.int .i64 0),(.int .i64 0),(.int .i64 0),vk] agg43 rfl (fun wq9 hw9=>LD.of_box (BX.ext (w:=w31) hF35 hw9)) rfl zN (q_loadA (p:=(.pointer (some ⟨w25.heap.size,0,none⟩))) (.inr rfl) [(.int .i64 ((5:Nat):Int)),(.int .i64 0),(.int .i64 0),(.int .i64 0),v25] agg43 rfl (fun wq9 hw9=>LD.of_box (BX.ext (w:=w31) hB31 hw9)) rfl zN ?_)))
        refine r_twoS (cs:=[(.int .i64 kd),(.int .i64 0),(.int .i64 0),(.int .i64 0),vk]) (ds:=[(.int .i64 ((5:Nat):Int)),(.int .i64 0),(.int .i64 0),(.int .i64 0),v25]) (y:=(.mk kd 0 0 0 ys)) (y2:=(lxP (x3_0.getD i []) k)) (B:=w12.heap.size) (good_oEx 43 (k + 2)) u41 tiS43 rfl (by decide) rfl rfl (FrN.mk1 (d:=k + 2) (x:=.mk kd 0 0 0 ys) oM (exR_mk oM oM oM oM) hF32) (FrN.mk1 (d:=k + 2) (x:=lxP (x3_0.getD i []) k) oM (exR_mk oM oM oM oM) hF38) oM oM oM zN fun v39 w39 hX39 hz39 hO39=>?_
        have hzs39:w31.heap.size≤w39.heap.size:=hX39.size
        have hE39:Ext w w39:=hE31.trans hX39
        have hF33x39:=hF33.ext (o2) hX39
        have hF34x39:=hF34.ext (o1) hX39
        have hF35x39:=hF35.ext hX39
        have hF36x39:=hF36.ext (trivial) hX39
        have hbd40:∀ (v39:Value) (m40_0:Nat) (h40_0:isSl v39 m40_0) (wq:World),(Instr.build 43 #[(0,(.int .i64 ((3:Nat):Int))),(4,v39)]).run Try.prog wq = .ok (.agg #[(.int .i64 ((3:Nat):Int)),(.int .i64 0),(.int .i64 0),(.int .i64 0),v39]) wq:=by intro v39 m40_0 h40_0 wq; obtain ⟨a40_0,c40_0,rfl,_⟩:=h40_0; kernel_rfl
        refine q_build (ps:=#[(0,(.int .i64 ((3:Nat):Int))),(4,v39)]) (.agg #[(.int .i64 ((3:Nat):Int)),(.int .i64 0),(.int .i64 0),(.int .i64 0),v39]) z4_0 (fun wq=>hbd40 v39 _ hO39.isSlS wq) zN (e_setA (vs:=[(.int .i64 ((3:Nat):Int)),(.int .i64 0),(.int .i64 0),(.int .i64 0),v39]) agg43 rfl rfl (by intro u hu; simp only [List.mem_cons,List.not_mem_nil,or_false] at hu; rcases hu with rfl | rfl | rfl | rfl | rfl <;> first | exact ⟨rfl,rfl⟩ | exact isSl_one hO39.isSlS) hF35x39 rfl rfl zN fun w41 hC41 hz41 hB41=>?_)
        replace hB41:BX w41.heap w7.heap.size [(.int .i64 ((3:Nat):Int)),(.int .i64 0),(.int .i64 0),(.int .i64 0),v39]:=hB41
        have hzs41:w39.heap.size≤w41.heap.size:=hC41.size
        have hE41:Ext w w41:=hC41.below hE39 (fun c hc=>by have:=List.mem_singleton.1 hc; omega) hE39.size
        have hF42:=hF33x39.chg (o2) hC41 (fun c hc=>by have:=List.mem_singleton.1 hc; omega)
        have hF43:=hF34x39.chg (o1) hC41 (fun c hc=>by have:=List.mem_singleton.1 hc; omega)
        have hF44:=hF36x39.chg (trivial) hC41 (fun c hc=>by have:=List.mem_singleton.1 hc; omega)
        have hF46:=hO39.chg ((good_owS (good_oEx 43 (k + 2)))) hC41 (fun c hc=>by have:=List.mem_singleton.1 hc; omega)
        refine lw_nil (wp_plain _ [0,0,0] rfl (lw_tv 1 rfl (q_add ((k + 1:Nat):Int) rfl rfl (w64n oM oM) zN (lw_tvn 1 rfl ?_))))
        have hTE:=hF44
        exact ⟨((k + 1),v39,([(.mk kd 0 0 0 ys),(lxP (x3_0.getD i []) k)]),((3:Nat):Int)),_,rfl,⟨rfl,rfl,rfl,rfl,rfl,rfl,rfl,rfl,rfl,trivial⟩,⟨hE41,hF46.up (good_owS (good_oEx 43 (k + 2))),hF42,hF43,hB41,oM,oM,(by rw [hye]; rfl),oM,(by exact hTE),oM,oM,oM⟩,by first | omega | (dsimp only; omega)⟩
      ·
        refine q_lss false rfl rfl (decide_eq_false hc21) zN (lw_nil (c_cond_f rfl (wp_exit (t_exit (t_exit (c_exit_here (wp_seq (wp_plain _ [0,2,3,4,0] rfl ?_))))))))
        have hxl:xs.length = i:=by rw [hxs]; unfold lxO; rw [List.length_map,List.length_take]; omega
        have hdl:(dbl (x3_0.take i)).length = i:=by unfold dbl; rw [List.length_map,List.length_take]; omega
        refine lw_tv 1 rfl (q_loadA (p:=(.pointer (some ⟨w7.heap.size,0,none⟩))) (.inr rfl) [(.int .i64 kd),(.int .i64 0),(.int .i64 0),(.int .i64 0),vk] agg43 rfl (fun wq9 hw9=>LD.of_box (BX.ext (w:=w17) hL17_3 hw9)) rfl zN (r_oneS (cs:=[(.int .i64 kd),(.int .i64 0),(.int .i64 0),(.int .i64 0),vk]) (y:=(.mk kd 0 0 0 ys)) (B:=w12.heap.size) (good_oEx 43 8) u41 tiS43 rfl (by decide) rfl (FrN.le (FrN.mk1 (d:=k + 2) (x:=.mk kd 0 0 0 ys) oM (exR_mk oM oM oM oM) hL17_0) oM) oM zN fun v47 w47 hX47 hz47 hO47=>?_))
        have hzs47:w17.heap.size≤w47.heap.size:=hX47.size
        have hE47:Ext w w47:=hE17.trans hX47
        have hL17_1x47:=hL17_1.ext (o2) hX47
        have hL17_2x47:=hL17_2.ext (o1) hX47
        have hTw2x47:=hTw2.ext (trivial) hX47
        refine e_twoO (vo:=vo) (vd:=vd9) (a:=v47) u41 tiS43 (by decide) rfl rfl hTw2x47 hO47 oM oM oM oM (by rw [hxl]; omega) (by rw [hxl]; unfold maxLen; omega) zN fun v48 w48 F48 hC48 hF48 hT48=>?_
        have hzs48:w47.heap.size≤w48.heap.size:=hC48.size
        have hE48:Ext w w48:=hC48.below hE47 (fun c hc=>by have:=hF48 _ hc; omega) hE47.size
        have hF49:=hL17_1x47.chg (o2) hC48 (fun c hc=>by have:=hF48 _ hc; omega)
        have hF50:=hL17_2x47.chg (o1) hC48 (fun c hc=>by have:=hF48 _ hc; omega)
        refine lw_tvn 1 rfl (wp_plain _ [0,0,0,0,2,3,3,4,0] rfl ?_)
        have hri9:=hsq.row i oM
        refine lw_tv 3 rfl (q_idx (v:=v3_0) i u37 ti25 rfl rfl hF49.isSl rfl sD zN ?_)
        obtain ⟨ue52,hl52,hd52⟩:=hF49.rd2.get (k:=i) [] sD
        have hln52:=hd52.lenle
        refine q_load (p:=eptr v3_0 i 1) (.inr rfl) ue52 one25 rfl hl52 zN (lw_call 15 [] [] [ue52,(.int .i64 ((2:Nat):Int))] rfl rfl cf15 zN (c_laws_a2Scale _ _ _ _ hd52 oM sD) ?_)
        rintro e53 w53 ⟨v53_0,rfl,hX53,hO53_0⟩
        refine ⟨_,rfl,hX53,?_⟩
        have hzs53:w48.heap.size≤w53.heap.size:=hX53.size
        have hE53:Ext w w53:=hE48.trans hX53
        have hF49x53:=hF49.ext (o2) hX53
        have hF50x53:=hF50.ext (o1) hX53
        have hT48x53:=hT48.ext (trivial) hX53
        have hd52x53:=hd52.ext g1 hX53
        have hlx54:=ldH_ext hX53 hl52
        refine r_one (u:=v53_0) (B:=w48.heap.size) o1 u37 ti25 rfl rfl hO53_0 (by first | exact Nat.le_refl _ | omega) zN fun v55 w55 hX55 hz55 hO55=>?_
        have hzs55:w53.heap.size≤w55.heap.size:=hX55.size
        have hE55:Ext w w55:=hE53.trans hX55
        have hF49x55:=hF49x53.ext (o2) hX55
        have hF50x55:=hF50x53.ext (o1) hX55
        have hT48x55:=hT48x53.ext (trivial) hX55
        have hd52x55:=hd52x53.ext g1 hX55
        have hlx56:=ldH_ext hX55 hlx54
        refine e_twoD (vo:=v48) (vd:=vd9) (a:=v55) u37 ti25 rfl rfl rfl hT48x55 hO55 oM oM oM oM (by rw [hdl]; omega) (by rw [hdl]; unfold maxLen; omega) zN fun v57 w57 F57 hC57 hF57 hT57=>?_
        have hzs57:w55.heap.size≤w57.heap.size:=hC57.size
        have hE57:Ext w w57:=hC57.below hE55 (fun c hc=>by have:=hF57 _ hc; omega) hE55.size
        have hF58:=hF49x55.chg (o2) hC57 (fun c hc=>by have:=hF57 _ hc; omega)
        have hF59:=hF50x55.chg (o1) hC57 (fun c hc=>by have:=hF57 _ hc; omega)
        refine lw_tvn 1 rfl (wp_plain _ [0,0,0] rfl (lw_tv 1 rfl (q_add ((i + 1:Nat):Int) rfl rfl (w64n oM oM) zN (lw_tvn 1 rfl ?_))))
        have hTE:=hT57
        exact ⟨((i + 1),v48,v57,(xs++[(.mk kd 0 0 0 ys)])),_,rfl,⟨rfl,rfl,rfl,rfl,rfl,rfl,rfl,trivial⟩,⟨hE57,hF58,hF59,oM,oM,(by rw [hxs]; exact lxO_snoc oM (by rw [hye,show k = x3_0.length from by omega])),(by rw [dbl_snoc oM]; exact hTE),oM⟩,by first | omega | (dsimp only; omega)⟩
    ·
      refine q_lss false rfl rfl (decide_eq_false hc9) zN (lw_nil (c_cond_f rfl (wp_exit (t_exit (t_exit (c_exit_here (wp_seq (wp_plain _ [0,0,0,3,0,3,4] rfl ?_))))))))
      have hTo:=hTw.fro
      have hTd:=hTw.frd
      refine lw_tv 2 rfl ?_
      have hbd61:∀ (vo:Value) (m61_0:Nat) (h61_0:isSl vo m61_0) (wq:World),(Instr.build 46 #[(0,(.string (⟨#[114,111,119,115]⟩))),(1,(.int .i64 ((x3_0.length:Nat):Int))),(2,vo)]).run Try.prog wq = .ok (.agg #[(.string (⟨#[114,111,119,115]⟩)),(.int .i64 ((x3_0.length:Nat):Int)),vo]) wq:=by intro vo m61_0 h61_0 wq; obtain ⟨a61_0,c61_0,rfl,_⟩:=h61_0; kernel_rfl
      refine q_build (ps:=#[(0,(.string (⟨#[114,111,119,115]⟩))),(1,(.int .i64 ((x3_0.length:Nat):Int))),(2,vo)]) (.agg #[(.string (⟨#[114,111,119,115]⟩)),(.int .i64 ((x3_0.length:Nat):Int)),vo]) z4_0 (fun wq=>hbd61 vo _ hTo.isSlS wq) zN (r_oneS (cs:=[(.string (⟨#[114,111,119,115]⟩)),(.int .i64 ((x3_0.length:Nat):Int)),vo]) (y:=(Fn.mk (⟨#[114,111,119,115]⟩:ByteArray) ((x3_0.length:Nat):Int) xs)) (B:=w3.heap.size) (good_oFn 43 8) u47 tiS46 rfl (by decide) rfl (FrN.mkF (x:=Fn.mk (⟨#[114,111,119,115]⟩:ByteArray) ((x3_0.length:Nat):Int) xs) (by show i64 ((x3_0.length:Nat):Int); exact ⟨by omega,by omega⟩) hTo) oM zN fun v62 w62 hX62 hz62 hO62=>?_)
      have hzs62:w7.heap.size≤w62.heap.size:=hX62.size
      have hE62:Ext w w62:=hE7.trans hX62
      have hL7_0x62:=hL7_0.ext (o2) hX62
      have hL7_1x62:=hL7_1.ext (o1) hX62
      have hTdx62:=hTd.ext (o2) hX62
      have hbd63:∀ (v62:Value) (m63_0:Nat) (h63_0:isSl v62 m63_0) (wq:World),(Instr.build 49 #[(0,v62)]).run Try.prog wq = .ok (.agg #[v62]) wq:=by intro v62 m63_0 h63_0 wq; obtain ⟨a63_0,c63_0,rfl,_⟩:=h63_0; kernel_rfl
      refine q_build (ps:=#[(0,v62)]) (.agg #[v62]) z4_0 (fun wq=>hbd63 v62 _ hO62.isSlS wq) zN (r_allocA (z:=.agg #[.slice none 0 0]) zr49 zN fun w64 hX64 hz64 hB64=>?_)
      have hzs64:w62.heap.size≤w64.heap.size:=hX64.size
      have hE64:Ext w w64:=hE62.trans hX64
      have hL7_0x64:=hL7_0x62.ext (o2) hX64
      have hL7_1x64:=hL7_1x62.ext (o1) hX64
      have hTdx64:=hTdx62.ext (o2) hX64
      have hO62x64:=hO62.ext ((good_owS (good_oFn 43 8))) hX64
      replace hB64:BX w64.heap w62.heap.size [(.slice none 0 0)]:=hB64
      refine e_setA (vs:=[v62]) agg49 rfl rfl (by intro u hu; simp only [List.mem_cons,List.not_mem_nil,or_false] at hu; rcases hu with rfl <;> first | exact ⟨rfl,rfl⟩ | exact isSl_one hO62x64.isSlS) hB64 rfl rfl zN fun w65 hC65 hz65 hB65=>?_
      replace hB65:BX w65.heap w62.heap.size [v62]:=hB65
      have hzs65:w64.heap.size≤w65.heap.size:=hC65.size
      have hE65:Ext w w65:=hC65.below hE64 (fun c hc=>by have:=List.mem_singleton.1 hc; omega) hE64.size
      have hF66:=hL7_0x64.chg (o2) hC65 (fun c hc=>by have:=List.mem_singleton.1 hc; omega)
      have hF67:=hL7_1x64.chg (o1) hC65 (fun c hc=>by have:=List.mem_singleton.1 hc; omega)
      have hF68:=hTdx64.chg (o2) hC65 (fun c hc=>by have:=List.mem_singleton.1 hc; omega)
      have hF69:=hO62x64.chg ((good_owS (good_oFn 43 8))) hC65 (fun c hc=>by have:=List.mem_singleton.1 hc; omega)
      refine lw_nil (wp_seq (wp_plain _ [0,0,0,3,0,0,0,0,0] rfl ?_))
      have hoo2:0≤(a2at ds ((0:Nat):Int) ((10:Nat):Int))∧(a2at ds ((0:Nat):Int) ((10:Nat):Int))≤12:=⟨hoo.1,by have:=hoo.2 oM; omega⟩
      have hL:=LxH.of (b:=(⟨#[114,111,119,115]⟩:ByteArray)) (xs:=xs) (d:=dbl (x3_0.take i)) (i:=i) (by decide) hn1 hn5 hsq hbl hbn hoo2 oM hxs rfl
      have hszp:SzP [Fn.mk (⟨#[114,111,119,115]⟩:ByteArray) ((x3_0.length:Nat):Int) xs]:=by have h:=lx_szp (b:=(⟨#[114,111,119,115]⟩:ByteArray)) (a:=x3_0) (n:=x3_0.length) (by decide) hn5 rfl; rw [hxs,List.take_of_length_le oM]; exact h
      refine lw_tv 3 rfl (lw_call 16 [] [] [v3_0,v3_1,(.int .i64 (a2at ds ((0:Nat):Int) ((10:Nat):Int)))] rfl rfl cf16 zN (c_impl_LinearFlow _ _ _ _ _ _ hF66.rd2 hF67.rd1 (a2at_rng ds ((0:Nat):Int) ((10:Nat):Int) oM)) ?_)
      rintro e70 w70 ⟨v70_0,rfl,hX70,hO70_0⟩
      refine ⟨_,rfl,hX70,?_⟩
      have hzs70:w65.heap.size≤w70.heap.size:=hX70.size
      have hE70:Ext w w70:=hE65.trans hX70
      have hF66x70:=hF66.ext (o2) hX70
      have hF67x70:=hF67.ext (o1) hX70
      have hF68x70:=hF68.ext (o2) hX70
      have hF69x70:=hF69.ext ((good_owS (good_oFn 43 8))) hX70
      have hB65x70:=hB65.ext hX70
      refine lw_tv 1 rfl (q_extract (vs:=[v70_0,(.int .i64 (lfC x3_0 x3_1 (a2at ds ((0:Nat):Int) ((10:Nat):Int))))]) v70_0 rfl rfl zN (q_extract (vs:=[v70_0,(.int .i64 (lfC x3_0 x3_1 (a2at ds ((0:Nat):Int) ((10:Nat):Int))))]) (.int .i64 (lfC x3_0 x3_1 (a2at ds ((0:Nat):Int) ((10:Nat):Int)))) rfl rfl zN (lw_tvn 2 rfl (wp_seq (wp_plain _ [2,0,0,3,0,0,0,0,0] rfl (q_loadA (p:=(.pointer (some ⟨w62.heap.size,0,none⟩))) (.inr rfl) [v62] agg49 rfl (fun wq9 hw9=>LD.of_box (BX.ext (w:=w70) hB65x70 hw9)) rfl zN (lw_tv 2 rfl ?_)))))))
      refine lw_call 17 [] [] [(.agg #[v62]),(.int .i64 ((0:Nat):Int)),v3_1,(.int .i64 (a2at ds ((0:Nat):Int) ((10:Nat):Int)))] rfl rfl cf17 zN (c_impl_FlowOf _ 8 v62 ([(Fn.mk (⟨#[114,111,119,115]⟩:ByteArray) ((x3_0.length:Nat):Int) xs)]) _ _ _ _ (RN.of_frF hF69x70 (fun b hb=>by cases hb)) oM hF67x70.rd1 (a2at_rng ds ((0:Nat):Int) ((10:Nat):Int) oM) (by exact hszp)) ?_
      rintro e71 w71 ⟨v71_0,rfl,hX71,hO71_0,hP71_0⟩
      refine ⟨_,rfl,hX71,?_⟩
      have hzs71:w70.heap.size≤w71.heap.size:=hX71.size
      have hE71:Ext w w71:=hE70.trans hX71
      have hF66x71:=hF66x70.ext (o2) hX71
      have hF67x71:=hF67x70.ext (o1) hX71
      have hF68x71:=hF68x70.ext (o2) hX71
      have hF69x71:=hF69x70.ext ((good_owS (good_oFn 43 8))) hX71
      have hO70_0x71:=hO70_0.ext (o2) hX71
      refine lw_tv 1 rfl (q_extract (vs:=[v71_0,(.int .i64 (foC ([(Fn.mk (⟨#[114,111,119,115]⟩:ByteArray) ((x3_0.length:Nat):Int) xs)]) ((0:Nat):Int) x3_1 (a2at ds ((0:Nat):Int) ((10:Nat):Int))))]) v71_0 rfl rfl zN (q_extract (vs:=[v71_0,(.int .i64 (foC ([(Fn.mk (⟨#[114,111,119,115]⟩:ByteArray) ((x3_0.length:Nat):Int) xs)]) ((0:Nat):Int) x3_1 (a2at ds ((0:Nat):Int) ((10:Nat):Int))))]) (.int .i64 (foC ([(Fn.mk (⟨#[114,111,119,115]⟩:ByteArray) ((x3_0.length:Nat):Int) xs)]) ((0:Nat):Int) x3_1 (a2at ds ((0:Nat):Int) ((10:Nat):Int)))) rfl rfl zN (lw_tvn 2 rfl (wp_seq (wp_plain _ [0,0,0,3,0,0,0,0,0] rfl (lw_tv 3 rfl ?_))))))
      refine lw_call 16 [] [] [vd9,v3_1,(.int .i64 (a2at ds ((0:Nat):Int) ((10:Nat):Int)))] rfl rfl cf16 zN (c_impl_LinearFlow _ _ _ _ _ _ hF68x71.rd2 hF67x71.rd1 (a2at_rng ds ((0:Nat):Int) ((10:Nat):Int) oM)) ?_
      rintro e72 w72 ⟨v72_0,rfl,hX72,hO72_0⟩
      refine ⟨_,rfl,hX72,?_⟩
      have hzs72:w71.heap.size≤w72.heap.size:=hX72.size
      have hE72:Ext w w72:=hE71.trans hX72
      have hF66x72:=hF66x71.ext (o2) hX72
      have hF67x72:=hF67x71.ext (o1) hX72
      have hF68x72:=hF68x71.ext (o2) hX72
      have hF69x72:=hF69x71.ext ((good_owS (good_oFn 43 8))) hX72
      have hO70_0x72:=hO70_0x71.ext (o2) hX72
      have hO71_0x72:=hO71_0.ext (o2) hX72
      refine lw_tv 1 rfl (q_extract (vs:=[v72_0,(.int .i64 (lfC (dbl (x3_0.take i)) x3_1 (a2at ds ((0:Nat):Int) ((10:Nat):Int))))]) v72_0 rfl rfl zN (q_extract (vs:=[v72_0,(.int .i64 (lfC (dbl (x3_0.take i)) x3_1 (a2at ds ((0:Nat):Int) ((10:Nat):Int))))]) (.int .i64 (lfC (dbl (x3_0.take i)) x3_1 (a2at ds ((0:Nat):Int) ((10:Nat):Int)))) rfl rfl zN (lw_tvn 2 rfl (wp_seq (wp_seq (wp_plain _ [0,0,0,0,0,0,0,0,0,0,0,0,0,0,0,3,0,0,0,0,0,3,0,0,0,0,0,0,0,3,0,0] rfl (lw_tv 1 rfl ?_)))))))
      have hc73:¬ (lfC x3_0 x3_1 (a2at ds ((0:Nat):Int) ((10:Nat):Int))≠((0:Nat):Int)):=(fun h9=>h9 (hL.c1))
      refine q_neq false rfl rfl (decide_eq_false hc73) zN (lw_tv 2 rfl ?_)
      have hc74:¬ (foC ([(Fn.mk (⟨#[114,111,119,115]⟩:ByteArray) ((x3_0.length:Nat):Int) xs)]) ((0:Nat):Int) x3_1 (a2at ds ((0:Nat):Int) ((10:Nat):Int))≠((0:Nat):Int)):=(fun h9=>h9 (hL.c2))
      refine q_neq false rfl rfl (decide_eq_false hc74) (zS (e:=109) rfl rfl rfl) (lw_tv 3 rfl ?_)
      have hc75:¬ (lfC (dbl (x3_0.take i)) x3_1 (a2at ds ((0:Nat):Int) ((10:Nat):Int))≠((0:Nat):Int)):=(fun h9=>h9 (hL.c3))
      refine q_neq false rfl rfl (decide_eq_false hc75) (zS (e:=113) rfl rfl rfl) (lw_tv 5 rfl (q_add ((a2at ds ((0:Nat):Int) ((10:Nat):Int)) + ((1:Nat):Int)) rfl rfl (w64e rfl oM oM) (zS (e:=117) rfl rfl rfl) (lw_call 18 [] [] [v70_0,(.int .i64 ((x3_0.length:Nat):Int)),(.int .i64 ((a2at ds ((0:Nat):Int) ((10:Nat):Int)) + ((1:Nat):Int)))] rfl rfl cf18 (zS (e:=117) rfl rfl rfl) (c_laws_a2Wide _ _ _ _ _ hO70_0x72.rd2 oM oM) ?_)))
      rintro e76 w76 ⟨rfl,hX76⟩
      refine ⟨_,rfl,hX76,?_⟩
      have hzs76:w72.heap.size≤w76.heap.size:=hX76.size
      have hE76:Ext w w76:=hE72.trans hX76
      have hF66x76:=hF66x72.ext (o2) hX76
      have hF67x76:=hF67x72.ext (o1) hX76
      have hF68x76:=hF68x72.ext (o2) hX76
      have hF69x76:=hF69x72.ext ((good_owS (good_oFn 43 8))) hX76
      have hO70_0x76:=hO70_0x72.ext (o2) hX76
      have hO71_0x76:=hO71_0x72.ext (o2) hX76
      have hO72_0x76:=hO72_0.ext (o2) hX76
      rw [show (decide ((((lfR x3_0 x3_1 (a2at ds ((0:Nat):Int) ((10:Nat):Int))).length:Nat):Int) = ((x3_0.length:Nat):Int)) && (lfR x3_0 x3_1 (a2at ds ((0:Nat):Int) ((10:Nat):Int))).all (fun r=>decide (((r.length:Nat):Int) = ((a2at ds ((0:Nat):Int) ((10:Nat):Int)) + ((1:Nat):Int))))) = true from hL.w1]
      refine q_not false rfl rfl (zS (e:=117) rfl rfl rfl) (lw_tv 4 rfl (lw_call 19 [] [] [v70_0,v71_0] rfl rfl cf19 (zS (e:=125) rfl rfl rfl) (c_laws_a2SameRows _ _ _ _ _ hO70_0x76.rd2 hO71_0x76.rd2) ?_))
      rintro e77 w77 ⟨rfl,hX77⟩
      refine ⟨_,rfl,hX77,?_⟩
      have hzs77:w76.heap.size≤w77.heap.size:=hX77.size
      have hE77:Ext w w77:=hE76.trans hX77
      have hF66x77:=hF66x76.ext (o2) hX77
      have hF67x77:=hF67x76.ext (o1) hX77
      have hF68x77:=hF68x76.ext (o2) hX77
      have hF69x77:=hF69x76.ext ((good_owS (good_oFn 43 8))) hX77
      have hO70_0x77:=hO70_0x76.ext (o2) hX77
      have hO71_0x77:=hO71_0x76.ext (o2) hX77
      have hO72_0x77:=hO72_0x76.ext (o2) hX77
      rw [show (decide ((lfR x3_0 x3_1 (a2at ds ((0:Nat):Int) ((10:Nat):Int))) = (foR ([(Fn.mk (⟨#[114,111,119,115]⟩:ByteArray) ((x3_0.length:Nat):Int) xs)]) ((0:Nat):Int) x3_1 (a2at ds ((0:Nat):Int) ((10:Nat):Int))))) = true from (decide_eq_true hL.same)]
      refine q_not false rfl rfl (zS (e:=125) rfl rfl rfl) (lw_tv 5 rfl (q_add ((a2at ds ((0:Nat):Int) ((10:Nat):Int)) + ((1:Nat):Int)) rfl rfl (w64e rfl oM oM) (zS (e:=131) rfl rfl rfl) (lw_call 18 [] [] [v72_0,(.int .i64 ((x3_0.length:Nat):Int)),(.int .i64 ((a2at ds ((0:Nat):Int) ((10:Nat):Int)) + ((1:Nat):Int)))] rfl rfl cf18 (zS (e:=131) rfl rfl rfl) (c_laws_a2Wide _ _ _ _ _ hO72_0x77.rd2 oM oM) ?_)))
      rintro e78 w78 ⟨rfl,hX78⟩
      refine ⟨_,rfl,hX78,?_⟩
      have hzs78:w77.heap.size≤w78.heap.size:=hX78.size
      have hE78:Ext w w78:=hE77.trans hX78
      have hF66x78:=hF66x77.ext (o2) hX78
      have hF67x78:=hF67x77.ext (o1) hX78
      have hF68x78:=hF68x77.ext (o2) hX78
      have hF69x78:=hF69x77.ext ((good_owS (good_oFn 43 8))) hX78
      have hO70_0x78:=hO70_0x77.ext (o2) hX78
      have hO71_0x78:=hO71_0x77.ext (o2) hX78
      have hO72_0x78:=hO72_0x77.ext (o2) hX78
      rw [show (decide ((((lfR (dbl (x3_0.take i)) x3_1 (a2at ds ((0:Nat):Int) ((10:Nat):Int))).length:Nat):Int) = ((x3_0.length:Nat):Int)) && (lfR (dbl (x3_0.take i)) x3_1 (a2at ds ((0:Nat):Int) ((10:Nat):Int))).all (fun r=>decide (((r.length:Nat):Int) = ((a2at ds ((0:Nat):Int) ((10:Nat):Int)) + ((1:Nat):Int))))) = true from hL.w2]
      refine q_not false rfl rfl (zS (e:=131) rfl rfl rfl) (lw_tvn 1 rfl (c_cond_f rfl (wp_skip (wp_seq (wp_seq (wp_plain _ [0] rfl (lw_tvn 1 rfl (wp_block ?_))))))))
      refine c_loop (S:=Nat) (fun (i2:Nat)=>([(22,(.int .i64 ((i2:Nat):Int))),(5,v3_0),(6,v3_1),(7,(.int .i64 (a2at ds ((0:Nat):Int) ((10:Nat):Int)))),(8,(.int .i64 ((x3_0.length:Nat):Int))),(16,v70_0),(20,v72_0)]:List (Nat × Value))) (fun (i2:Nat) (W:World)=>Ext w W∧Fr (owL (owL rI 2) 25) w1.heap.size w3.heap.size W.heap v3_0 x3_0∧Fr (owL rI 2) w1.heap.size w3.heap.size W.heap v3_1 x3_1∧Fr (owL (owL rI 2) 25) w65.heap.size w70.heap.size W.heap v70_0 (lfR x3_0 x3_1 (a2at ds ((0:Nat):Int) ((10:Nat):Int)))∧Fr (owL (owL rI 2) 25) w71.heap.size w72.heap.size W.heap v72_0 (lfR (dbl (x3_0.take i)) x3_1 (a2at ds ((0:Nat):Int) ((10:Nat):Int)))∧i2≤(lfR x3_0 x3_1 (a2at ds ((0:Nat):Int) ((10:Nat):Int))).length) (fun (i2:Nat)=>(lfR x3_0 x3_1 (a2at ds ((0:Nat):Int) ((10:Nat):Int))).length - i2) 0 ⟨rfl,rfl,rfl,rfl,rfl,rfl,rfl,trivial⟩ ⟨hE78,hF66x78,hF67x78,hO70_0x78,hO72_0x78,oM⟩ ?_
      clear hL7_1 hL7_0 hE7 hzs7 hO62 hz62 hX62 hzs62 hE62 hL7_0x62 hL7_1x62 hz64 hX64 hzs64 hE64 hL7_0x64 hL7_1x64 hO62x64 hz65 hC65 hF66 hF67 hF68 hF69 hO70_0 hX70 hF66x70 hF67x70 hF68x70 hF69x70 hO71_0 hX71 hF66x71 hF67x71 hF68x71 hF69x71 hO70_0x71 hO72_0 hX72 hF66x72 hF67x72 hF68x72 hF69x72 hO70_0x72 hO71_0x72 hX76 hzs76 hE76 hF66x76 hF67x76 hF68x76 hF69x76 hO70_0x76 hO71_0x76 hO72_0x76 hX77 hzs77 hE77 hF66x77 hF67x77 hF68x77 hF69x77 hO70_0x77 hO71_0x77 hO72_0x77 hX78 hzs78 hE78 hF66x78 hF67x78 hF68x78 hF69x78 hO70_0x78 hO71_0x78 hO72_0x78
      rintro i2 ρ79 w79 ⟨hE79,hL79_0,hL79_1,hL79_2,hL79_3,hp79_0⟩
      have hzs79:w.heap.size≤w79.heap.size:=hE79.size
      refine wp_seq (wp_seq (wp_plain _ [0,0,0,0] rfl (lw_tv 2 rfl (q_len (v:=v70_0) u37 rfl hL79_2.isSl zN ?_))))
      by_cases hc80:((i2:Nat):Int) < (((lfR x3_0 x3_1 (a2at ds ((0:Nat):Int) ((10:Nat):Int))).length:Nat):Int)
      ·
        refine q_lss true rfl rfl (decide_eq_true hc80) zN (lw_nil (c_cond_t rfl (wp_skip (wp_seq (wp_block (wp_seq (wp_plain _ [0] rfl (lw_tvn 1 rfl (wp_seq (wp_plain _ [0] rfl (lw_tvn 1 rfl (wp_block ?_))))))))))))
        refine c_loop (S:=Nat × Int) (fun (⟨k2,by9⟩:Nat × Int)=>([(23,(.int .i64 by9)),(24,(.int .i64 ((k2:Nat):Int))),(5,v3_0),(6,v3_1),(7,(.int .i64 (a2at ds ((0:Nat):Int) ((10:Nat):Int)))),(8,(.int .i64 ((x3_0.length:Nat):Int))),(16,v70_0),(20,v72_0),(22,(.int .i64 ((i2:Nat):Int)))]:List (Nat × Value))) (fun (⟨k2,by9⟩:Nat × Int) (W:World)=>Ext w W∧Fr (owL (owL rI 2) 25) w1.heap.size w3.heap.size W.heap v3_0 x3_0∧Fr (owL rI 2) w1.heap.size w3.heap.size W.heap v3_1 x3_1∧Fr (owL (owL rI 2) 25) w65.heap.size w70.heap.size W.heap v70_0 (lfR x3_0 x3_1 (a2at ds ((0:Nat):Int) ((10:Nat):Int)))∧Fr (owL (owL rI 2) 25) w71.heap.size w72.heap.size W.heap v72_0 (lfR (dbl (x3_0.take i)) x3_1 (a2at ds ((0:Nat):Int) ((10:Nat):Int)))∧k2≤((lfR x3_0 x3_1 (a2at ds ((0:Nat):Int) ((10:Nat):Int))).getD i2 []).length∧by9 = pw2 k2∧(0≤by9∧by9 < 1000003)) (fun (⟨k2,by9⟩:Nat × Int)=>((lfR x3_0 x3_1 (a2at ds ((0:Nat):Int) ((10:Nat):Int))).getD i2 []).length - k2) (0,((1:Nat):Int)) ⟨rfl,rfl,rfl,rfl,rfl,rfl,rfl,rfl,rfl,trivial⟩ ⟨hE79,hL79_0,hL79_1,hL79_2,hL79_3,oM,(by rfl),oM⟩ ?_
        clear hL79_3 hL79_2 hL79_1 hL79_0 hE79 hzs79
        rintro ⟨k2,by9⟩ ρ81 w81 ⟨hE81,hL81_0,hL81_1,hL81_2,hL81_3,hp81_0,hby,hbr⟩
        have hzs81:w.heap.size≤w81.heap.size:=hE81.size
        refine wp_seq (wp_seq (wp_plain _ [0,0,0,0,2,0,0] rfl (lw_tv 3 rfl (q_idx (v:=v70_0) i2 u37 ti25 rfl rfl hL81_2.isSl rfl sD zN ?_))))
        obtain ⟨ue82,hl82,hd82⟩:=hL81_2.rd2.get (k:=i2) [] sD
        have hln82:=hd82.lenle
        refine q_load (p:=eptr v70_0 i2 1) (.inr rfl) ue82 one25 rfl hl82 zN (q_len (v:=ue82) u25 rfl hd82.isSl zN ?_)
        by_cases hc83:((k2:Nat):Int) < ((((lfR x3_0 x3_1 (a2at ds ((0:Nat):Int) ((10:Nat):Int))).getD i2 []).length:Nat):Int)
        ·
          refine q_lss true rfl rfl (decide_eq_true hc83) zN (lw_nil (c_cond_t rfl (wp_skip (wp_seq (wp_block (wp_seq (wp_seq (wp_draw _ [0,0,0,1,0,0,1,0,0,0,1,0,0,1,0,0,0] mixed (by kernel_rfl) ?_))))))))
          have hyl:=hL.len
          have hyd:=hL.lend
          have hr1:=hL.row i2 oM
          have hr2:=hL.rowd i2 oM
          have hnm:=isN_iff.1 (hL.num i2 k2 oM oM)
          refine lw_tv 2 rfl (q_idx (v:=v72_0) i2 u37 ti25 rfl rfl hL81_3.isSl rfl sD zN ?_)
          obtain ⟨ue84,hl84,hd84⟩:=hL81_3.rd2.get (k:=i2) [] sD
          have hln84:=hd84.lenle
          refine q_load (p:=eptr v72_0 i2 1) (.inl rfl) ue84 one25 rfl hl84 zN (lw_tv 1 rfl (q_idx (v:=ue84) k2 u25 ti2 rfl rfl hd84.isSl rfl sD zN ?_))
          refine q_load (p:=eptr ue84 k2 1) (.inl rfl) (.int .i64 (((lfR (dbl (x3_0.take i)) x3_1 (a2at ds ((0:Nat):Int) ((10:Nat):Int))).getD i2 []).getD k2 0)) one2 rfl (hd84.getI sD).1 zN (lw_tv 2 rfl ?_)
          refine q_idx (v:=v70_0) i2 u37 ti25 rfl rfl hL81_2.isSl rfl sD zN ?_
          obtain ⟨ue85,hl85,hd85⟩:=hL81_2.rd2.get (k:=i2) [] sD
          have hln85:=hd85.lenle
          refine q_load (p:=eptr v70_0 i2 1) (.inl rfl) ue85 one25 rfl hl85 zN (lw_tv 1 rfl (q_idx (v:=ue85) k2 u25 ti2 rfl rfl hd85.isSl rfl sD zN ?_))
          refine q_load (p:=eptr ue85 k2 1) (.inl rfl) (.int .i64 (((lfR x3_0 x3_1 (a2at ds ((0:Nat):Int) ((10:Nat):Int))).getD i2 []).getD k2 0)) one2 rfl (hd85.getI sD).1 zN (lw_tv 1 rfl ?_)
          refine lw_callq 20 [] [] [(.int .i64 (((lfR x3_0 x3_1 (a2at ds ((0:Nat):Int) ((10:Nat):Int))).getD i2 []).getD k2 0)),(.int .i64 by9)] rfl rfl cf20 zN (.int .i64 (md ((((lfR x3_0 x3_1 (a2at ds ((0:Nat):Int) ((10:Nat):Int))).getD i2 []).getD k2 0) * by9))) (fun wq=>c_spec_Times wq _ _ (hd85.getI sD).2 oM) ?_
          have hc87:¬ (((lfR (dbl (x3_0.take i)) x3_1 (a2at ds ((0:Nat):Int) ((10:Nat):Int))).getD i2 []).getD k2 0≠md ((((lfR x3_0 x3_1 (a2at ds ((0:Nat):Int) ((10:Nat):Int))).getD i2 []).getD k2 0) * by9)):=(fun h9=>h9 (by rw [hby]; exact hL.dbl i2 k2 oM oM))
          refine q_neq false rfl rfl (decide_eq_false hc87) zN (lw_nil (c_cond_f rfl (wp_skip (wp_plain _ [0,0,0] rfl (lw_tv 1 rfl (lw_callq 20 [] [] [(.int .i64 by9),(.int .i64 ((2:Nat):Int))] rfl rfl cf20 zN (.int .i64 (md (by9 * ((2:Nat):Int)))) (fun wq=>c_spec_Times wq _ _ oM oM) (lw_tvn 1 rfl (wp_plain _ [0,0,0] rfl (lw_tv 1 rfl (q_add ((k2 + 1:Nat):Int) rfl rfl (w64n oM sD) zN ?_))))))))))
          exact lw_tvn 1 rfl ⟨((k2 + 1),(md (by9 * ((2:Nat):Int)))),_,rfl,⟨rfl,rfl,rfl,rfl,rfl,rfl,rfl,rfl,rfl,trivial⟩,⟨hE81.drew,hL81_0,hL81_1,hL81_2,hL81_3,oM,(by rw [hby]; rfl),(by exact md_num _)⟩,by first | omega | (dsimp only; omega)⟩
        ·
          refine q_lss false rfl rfl (decide_eq_false hc83) zN (lw_nil (c_cond_f rfl (wp_exit (t_exit (t_exit (c_exit_here (wp_plain _ [0,0,0] rfl ?_)))))))
          have hyl:=hL.len
          exact lw_tv 1 rfl (q_add ((i2 + 1:Nat):Int) rfl rfl (w64n oM sD) zN (lw_tvn 1 rfl ⟨(i2 + 1),_,rfl,⟨rfl,rfl,rfl,rfl,rfl,rfl,rfl,trivial⟩,⟨hE81,hL81_0,hL81_1,hL81_2,hL81_3,oM⟩,by first | omega | (dsimp only; omega)⟩))
      ·
        refine q_lss false rfl rfl (decide_eq_false hc80) zN (lw_nil (c_cond_f rfl (wp_exit (t_exit (t_exit (c_exit_here (wp_seq (wp_seq (wp_plain _ [0,0] rfl (lw_tv 1 rfl ?_))))))))))
        by_cases hc89:((1:Nat):Int) < ((x3_0.length:Nat):Int)
        ·
          exact q_gtr true rfl rfl (decide_eq_true hc89) zN (lw_nil (c_cond_t rfl (wp_seq (wp_plain _ [0] rfl (lw_tvn 1 rfl (wp_ret (t_ret (post_ret [4] rfl (.bool true) rfl ⟨z4_1,hE79⟩))))))))
        ·
          refine q_gtr false rfl rfl (decide_eq_false hc89) zN (lw_nil (c_cond_f rfl (wp_skip (wp_seq (wp_draw _ [0,0,3,0,0,1,0,1,3,0] mixed (by kernel_rfl) ?_)))))
          have hr0:=hsq.row 0 oM
          have hyl:=hL.len
          refine lw_tv 1 rfl (q_add ((a2at ds ((0:Nat):Int) ((10:Nat):Int)) + ((1:Nat):Int)) rfl rfl (w64e rfl oM oM) zN (lw_call 21 [] [] [(.int .i64 ((a2at ds ((0:Nat):Int) ((10:Nat):Int)) + ((1:Nat):Int))),(.int .i64 ((1:Nat):Int))] rfl rfl cf21 zN (c_laws_a2Unit _ _ _ oM oM oM (by rfl)) ?_))
          rintro e90 w90 ⟨v90_0,rfl,hX90,hO90_0⟩
          refine ⟨_,rfl,hX90,?_⟩
          replace hX90:=hX90.of_drew
          have hzs90:w79.heap.size≤w90.heap.size:=hX90.size
          have hE90:Ext w w90:=hE79.trans hX90
          have hL79_0x90:=hL79_0.ext (o2) hX90
          have hL79_1x90:=hL79_1.ext (o1) hX90
          have hL79_2x90:=hL79_2.ext (o2) hX90
          replace hO90_0:=hO90_0.low (B':=w79.heap.size) (Nat.le_refl _)
          refine lw_tv 1 rfl (q_idx (v:=v3_0) 0 u37 ti25 rfl rfl hL79_0x90.isSl rfl sD zN ?_)
          obtain ⟨ue91,hl91,hd91⟩:=hL79_0.rd2.get (k:=0) [] sD
          have hln91:=hd91.lenle
          refine q_load (p:=eptr v3_0 0 1) (.inl rfl) ue91 one25 rfl hl91 zN (q_idx (v:=ue91) 0 u25 ti2 rfl rfl hd91.isSl rfl sD zN ?_)
          refine q_load (p:=eptr ue91 0 1) (.inl rfl) (.int .i64 ((x3_0.getD 0 []).getD 0 0)) one2 rfl (hd91.getI sD).1 zN ?_
          refine lw_call 15 [] [] [v90_0,(.int .i64 ((x3_0.getD 0 []).getD 0 0))] rfl rfl cf15 zN (c_laws_a2Scale _ _ _ _ hO90_0.rd1 (hd91.getI sD).2 (by rw [unT_len]; omega)) ?_
          rintro e92 w92 ⟨v92_0,rfl,hX92,hO92_0⟩
          refine ⟨_,rfl,hX92,?_⟩
          have hzs92:w90.heap.size≤w92.heap.size:=hX92.size
          have hE92:Ext w w92:=hE90.trans hX92
          have hL79_1x92:=hL79_1x90.ext (o1) hX92
          have hL79_2x92:=hL79_2x90.ext (o2) hX92
          refine lw_tvn 1 rfl (wp_seq (wp_plain _ [0,3,0,0,0,0,0] rfl (lw_tv 1 rfl (lw_call 22 [] [] [v92_0] rfl rfl cf22 zN (c_impl_ExpSeries _ _ _ hO92_0.rd1 (by exact (lx_t hoo2).1) (by exact (lx_t hoo2).2)) ?_))))
          rintro e93 w93 ⟨v93_0,rfl,hX93,hO93_0⟩
          refine ⟨_,rfl,hX93,?_⟩
          have hzs93:w92.heap.size≤w93.heap.size:=hX93.size
          have hE93:Ext w w93:=hE92.trans hX93
          have hL79_1x93:=hL79_1x92.ext (o1) hX93
          have hL79_2x93:=hL79_2x92.ext (o2) hX93
          refine lw_tv 1 rfl (q_extract (vs:=[v93_0,(.int .i64 0)]) v93_0 rfl rfl zN (q_extract (vs:=[v93_0,(.int .i64 0)]) (.int .i64 0) rfl rfl zN (lw_tvn 2 rfl (wp_seq (wp_draw _ [0,0,0,0,0,0,1,3,0,0,1,3,0,0] mixed (by kernel_rfl) ?_)))))
          have hyl:=hL.len
          have hr0:=hL.row 0 oM
          refine lw_tv 1 rfl ?_
          by_cases hc94:0 = ((0:Nat):Int)
          ·
            refine q_eql true rfl rfl (decide_eq_true hc94) zN (lw_tv 3 rfl (q_idx (v:=v3_1) 0 u25 ti2 rfl rfl hL79_1x93.isSl rfl sD (zS (e:=191) rfl rfl rfl) ?_))
            refine q_load (p:=eptr v3_1 0 1) (.inl rfl) (.int .i64 (x3_1.getD 0 0)) one2 rfl (hL79_1x93.rd1.getI sD).1 (zS (e:=191) rfl rfl rfl) ?_
            refine lw_call 15 [] [] [v93_0,(.int .i64 (x3_1.getD 0 0))] rfl rfl cf15 (zS (e:=191) rfl rfl rfl) (c_laws_a2Scale _ _ _ _ hO93_0.rd1 (hL79_1x93.rd1.getI sD).2 (by rw [exT_len,scl_len,unT_len]; omega)) ?_
            rintro e95 w95 ⟨v95_0,rfl,hX95,hO95_0⟩
            refine ⟨_,rfl,hX95,?_⟩
            replace hX95:=hX95.of_drew
            have hzs95:w93.heap.size≤w95.heap.size:=hX95.size
            have hE95:Ext w w95:=hE93.trans hX95
            have hL79_2x95:=hL79_2x93.ext (o2) hX95
            replace hO95_0:=hO95_0.low (B':=w93.heap.size) (Nat.le_refl _)
            refine lw_tv 1 rfl (q_idx (v:=v70_0) 0 u37 ti25 rfl rfl hL79_2x95.isSl rfl sD (zS (e:=191) rfl rfl rfl) ?_)
            obtain ⟨ue96,hl96,hd96⟩:=hL79_2x93.rd2.get (k:=0) [] sD
            have hln96:=hd96.lenle
            refine q_load (p:=eptr v70_0 0 1) (.inl rfl) ue96 one25 rfl hl96 (zS (e:=191) rfl rfl rfl) ?_
            have hk97:=hd96.ext g1 hX95
            refine lw_call 23 [] [] [v95_0,ue96] rfl rfl cf23 (zS (e:=191) rfl rfl rfl) (c_laws_a2Same _ _ _ _ _ hO95_0.rd1 hk97) ?_
            rintro e98 w98 ⟨rfl,hX98⟩
            refine ⟨_,rfl,hX98,?_⟩
            have hzs98:w95.heap.size≤w98.heap.size:=hX98.size
            have hE98:Ext w w98:=hE95.trans hX98
            have hk97x98:=hk97.ext g1 hX98
            rw [show (decide ((scl (exT (scl (unT ((a2at ds ((0:Nat):Int) ((10:Nat):Int)) + ((1:Nat):Int)).toNat) ((x3_0.getD 0 []).getD 0 0)) ((scl (unT ((a2at ds ((0:Nat):Int) ((10:Nat):Int)) + ((1:Nat):Int)).toNat) ((x3_0.getD 0 []).getD 0 0)).length - 1)) (x3_1.getD 0 0)) = ((lfR x3_0 x3_1 (a2at ds ((0:Nat):Int) ((10:Nat):Int))).getD 0 []))) = true from (decide_eq_true (lx_exp oM hsq hbl hbn hoo2 rfl rfl))]
            exact lw_tvn 2 rfl (wp_ret (post_ret [4] rfl (.bool true) rfl ⟨z4_1,hE98⟩))
          ·
            exact q_eql false rfl rfl (decide_eq_false hc94) zN (lw_tvn 12 rfl (wp_ret (post_ret [4] rfl (.bool false) rfl ⟨z4_1,hE93.drew⟩)))
  ·
    exact c_cond_t (by first | rfl | (show Value.bool _ = _; rw [hb2])) (wp_seq (wp_plain _ [0] rfl (lw_tvn 1 rfl (wp_ret (t_ret (post_ret [4] rfl (.bool true) rfl ⟨z4_1,hE1⟩))))))
end Go.Proofs.Ytemfgblmfahllaa
