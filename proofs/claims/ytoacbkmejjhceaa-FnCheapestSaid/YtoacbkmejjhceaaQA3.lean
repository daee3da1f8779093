/- Uo, Iy, Up, Ka, Kb, Kc, Kd, Ke, Kf, Kg, Wa, Wb, Kh, Wc: texts of this claim, joined; what the claim does not come to is left out. -/
import Derived.Test.YtoacbkmejjhceaaQA2
import Derived.Test.YtoacbkmejjhceaaProg
import Derived.Laws.CopyRow
import Derived.DeepKeys3
set_option linter.unusedVariables false
set_option linter.unusedSimpArgs false
namespace Go.Proofs.Ytoacbkmejjhceaa
open Go Go.RowKit
set_option linter.unusedVariables false
set_option linter.unusedSimpArgs false
set_option maxHeartbeats 4000000
set_option maxRecDepth 100000
attribute [local irreducible] LW
theorem zq18_0 {p:Prop} (h:p:=by rw [hyb]; first | omega | (simp only [List.length_nil,List.length_append,List.length_take,List.length_drop,List.length_set,List.length_cons]; omega)):p:=h
theorem zq18_1 {p:Prop} (h:p:=by unfold maxLen; simp only [List.length_nil,List.length_append,List.length_take,List.length_drop]; omega):p:=h
theorem zq18_2 {p:Prop} (h:p:=by simp only [List.length_nil,List.length_append,List.length_take,List.length_drop]; omega):p:=h
theorem zq18_3 {p:Prop} (h:p:=by simp only [List.map_toArray,List.map_cons,List.map_nil]; rfl):p:=h
theorem zq18_4 {p:Prop} (h:p:=by decide):p:=h
theorem c_spec_l06SpoilList (w:World) (g:Nat) (sv:Value) (cs:List UInt8) (n0:Nat) (va:Value) (l:List Av) (hs:SrQ w.heap g sv cs n0) (hn0:n0 + 1000≤1000000000000000000) (hl:RN [g] (rdS 2 rAv) w.heap va l) (hll:l.length≤400) :
    Calls Try.prog 18 #[.pointer (some ⟨g,0,none⟩),va] w (fun e w'=>∃ (v0:Value) (x0:List Av) (n1:Nat),e = .returned (v0)∧Chg [g] w w'∧SrQ w'.heap g sv cs n1∧(n0≤n1∧n1≤n0 + 1000)∧Fr (owS 2 rAv 56) w.heap.size w'.heap.size w'.heap v0 x0∧(x0.length≤1000)):=by
  refine calls_mk [.pointer (some ⟨g,0,none⟩),va] 89 Try.func18 rfl rfl sM ?_
  have hE0:Chg [g] w w:=Chg.refl [g] w
  have hgl:=hs.lt
  refine wp_seq (wp_plain _ [0] rfl (lw_tvn 1 rfl (wp_seq (wp_plain _ [3,0,4,0] rfl (r_nilS (α:=Av) good_hBv u24 tiS56 zN fun v1 w1 hX1 hz1 hO1=>?_)))))
  have hzs1:w.heap.size≤w1.heap.size:=hX1.size
  have hE1:Chg [g] w w1:=hE0.ext hX1
  have hsx1:=hs.ext hX1
  refine lw_tv 1 rfl (e_appA (v:=v1) (a:=va) (ys:=l) good_hBv flN_b u24 tiS56 rfl zq18_4 rfl rfl hO1 oM (RN.rb (hl.chg (good_rdS good_rAv) hE1)) zq18_2 zq18_1 zN fun v2 w2 F2 hC2 hF2 hO2=>?_)
  have hzs2:w1.heap.size≤w2.heap.size:=hC2.size
  have hE2:Chg [g] w w2:=hE1.fresh hC2 (fun c hc=>by have:=hF2 _ hc; omega)
  have hF3:=hsx1.chg hC2 (fun c hc=>by have:=hF2 _ hc; omega)
  refine lw_tvn 1 rfl (wp_seq (wp_seq (wp_plain _ [0,0,0,0,0,4,0] rfl ?_)))
  have hnl:(([]:List Av)++l).length = l.length:=rfl
  refine lw_tv 1 rfl (q_len (v:=v2) u24 rfl hO2.isSlS zN ?_)
  by_cases hc4:(((([]:List Av)++l).length:Nat):Int) = ((0:Nat):Int)
  ·
    refine q_eql true rfl rfl (decide_eq_true hc4) zN (lw_tvn 4 rfl (c_cond_t rfl (wp_seq (wp_plain _ [0,0,4,0,0,4,0,3,4,0] rfl (lw_tv 2 rfl (lw_callE 14 [] [] [(.pointer (some ⟨g,0,none⟩)),(.int .i64 ((4:Nat):Int))] rfl rfl cf14 zN (cq_spec_l00Src_pick _ g _ _ _ (((4:Nat):Int)) hF3 oM oM oM) ?_))))))
    rintro e5 w5 ⟨x5_0,n5,rfl,hC5,hs5,hb5,hp5_0⟩
    refine ⟨_,rfl,?_⟩
    have hzs5:w2.heap.size≤w5.heap.size:=hC5.size
    have hE5:Chg [g] w w5:=hE2.trans hC5
    have hF6:=hO2.chg ((good_owS good_hBv)) hC5 (fun c hc=>by have:=List.mem_singleton.1 hc; omega)
    have hpf5:=pk_fact hp5_0
    refine q_add (((1:Nat):Int) + x5_0) rfl rfl (w64 sD sD) zN (lw_tv 1 rfl ?_)
    refine lw_callE 14 [] [] [(.pointer (some ⟨g,0,none⟩)),(.int .i64 ((3:Nat):Int))] rfl rfl cf14 zN (cq_spec_l00Src_pick _ g _ _ _ (((3:Nat):Int)) hs5 oM oM oM) ?_
    rintro e7 w7 ⟨x7_0,n7,rfl,hC7,hs7,hb7,hp7_0⟩
    refine ⟨_,rfl,?_⟩
    have hzs7:w5.heap.size≤w7.heap.size:=hC7.size
    have hE7:Chg [g] w w7:=hE5.trans hC7
    have hF8:=hF6.chg ((good_owS good_hBv)) hC7 (fun c hc=>by have:=List.mem_singleton.1 hc; omega)
    have hpf7:=pk_fact hp7_0
    have hbd9:∀ (wq:World),(Instr.build 56 #[(0,(.int .i64 (((1:Nat):Int) + x5_0))),(1,(.int .i64 x7_0))]).run Try.prog wq = .ok (.agg #[(.int .i64 (((1:Nat):Int) + x5_0)),(.int .i64 x7_0)]) wq:=by intro wq; kernel_rfl
    refine q_build (ps:=#[(0,(.int .i64 (((1:Nat):Int) + x5_0))),(1,(.int .i64 x7_0))]) (.agg #[(.int .i64 (((1:Nat):Int) + x5_0)),(.int .i64 x7_0)]) zq18_3 (fun wq=>hbd9  wq) zN (r_oneS (cs:=[(.int .i64 (((1:Nat):Int) + x5_0)),(.int .i64 x7_0)]) (y:=Av.zero) (B:=w7.heap.size) (U:=w7.heap.size) good_hBv u24 tiS56 rfl zq18_4 rfl (hBv_mk oM oM) oM zN fun v10 w10 hX10 hz10 hO10=>?_)
    have hzs10:w7.heap.size≤w10.heap.size:=hX10.size
    have hE10:Chg [g] w w10:=hE7.ext hX10
    have hs7x10:=hs7.ext hX10
    have hF8x10:=hF8.ext ((good_owS good_hBv)) hX10
    refine e_appS (v:=v2) (a:=v10) good_hBv u24 tiS56 rfl zq18_4 rfl rfl hF8x10 oM hO10 oM oM oM (by unfold maxLen; omega) zN fun v11 w11 F11 hC11 hF11 hO11=>?_
    have hzs11:w10.heap.size≤w11.heap.size:=hC11.size
    have hE11:Chg [g] w w11:=hE10.fresh hC11 (fun c hc=>by have:=hF11 _ hc; omega)
    have hF12:=hs7x10.chg hC11 (fun c hc=>by have:=hF11 _ hc; omega)
    refine lw_tvn 1 rfl (wp_ret (t_ret ?_))
    obtain ⟨yb,hyb,hyf⟩:=hBv_out hO11
    exact post_ret [4] rfl v11 rfl ⟨v11,yb,n7,rfl,hE11,hF12,⟨by omega,by omega⟩,((hyf.up (good_owS good_rAv)).low (B':=w.heap.size) oM),zq18_0⟩
  ·
    refine q_eql false rfl rfl (decide_eq_false hc4) zN (lw_tv 2 rfl (lw_callE 15 [] [] [(.pointer (some ⟨g,0,none⟩)),(.int .i64 ((6:Nat):Int))] rfl rfl cf15 (zS (e:=13) rfl rfl rfl) (cq_spec_l00Src_one _ g _ _ _ (((6:Nat):Int)) hF3 oM oM oM) ?_))
    rintro e13 w13 ⟨x13_0,n13,rfl,hC13,hs13,hb13,hp13_0⟩
    refine ⟨_,rfl,?_⟩
    have hzs13:w2.heap.size≤w13.heap.size:=hC13.size
    have hE13:Chg [g] w w13:=hE2.trans hC13
    have hF14:=hO2.chg ((good_owS good_hBv)) hC13 (fun c hc=>by have:=List.mem_singleton.1 hc; omega)
    have hpf13:=pk_one hp13_0 ⟨by decide,by decide⟩
    refine lw_tvn 1 rfl ?_
    cases hb15:x13_0
    ·
      refine c_cond_f (by first | rfl | (show Value.bool _ = _; rw [hb15])) (wp_skip (wp_seq (wp_plain _ [0,0,0,4,0] rfl (lw_tv 2 rfl (q_len (v:=v2) u24 rfl hF14.isSlS zN (lw_callE 14 [] [] [(.pointer (some ⟨g,0,none⟩)),(.int .i64 (((([]:List Av)++l).length:Nat):Int))] rfl rfl cf14 zN (cq_spec_l00Src_pick _ g _ _ _ ((((([]:List Av)++l).length:Nat):Int)) hs13 oM oM oM) ?_))))))
      rintro e16 w16 ⟨x16_0,n16,rfl,hC16,hs16,hb16,hp16_0⟩
      refine ⟨_,rfl,?_⟩
      have hzs16:w13.heap.size≤w16.heap.size:=hC16.size
      have hE16:Chg [g] w w16:=hE13.trans hC16
      have hF17:=hF14.chg ((good_owS good_hBv)) hC16 (fun c hc=>by have:=List.mem_singleton.1 hc; omega)
      have hpf16:=pk_fact hp16_0
      refine lw_tvn 1 rfl (wp_seq (wp_seq (wp_plain _ [0,4] rfl (lw_tv 1 rfl (lw_callE 14 [] [] [(.pointer (some ⟨g,0,none⟩)),(.int .i64 ((6:Nat):Int))] rfl rfl cf14 zN (cq_spec_l00Src_pick _ g _ _ _ (((6:Nat):Int)) hs16 oM oM oM) ?_)))))
      rintro e18 w18 ⟨x18_0,n18,rfl,hC18,hs18,hb18,hp18_0⟩
      refine ⟨_,rfl,?_⟩
      have hzs18:w16.heap.size≤w18.heap.size:=hC18.size
      have hE18:Chg [g] w w18:=hE16.trans hC18
      have hF19:=hF17.chg ((good_owS good_hBv)) hC18 (fun c hc=>by have:=List.mem_singleton.1 hc; omega)
      have hpf18:=pk_fact hp18_0
      refine lw_nil (wp_block (wp_seq (wp_plain _ [0,0] rfl ?_)))
      by_cases hc20:x18_0 = ((0:Nat):Int)
      ·
        refine q_eql true rfl rfl (decide_eq_true hc20) zN (lw_tvn 1 rfl (c_cond_t rfl (wp_draw _ [3,0,0,0,4,0,0,0,0,4,0] mixed (by kernel_rfl) ?_)))
        have hdr21:w18.drew.heap.size = w18.heap.size:=rfl
        refine r_nilS (α:=Av) good_hBv u24 tiS56 zN fun v22 w22 hX22 hz22 hO22=>?_
        replace hX22:=hX22.of_drew
        have hzs22:w18.heap.size≤w22.heap.size:=hX22.size
        have hE22:Chg [g] w w22:=hE18.ext hX22
        have hs18x22:=hs18.ext hX22
        have hF19x22:=hF19.ext ((good_owS good_hBv)) hX22
        refine lw_tv 2 rfl ?_
        have hlt23:(x16_0).toNat≤(([]:List Av)++l).length:=by omega
        refine q_pref (v:=v2) (k:=(x16_0).toNat) u24 tiS56 rfl hF19x22.isSlS (RN.of_frB (S:=[]) hF19x22 (fun b hb=>by cases hb)).capS (i64_nn oM) hlt23 zN (e_appA (v:=v22) (a:=(prefV v2 ((x16_0).toNat))) (ys:=(([]:List Av)++l).take ((x16_0).toNat)) good_hBv flN_b u24 tiS56 rfl zq18_4 rfl rfl hO22 oM (RN.pref good_hBv (RN.of_frB (S:=[]) hF19x22 (fun b hb=>by cases hb)) hlt23) zq18_2 zq18_1 zN fun v24 w24 F24 hC24 hF24 hO24=>?_)
        have hzs24:w22.heap.size≤w24.heap.size:=hC24.size
        have hE24:Chg [g] w w24:=hE22.fresh hC24 (fun c hc=>by have:=hF24 _ hc; omega)
        have hF25:=hs18x22.chg hC24 (fun c hc=>by have:=hF24 _ hc; omega)
        have hF26:=hF19x22.chg ((good_owS good_hBv)) hC24 (fun c hc=>by have:=hF24 _ hc; omega)
        refine lw_tv 2 rfl (q_add (x16_0 + ((1:Nat):Int)) rfl rfl (w64 sD sD) zN ?_)
        have hlt27:(x16_0 + ((1:Nat):Int)).toNat≤(([]:List Av)++l).length:=by omega
        refine q_sufS (v:=v2) (k:=(x16_0 + ((1:Nat):Int)).toNat) u24 tiS56 zq18_4 rfl hF26.isSlS (RN.of_frB (S:=[]) hF26 (fun b hb=>by cases hb)).capS (i64_nn oM) hlt27 zN (e_appA (v:=v24) (a:=(sufS 2 v2 ((x16_0 + ((1:Nat):Int)).toNat))) (ys:=(([]:List Av)++l).drop ((x16_0 + ((1:Nat):Int)).toNat)) good_hBv flN_b u24 tiS56 rfl zq18_4 rfl rfl hO24 oM (rn_sufS good_hBv zq18_4 (RN.of_frB (S:=[]) hF26 (fun b hb=>by cases hb)) hlt27) zq18_2 zq18_1 zN fun v28 w28 F28 hC28 hF28 hO28=>?_)
        have hzs28:w24.heap.size≤w28.heap.size:=hC28.size
        have hE28:Chg [g] w w28:=hE24.fresh hC28 (fun c hc=>by have:=hF28 _ hc; omega)
        have hF29:=hF25.chg hC28 (fun c hc=>by have:=hF28 _ hc; omega)
        refine lw_tvn 1 rfl (wp_seq (wp_plain _ [0,0] rfl (lw_tvn 2 rfl (wp_ret ?_))))
        obtain ⟨yb,hyb,hyf⟩:=hBv_out hO28
        exact post_ret [4] rfl v28 rfl ⟨v28,yb,n18,rfl,hE28,hF29,⟨by omega,by omega⟩,((hyf.up (good_owS good_rAv)).low (B':=w.heap.size) oM),zq18_0⟩
      ·
        refine q_eql false rfl rfl (decide_eq_false hc20) zN (lw_tvn 1 rfl (c_cond_f rfl (wp_seq (wp_plain _ [0,0] rfl ?_))))
        by_cases hc31:x18_0 = ((1:Nat):Int)
        ·
          refine q_eql true rfl rfl (decide_eq_true hc31) zN (lw_tvn 1 rfl (c_cond_t rfl (wp_plain _ [0,0,0,3,4,0,0,4] rfl (lw_tv 3 rfl (r_ints (n:=8) (us:=[(-1),((0:Nat):Int),((1:Nat):Int),((2:Nat):Int),((7:Nat):Int),((8:Nat):Int),((40:Nat):Int),((41:Nat):Int)]) u25 ti2 zq18_3 rfl zq18_4 (by intro x hx; simp only [List.mem_cons,List.not_mem_nil,or_false] at hx; unfold i64; omega) (bs8 u25 ti2 rfl) zN fun v32 w32 hX32 hz32 hO32=>?_)))))
          have hzs32:w18.heap.size≤w32.heap.size:=hX32.size
          have hE32:Chg [g] w w32:=hE18.ext hX32
          have hs18x32:=hs18.ext hX32
          have hF19x32:=hF19.ext ((good_owS good_hBv)) hX32
          refine lw_callE 16 [] [] [(.pointer (some ⟨g,0,none⟩)),v32] rfl rfl cf16 zN (cq_spec_l00Src_among _ g _ _ _ v32 _ hs18x32 oM (fun w9 h9=>(hO32.chg o1 h9 (fun c hc=>by have:=List.mem_singleton.1 hc; omega)).rd1) (by exact ⟨by decide,by decide⟩)) ?_
          rintro e33 w33 ⟨x33_0,n33,rfl,hC33,hs33,hb33,hp33_0⟩
          refine ⟨_,rfl,?_⟩
          have hzs33:w32.heap.size≤w33.heap.size:=hC33.size
          have hE33:Chg [g] w w33:=hE32.trans hC33
          have hF34:=hF19x32.chg ((good_owS good_hBv)) hC33 (fun c hc=>by have:=List.mem_singleton.1 hc; omega)
          have hmi33:=mem_i8 hp33_0.1
          refine q_idx (v:=v2) ((x16_0).toNat) u24 tiS56 rfl rfl hF34.isSlS oM sD zN ?_
          obtain ⟨gb36,ob36,hpb36⟩:=owS.isPtr (k:=(x16_0).toNat) hF34.choose_spec.1 sD
          refine q_fldP (p:=eptr v2 ((x16_0).toNat) 2) (b:=gb36) (o:=ob36) 1 fd56_1 rfl hpb36 zN (e_setCF (v:=v2) (k:=((x16_0).toNat)) (c:=1) good_hBv sz2 rfl rfl ⟨rfl,rfl⟩ hF34 sD zq18_4 (fun h=>hBv_set1 oM h) zN fun w37 F37 hC37 hz37 hF37 hO37=>?_)
          have hzs37:w33.heap.size≤w37.heap.size:=hC37.size
          have hE37:Chg [g] w w37:=hE33.fresh hC37 (fun c hc=>by have:=hF37 _ hc; omega)
          have hF38:=hs33.chg hC37 (fun c hc=>by have:=hF37 _ hc; omega)
          refine lw_nil (wp_seq (wp_plain _ [0,0] rfl (lw_tvn 2 rfl (wp_ret ?_))))
          obtain ⟨yb,hyb,hyf⟩:=hBv_out hO37
          exact post_ret [4] rfl v2 rfl ⟨v2,yb,n33,rfl,hE37,hF38,⟨by omega,by omega⟩,((hyf.up (good_owS good_rAv)).low (B':=w.heap.size) oM),zq18_0⟩
        ·
          refine q_eql false rfl rfl (decide_eq_false hc31) zN (lw_tvn 1 rfl (c_cond_f rfl (wp_seq (wp_plain _ [0,0] rfl ?_))))
          by_cases hc40:x18_0 = ((2:Nat):Int)
          ·
            refine q_eql true rfl rfl (decide_eq_true hc40) zN (lw_tvn 1 rfl (c_cond_t rfl (wp_plain _ [0,0,0,4,0,0,0,4] rfl (lw_tv 3 rfl (lw_callE 14 [] [] [(.pointer (some ⟨g,0,none⟩)),(.int .i64 ((7:Nat):Int))] rfl rfl cf14 zN (cq_spec_l00Src_pick _ g _ _ _ (((7:Nat):Int)) hs18 oM oM oM) ?_)))))
            rintro e41 w41 ⟨x41_0,n41,rfl,hC41,hs41,hb41,hp41_0⟩
            refine ⟨_,rfl,?_⟩
            have hzs41:w18.heap.size≤w41.heap.size:=hC41.size
            have hE41:Chg [g] w w41:=hE18.trans hC41
            have hF42:=hF19.chg ((good_owS good_hBv)) hC41 (fun c hc=>by have:=List.mem_singleton.1 hc; omega)
            have hpf41:=pk_fact hp41_0
            refine q_sub (x41_0 - ((1:Nat):Int)) rfl rfl (w64 sD sD) zN ?_
            refine q_idx (v:=v2) ((x16_0).toNat) u24 tiS56 rfl rfl hF42.isSlS oM sD zN ?_
            obtain ⟨gb43,ob43,hpb43⟩:=owS.isPtr (k:=(x16_0).toNat) hF42.choose_spec.1 sD
            refine q_fldP (p:=eptr v2 ((x16_0).toNat) 2) (b:=gb43) (o:=ob43) 0 fd56_0 rfl hpb43 zN (e_setCF (v:=v2) (k:=((x16_0).toNat)) (c:=0) good_hBv sz2 rfl rfl ⟨rfl,rfl⟩ hF42 sD zq18_4 (fun h=>hBv_set0 oM h) zN fun w44 F44 hC44 hz44 hF44 hO44=>?_)
            have hzs44:w41.heap.size≤w44.heap.size:=hC44.size
            have hE44:Chg [g] w w44:=hE41.fresh hC44 (fun c hc=>by have:=hF44 _ hc; omega)
            have hF45:=hs41.chg hC44 (fun c hc=>by have:=hF44 _ hc; omega)
            refine lw_nil (wp_seq (wp_plain _ [0,0] rfl (lw_tvn 2 rfl (wp_ret ?_))))
            obtain ⟨yb,hyb,hyf⟩:=hBv_out hO44
            exact post_ret [4] rfl v2 rfl ⟨v2,yb,n41,rfl,hE44,hF45,⟨by omega,by omega⟩,((hyf.up (good_owS good_rAv)).low (B':=w.heap.size) oM),zq18_0⟩
          ·
            refine q_eql false rfl rfl (decide_eq_false hc40) zN (lw_tvn 1 rfl (c_cond_f rfl (wp_seq (wp_plain _ [0,0] rfl ?_))))
            by_cases hc46:x18_0 = ((3:Nat):Int)
            ·
              refine q_eql true rfl rfl (decide_eq_true hc46) zN (lw_tvn 1 rfl (c_cond_t rfl (wp_plain _ [0,0,0,4,0,0,0,4] rfl (lw_tv 3 rfl (lw_callE 14 [] [] [(.pointer (some ⟨g,0,none⟩)),(.int .i64 ((4:Nat):Int))] rfl rfl cf14 zN (cq_spec_l00Src_pick _ g _ _ _ (((4:Nat):Int)) hs18 oM oM oM) ?_)))))
              rintro e47 w47 ⟨x47_0,n47,rfl,hC47,hs47,hb47,hp47_0⟩
              refine ⟨_,rfl,?_⟩
              have hzs47:w18.heap.size≤w47.heap.size:=hC47.size
              have hE47:Chg [g] w w47:=hE18.trans hC47
              have hF48:=hF19.chg ((good_owS good_hBv)) hC47 (fun c hc=>by have:=List.mem_singleton.1 hc; omega)
              have hpf47:=pk_fact hp47_0
              refine q_add (((1:Nat):Int) + x47_0) rfl rfl (w64 sD sD) zN ?_
              have hbd49:∀ (wq:World),(Instr.build 56 #[(0,(.int .i64 (((1:Nat):Int) + x47_0)))]).run Try.prog wq = .ok (.agg #[(.int .i64 (((1:Nat):Int) + x47_0)),(.int .i64 0)]) wq:=by intro wq; kernel_rfl
              refine q_build (ps:=#[(0,(.int .i64 (((1:Nat):Int) + x47_0)))]) (.agg #[(.int .i64 (((1:Nat):Int) + x47_0)),(.int .i64 0)]) zq18_3 (fun wq=>hbd49  wq) zN (q_idx (v:=v2) ((x16_0).toNat) u24 tiS56 rfl rfl hF48.isSlS oM sD zN ?_)
              refine e_setS (v:=v2) (cs:=[(.int .i64 (((1:Nat):Int) + x47_0)),(.int .i64 0)]) (n:=Av.zero) (j:=((x16_0).toNat)) (B':=w2.heap.size) (U':=w2.heap.size) good_hBv agg56 rfl rfl hF48 (hBv_mk (B:=w2.heap.size) (U:=w2.heap.size) oM oM) (Nat.le_refl _) oM sD zN fun w50 F50 hC50 hz50 hF50 hO50=>?_
              have hzs50:w47.heap.size≤w50.heap.size:=hC50.size
              have hE50:Chg [g] w w50:=hE47.fresh hC50 (fun c hc=>by have:=hF50 _ hc; omega)
              have hF51:=hs47.chg hC50 (fun c hc=>by have:=hF50 _ hc; omega)
              refine lw_nil (wp_seq (wp_plain _ [0,0] rfl (lw_tvn 2 rfl (wp_ret ?_))))
              obtain ⟨yb,hyb,hyf⟩:=hBv_out hO50
              exact post_ret [4] rfl v2 rfl ⟨v2,yb,n47,rfl,hE50,hF51,⟨by omega,by omega⟩,((hyf.up (good_owS good_rAv)).low (B':=w.heap.size) oM),zq18_0⟩
            ·
              refine q_eql false rfl rfl (decide_eq_false hc46) zN (lw_tvn 1 rfl (c_cond_f rfl (wp_seq (wp_plain _ [0,0] rfl ?_))))
              by_cases hc52:x18_0 = ((4:Nat):Int)
              ·
                refine q_eql true rfl rfl (decide_eq_true hc52) zN (lw_tvn 1 rfl (c_cond_t rfl (wp_block (c_loop (S:=Nat × Value × List Av) (fun (⟨m,vo,xs⟩:Nat × Value × List Av)=>([(5,vo),(0,(.pointer (some ⟨g,0,none⟩)))]:List (Nat × Value))) (fun (⟨m,vo,xs⟩:Nat × Value × List Av) (W:World)=>Chg [g] w W∧Fr (owS 2 hBv 56) w.heap.size W.heap.size W.heap vo xs∧SrQ W.heap g sv cs m∧xs.length≤401∧(n0≤m∧m≤n0 + 12 + 2 * xs.length)) (fun (⟨m,vo,xs⟩:Nat × Value × List Av)=>402 - xs.length) (n18,v2,(([]:List Av)++l)) ⟨rfl,rfl,trivial⟩ ⟨hE18,hF19.up (good_owS good_hBv),hs18,oM,oM⟩ ?_))))
                clear hE0 hO1 hz1 hX1 hzs1 hE1 hO2 hF2 hC2 hzs2 hE2 hF3 hC13 hzs13 hE13 hF14 hC16 hzs16 hE16 hF17 hC18 hzs18 hE18 hF19
                rintro ⟨m,vo,xs⟩ ρ53 w53 ⟨hE53,hL53_0,hL53_1,hp53_0,hml⟩
                have hzs53:w.heap.size≤w53.heap.size:=hE53.size
                refine wp_seq (wp_seq (wp_plain _ [0,0,0,4,0,0] rfl (lw_tv 1 rfl (q_len (v:=vo) u24 rfl hL53_0.isSlS zN (lw_tv 1 rfl (lw_callE 14 [] [] [(.pointer (some ⟨g,0,none⟩)),(.int .i64 ((2:Nat):Int))] rfl rfl cf14 zN (cq_spec_l00Src_pick _ g _ _ _ (((2:Nat):Int)) hL53_1 oM oM oM) ?_))))))
                rintro e54 w54 ⟨x54_0,n54,rfl,hC54,hs54,hb54,hp54_0⟩
                refine ⟨_,rfl,?_⟩
                have hzs54:w53.heap.size≤w54.heap.size:=hC54.size
                have hE54:Chg [g] w w54:=hE53.trans hC54
                have hF55:=hL53_0.chg ((good_owS good_hBv)) hC54 (fun c hc=>by have:=List.mem_singleton.1 hc; omega)
                have hpf54:=pk_fact hp54_0
                refine q_add (((400:Nat):Int) + x54_0) rfl rfl (w64 sD sD) zN ?_
                by_cases hc56:((xs.length:Nat):Int) < ((400:Nat):Int) + x54_0
                ·
                  refine q_lss true rfl rfl (decide_eq_true hc56) zN (lw_nil (c_cond_t rfl (wp_skip (wp_block (wp_plain _ [0,0,3,4,0] rfl (lw_tv 1 rfl ?_))))))
                  have hbd57:∀ (wq:World),(Instr.build 56 #[(0,(.int .i64 ((2:Nat):Int)))]).run Try.prog wq = .ok (.agg #[(.int .i64 ((2:Nat):Int)),(.int .i64 0)]) wq:=by intro wq; kernel_rfl
                  refine q_build (ps:=#[(0,(.int .i64 ((2:Nat):Int)))]) (.agg #[(.int .i64 ((2:Nat):Int)),(.int .i64 0)]) zq18_3 (fun wq=>hbd57  wq) zN (r_oneS (cs:=[(.int .i64 ((2:Nat):Int)),(.int .i64 0)]) (y:=Av.zero) (B:=w54.heap.size) (U:=w54.heap.size) good_hBv u24 tiS56 rfl zq18_4 rfl (hBv_mk oM oM) oM zN fun v58 w58 hX58 hz58 hO58=>?_)
                  have hzs58:w54.heap.size≤w58.heap.size:=hX58.size
                  have hE58:Chg [g] w w58:=hE54.ext hX58
                  have hF55x58:=hF55.ext ((good_owS good_hBv)) hX58
                  have hs54x58:=hs54.ext hX58
                  refine e_appS (v:=vo) (a:=v58) good_hBv u24 tiS56 rfl zq18_4 rfl rfl hF55x58 oM hO58 oM oM oM (by unfold maxLen; omega) zN fun v59 w59 F59 hC59 hF59 hO59=>?_
                  have hzs59:w58.heap.size≤w59.heap.size:=hC59.size
                  have hE59:Chg [g] w w59:=hE58.fresh hC59 (fun c hc=>by have:=hF59 _ hc; omega)
                  have hF60:=hs54x58.chg hC59 (fun c hc=>by have:=hF59 _ hc; omega)
                  exact lw_tvn 1 rfl ⟨(n54,v59,(xs++([Av.zero]))),_,rfl,⟨rfl,rfl,trivial⟩,⟨hE59,hO59.up (good_owS good_hBv),hF60,(by simp only [List.length_append,List.length_singleton]; omega),(by simp only [List.length_append,List.length_singleton]; omega)⟩,by simp only [List.length_append,List.length_singleton]; omega⟩
                ·
                  refine q_lss false rfl rfl (decide_eq_false hc56) zN (lw_nil (c_cond_f rfl (wp_exit (t_exit (t_exit (c_exit_here (wp_seq (wp_plain _ [0,0] rfl (lw_tvn 2 rfl (wp_ret ?_))))))))))
                  obtain ⟨yb,hyb,hyf⟩:=hBv_out hF55
                  exact post_ret [4] rfl vo rfl ⟨vo,yb,n54,rfl,hE54,hs54,⟨by omega,by omega⟩,((hyf.up (good_owS good_rAv)).low (B':=w.heap.size) oM),zq18_0⟩
              ·
                refine q_eql false rfl rfl (decide_eq_false hc52) zN (lw_tvn 1 rfl (c_cond_f rfl (wp_seq (wp_plain _ [0,0] rfl ?_))))
                by_cases hc61:x18_0 = ((5:Nat):Int)
                ·
                  refine q_eql true rfl rfl (decide_eq_true hc61) zN (lw_tvn 1 rfl (c_cond_t rfl (wp_plain _ [0,0,0,0] rfl (lw_tv 2 rfl ?_))))
                  have hlt62:(x16_0).toNat≤(([]:List Av)++l).length:=by omega
                  refine q_pref (v:=v2) (k:=(x16_0).toNat) u24 tiS56 rfl hF19.isSlS (RN.of_frB (S:=[]) hF19 (fun b hb=>by cases hb)).capS (i64_nn oM) hlt62 zN ?_
                  have hO62:=Fr.prefA good_hBv flN_b hF19 hlt62
                  refine lw_tvn 1 rfl (wp_seq (wp_plain _ [0,0] rfl (lw_tvn 2 rfl (wp_ret ?_))))
                  obtain ⟨yb,hyb,hyf⟩:=hBv_out hO62
                  exact post_ret [4] rfl (prefV v2 ((x16_0).toNat)) rfl ⟨(prefV v2 ((x16_0).toNat)),yb,n18,rfl,hE18,hs18,⟨by omega,by omega⟩,((hyf.up (good_owS good_rAv)).low (B':=w.heap.size) oM),zq18_0⟩
                ·
                  refine q_eql false rfl rfl (decide_eq_false hc61) zN (lw_tvn 1 rfl (c_cond_f rfl (wp_skip (wp_seq (wp_plain _ [0,0] rfl (lw_tvn 2 rfl (wp_ret ?_)))))))
                  obtain ⟨yb,hyb,hyf⟩:=hBv_out hF19
                  exact post_ret [4] rfl v2 rfl ⟨v2,yb,n18,rfl,hE18,hs18,⟨by omega,by omega⟩,((hyf.up (good_owS good_rAv)).low (B':=w.heap.size) oM),zq18_0⟩
    ·
      refine c_cond_t (by first | rfl | (show Value.bool _ = _; rw [hb15])) (wp_seq (wp_plain _ [0,0,4,0,0,4,0,3,4,0] rfl (lw_tv 2 rfl (lw_callE 14 [] [] [(.pointer (some ⟨g,0,none⟩)),(.int .i64 ((4:Nat):Int))] rfl rfl cf14 zN (cq_spec_l00Src_pick _ g _ _ _ (((4:Nat):Int)) hs13 oM oM oM) ?_))))
      rintro e63 w63 ⟨x63_0,n63,rfl,hC63,hs63,hb63,hp63_0⟩
      refine ⟨_,rfl,?_⟩
      have hzs63:w13.heap.size≤w63.heap.size:=hC63.size
      have hE63:Chg [g] w w63:=hE13.trans hC63
      have hF64:=hF14.chg ((good_owS good_hBv)) hC63 (fun c hc=>by have:=List.mem_singleton.1 hc; omega)
      have hpf63:=pk_fact hp63_0
      refine q_add (((1:Nat):Int) + x63_0) rfl rfl (w64 sD sD) zN (lw_tv 1 rfl ?_)
      refine lw_callE 14 [] [] [(.pointer (some ⟨g,0,none⟩)),(.int .i64 ((3:Nat):Int))] rfl rfl cf14 zN (cq_spec_l00Src_pick _ g _ _ _ (((3:Nat):Int)) hs63 oM oM oM) ?_
      rintro e65 w65 ⟨x65_0,n65,rfl,hC65,hs65,hb65,hp65_0⟩
      refine ⟨_,rfl,?_⟩
      have hzs65:w63.heap.size≤w65.heap.size:=hC65.size
      have hE65:Chg [g] w w65:=hE63.trans hC65
      have hF66:=hF64.chg ((good_owS good_hBv)) hC65 (fun c hc=>by have:=List.mem_singleton.1 hc; omega)
      have hpf65:=pk_fact hp65_0
      have hbd67:∀ (wq:World),(Instr.build 56 #[(0,(.int .i64 (((1:Nat):Int) + x63_0))),(1,(.int .i64 x65_0))]).run Try.prog wq = .ok (.agg #[(.int .i64 (((1:Nat):Int) + x63_0)),(.int .i64 x65_0)]) wq:=by intro wq; kernel_rfl
      refine q_build (ps:=#[(0,(.int .i64 (((1:Nat):Int) + x63_0))),(1,(.int .i64 x65_0))]) (.agg #[(.int .i64 (((1:Nat):Int) + x63_0)),(.int .i64 x65_0)]) zq18_3 (fun wq=>hbd67  wq) zN (r_oneS (cs:=[(.int .i64 (((1:Nat):Int) + x63_0)),(.int .i64 x65_0)]) (y:=Av.zero) (B:=w65.heap.size) (U:=w65.heap.size) good_hBv u24 tiS56 rfl zq18_4 rfl (hBv_mk oM oM) oM zN fun v68 w68 hX68 hz68 hO68=>?_)
      have hzs68:w65.heap.size≤w68.heap.size:=hX68.size
      have hE68:Chg [g] w w68:=hE65.ext hX68
      have hs65x68:=hs65.ext hX68
      have hF66x68:=hF66.ext ((good_owS good_hBv)) hX68
      refine e_appS (v:=v2) (a:=v68) good_hBv u24 tiS56 rfl zq18_4 rfl rfl hF66x68 oM hO68 oM oM oM (by unfold maxLen; omega) zN fun v69 w69 F69 hC69 hF69 hO69=>?_
      have hzs69:w68.heap.size≤w69.heap.size:=hC69.size
      have hE69:Chg [g] w w69:=hE68.fresh hC69 (fun c hc=>by have:=hF69 _ hc; omega)
      have hF70:=hs65x68.chg hC69 (fun c hc=>by have:=hF69 _ hc; omega)
      refine lw_tvn 1 rfl (wp_ret (t_ret ?_))
      obtain ⟨yb,hyb,hyf⟩:=hBv_out hO69
      exact post_ret [4] rfl v69 rfl ⟨v69,yb,n65,rfl,hE69,hF70,⟨by omega,by omega⟩,((hyf.up (good_owS good_rAv)).low (B':=w.heap.size) oM),zq18_0⟩
theorem zq5_0 {p:Prop} (h:p:=by exact lch_mk (by first | exact sch_all (by assumption) oM | assumption) oM hwb oM):p:=h
theorem c_spec_LawChain (w:World) (vc:Value) (cs:List UInt8) (hcs:Rd (rdL rU) w.heap vc cs) (hcs5:cs.length≤5000) :
    Calls Try.prog 5 #[vc] w (fun e w'=>∃ (v vw:Value) (l:List Av) (ws:List Int) (k:Int),e = .returned (.tuple #[v,vw,.int .i64 k])∧Ext w w'∧Fr (owS 2 rAv 56) w.heap.size w'.heap.size w'.heap v l∧Fr (owL rI 2) w.heap.size w'.heap.size w'.heap vw ws∧LchD l ws k):=by
  refine calls_mk [vc] 64 Try.func5 rfl rfl sM ?_
  have hE0:Ext w w:=Ext.refl w
  have hl_vc:=hcs.lenle
  refine wp_seq (wp_plain _ [0,0,0] rfl (lw_tvn 3 rfl (wp_seq (wp_plain _ [0,3,0] rfl (lw_tv 1 rfl (lw_call 13 [] [] [vc] rfl rfl cf13 zN (cq_spec_l00From _ _ _ (hcs.ext good_u hE0)) ?_))))))
  rintro e1 w1 ⟨gB1,rfl,hX1,hs1,hg1⟩
  refine ⟨_,rfl,hX1,?_⟩
  have hzs1:w.heap.size≤w1.heap.size:=hX1.size
  have hE1:Ext w w1:=hE0.trans hX1
  refine lw_tvn 1 rfl (wp_seq (wp_plain _ [0,4,0] rfl ?_))
  have hgl:=hs1.lt
  refine lw_tv 1 rfl (lw_callE 14 [] [] [(.pointer (some ⟨gB1,0,none⟩)),(.int .i64 ((9:Nat):Int))] rfl rfl cf14 zN (cq_spec_l00Src_pick _ gB1 _ _ _ (((9:Nat):Int)) hs1 oM oM oM) ?_)
  rintro e2 w2 ⟨x2_0,n2,rfl,hC2,hs2,hb2,hp2_0⟩
  refine ⟨_,rfl,?_⟩
  have hzs2:w1.heap.size≤w2.heap.size:=hC2.size
  have hE2:Ext w w2:=hC2.below hE1 (fun c hc=>by have:=List.mem_singleton.1 hc; omega) hE1.size
  have hpf2:=pk_fact hp2_0
  refine lw_tvn 1 rfl (wp_seq (c_cut (S:=Int × Nat) (fun (⟨nn,m3⟩:Int × Nat)=>([(6,(.int .i64 nn)),(5,(.pointer (some ⟨gB1,0,none⟩)))]:List (Nat × Value))) (fun (⟨nn,m3⟩:Int × Nat) (W:World)=>Ext w W∧SrQ W.heap gB1 vc cs m3∧(0≤nn∧nn≤17)∧m3≤10) ?_ ?_))
  ·
    refine wp_seq (wp_plain _ [0,4] rfl (lw_tv 1 rfl (lw_callE 15 [] [] [(.pointer (some ⟨gB1,0,none⟩)),(.int .i64 ((10:Nat):Int))] rfl rfl cf15 zN (cq_spec_l00Src_one _ gB1 _ _ _ (((10:Nat):Int)) hs2 oM oM oM) ?_)))
    rintro e4 w4 ⟨x4_0,n4,rfl,hC4,hs4,hb4,hp4_0⟩
    refine ⟨_,rfl,?_⟩
    have hzs4:w2.heap.size≤w4.heap.size:=hC4.size
    have hE4:Ext w w4:=hC4.below hE2 (fun c hc=>by have:=List.mem_singleton.1 hc; omega) hE2.size
    have hpf4:=pk_one hp4_0 ⟨by decide,by decide⟩
    refine lw_nil ?_
    cases hb5:x4_0
    ·
      exact c_cond_f (by first | rfl | (show Value.bool _ = _; rw [hb5])) (wp_skip ⟨(x2_0,n4),_,rfl,⟨rfl,rfl,trivial⟩,⟨hE4,hs4,oM,oM⟩⟩)
    ·
      refine c_cond_t (by first | rfl | (show Value.bool _ = _; rw [hb5])) (wp_plain _ [0,4,0,0] rfl (lw_tv 1 rfl (lw_callE 14 [] [] [(.pointer (some ⟨gB1,0,none⟩)),(.int .i64 ((8:Nat):Int))] rfl rfl cf14 zN (cq_spec_l00Src_pick _ gB1 _ _ _ (((8:Nat):Int)) hs4 oM oM oM) ?_)))
      rintro e6 w6 ⟨x6_0,n6,rfl,hC6,hs6,hb6,hp6_0⟩
      refine ⟨_,rfl,?_⟩
      have hzs6:w4.heap.size≤w6.heap.size:=hC6.size
      have hE6:Ext w w6:=hC6.below hE4 (fun c hc=>by have:=List.mem_singleton.1 hc; omega) hE4.size
      have hpf6:=pk_fact hp6_0
      refine q_add (((10:Nat):Int) + x6_0) rfl rfl (w64 sD sD) zN (lw_tvn 1 rfl ?_)
      exact ⟨((((10:Nat):Int) + x6_0),n6),_,rfl,⟨rfl,rfl,trivial⟩,⟨hE6,hs6,oM,oM⟩⟩
  ·
    clear hE0 hX1 hzs1 hE1 hC2 hzs2 hE2
    rintro ⟨nn,m3⟩ ρ3 w3 ⟨hE3,hL3_0,hx3,hm3⟩
    have hzs3:w.heap.size≤w3.heap.size:=hE3.size
    have hgl:=hL3_0.lt
    refine wp_seq (wp_plain _ [0,4,0,0] rfl (lw_tv 1 rfl (lw_callE 14 [] [] [(.pointer (some ⟨gB1,0,none⟩)),(.int .i64 ((4:Nat):Int))] rfl rfl cf14 zN (cq_spec_l00Src_pick _ gB1 _ _ _ (((4:Nat):Int)) hL3_0 oM oM oM) ?_)))
    rintro e7 w7 ⟨x7_0,n7,rfl,hC7,hs7,hb7,hp7_0⟩
    refine ⟨_,rfl,?_⟩
    have hzs7:w3.heap.size≤w7.heap.size:=hC7.size
    have hE7:Ext w w7:=hC7.below hE3 (fun c hc=>by have:=List.mem_singleton.1 hc; omega) hE3.size
    have hpf7:=pk_fact hp7_0
    refine q_add (((1:Nat):Int) + x7_0) rfl rfl (w64 sD sD) zN (lw_tvn 1 rfl ?_)
    refine wp_seq (c_cut (S:=Int × Nat) (fun (⟨kk,m6⟩:Int × Nat)=>([(7,(.int .i64 kk)),(5,(.pointer (some ⟨gB1,0,none⟩))),(6,(.int .i64 nn))]:List (Nat × Value))) (fun (⟨kk,m6⟩:Int × Nat) (W:World)=>Ext w W∧SrQ W.heap gB1 vc cs m6∧(0≤kk∧kk≤4)∧m6≤20) ?_ ?_)
    ·
      refine wp_seq (wp_plain _ [0,4] rfl (lw_tv 1 rfl (lw_callE 15 [] [] [(.pointer (some ⟨gB1,0,none⟩)),(.int .i64 ((8:Nat):Int))] rfl rfl cf15 zN (cq_spec_l00Src_one _ gB1 _ _ _ (((8:Nat):Int)) hs7 oM oM oM) ?_)))
      rintro e9 w9 ⟨x9_0,n9,rfl,hC9,hs9,hb9,hp9_0⟩
      refine ⟨_,rfl,?_⟩
      have hzs9:w7.heap.size≤w9.heap.size:=hC9.size
      have hE9:Ext w w9:=hC9.below hE7 (fun c hc=>by have:=List.mem_singleton.1 hc; omega) hE7.size
      have hpf9:=pk_one hp9_0 ⟨by decide,by decide⟩
      refine lw_nil ?_
      cases hb10:x9_0
      ·
        exact c_cond_f (by first | rfl | (show Value.bool _ = _; rw [hb10])) (wp_skip ⟨((((1:Nat):Int) + x7_0),n9),_,rfl,⟨rfl,rfl,rfl,trivial⟩,⟨hE9,hs9,oM,oM⟩⟩)
      ·
        exact c_cond_t (by first | rfl | (show Value.bool _ = _; rw [hb10])) (wp_plain _ [0] rfl (lw_tvn 1 rfl ⟨(((0:Nat):Int),n9),_,rfl,⟨rfl,rfl,rfl,trivial⟩,⟨hE9,hs9,oM,oM⟩⟩))
    ·
      clear hL3_0 hE3 hzs3 hC7 hzs7 hE7
      rintro ⟨kk,m6⟩ ρ8 w8 ⟨hE8,hL8_0,hx6,hm6⟩
      have hzs8:w.heap.size≤w8.heap.size:=hE8.size
      have hgl:=hL8_0.lt
      refine wp_seq (wp_plain _ [3,0] rfl (r_nil (rI) good_rI u25 ti2 zN fun v11 w11 hX11 hz11 hO11=>?_))
      have hzs11:w8.heap.size≤w11.heap.size:=hX11.size
      have hE11:Ext w w11:=hE8.trans hX11
      have hL8_0x11:=hL8_0.ext hX11
      refine lw_tvn 1 rfl (wp_seq (wp_plain _ [0,4,0] rfl (lw_tv 1 rfl (lw_callE 14 [] [] [(.pointer (some ⟨gB1,0,none⟩)),(.int .i64 ((3:Nat):Int))] rfl rfl cf14 zN (cq_spec_l00Src_pick _ gB1 _ _ _ (((3:Nat):Int)) hL8_0x11 oM oM oM) ?_))))
      rintro e12 w12 ⟨x12_0,n12,rfl,hC12,hs12,hb12,hp12_0⟩
      refine ⟨_,rfl,?_⟩
      have hzs12:w11.heap.size≤w12.heap.size:=hC12.size
      have hE12:Ext w w12:=hC12.below hE11 (fun c hc=>by have:=List.mem_singleton.1 hc; omega) hE11.size
      have hF13:=hO11.chg (o1) hC12 (fun c hc=>by have:=List.mem_singleton.1 hc; omega)
      have hpf12:=pk_fact hp12_0
      refine lw_tvn 1 rfl (wp_seq (wp_seq (wp_plain _ [0] rfl (lw_tvn 1 rfl (wp_block ?_)))))
      refine c_loop (S:=Nat × Value × List Int × Nat) (fun (⟨j,vo,ws,m⟩:Nat × Value × List Int × Nat)=>([(8,vo),(10,(.int .i64 ((j:Nat):Int))),(5,(.pointer (some ⟨gB1,0,none⟩))),(6,(.int .i64 nn)),(7,(.int .i64 kk)),(9,(.int .i64 x12_0))]:List (Nat × Value))) (fun (⟨j,vo,ws,m⟩:Nat × Value × List Int × Nat) (W:World)=>Ext w W∧Fr (owL rI 2) w8.heap.size W.heap.size W.heap vo ws∧SrQ W.heap gB1 vc cs m∧((j:Nat):Int)≤nn∧ws.length = j∧(∀ x∈ws,0≤x∧x≤1000)∧m≤40 + 8 * j∧w8.heap.size≤W.heap.size) (fun (⟨j,vo,ws,m⟩:Nat × Value × List Int × Nat)=>nn.toNat - j) (0,v11,([]:List Int),n12) ⟨rfl,rfl,rfl,rfl,rfl,rfl,trivial⟩ ⟨hE12,hF13.up o1,hs12,oM,(by rfl),(by intro x hx; cases hx),oM,oM⟩ ?_
      clear hL8_0 hO11 hz11 hX11 hzs11 hE11 hL8_0x11 hC12 hzs12 hE12 hF13
      rintro ⟨j,vo,ws,m⟩ ρ14 w14 ⟨hE14,hL14_0,hL14_1,hjn,hwl,hwb,hmj,hkB15⟩
      have hzs14:w.heap.size≤w14.heap.size:=hE14.size
      have hgl:=hL14_1.lt
      refine wp_seq (wp_seq (wp_plain _ [0,0,0] rfl (lw_tv 2 rfl ?_)))
      by_cases hc16:((j:Nat):Int) < nn
      ·
        refine q_lss true rfl rfl (decide_eq_true hc16) zN (lw_nil (c_cond_t rfl (wp_skip (wp_seq (wp_block (wp_seq (wp_plain _ [0] rfl (lw_tvn 1 rfl (wp_seq (c_cut (S:=Int × Nat) (fun (⟨x1,m14⟩:Int × Nat)=>([(11,(.int .i64 x1)),(5,(.pointer (some ⟨gB1,0,none⟩))),(6,(.int .i64 nn)),(7,(.int .i64 kk)),(8,vo),(9,(.int .i64 x12_0)),(10,(.int .i64 ((j:Nat):Int)))]:List (Nat × Value))) (fun (⟨x1,m14⟩:Int × Nat) (W:World)=>Ext w W∧SrQ W.heap gB1 vc cs m14∧Fr (owL rI 2) w8.heap.size w14.heap.size W.heap vo ws∧(0≤x1∧x1≤1000)∧m14≤m + 2∧(w8.heap.size≤W.heap.size∧w14.heap.size≤W.heap.size∧gB1 < w8.heap.size)) ?_ ?_))))))))))
        ·
          refine wp_seq (wp_plain _ [0,0] rfl (lw_tv 1 rfl ?_))
          by_cases hc18:x12_0 = ((1:Nat):Int)
          ·
            refine q_eql true rfl rfl (decide_eq_true hc18) zN (lw_nil (c_cond_t rfl (wp_plain _ [0,4,0] rfl (lw_tv 1 rfl (lw_callE 14 [] [] [(.pointer (some ⟨gB1,0,none⟩)),(.int .i64 ((10:Nat):Int))] rfl rfl cf14 zN (cq_spec_l00Src_pick _ gB1 _ _ _ (((10:Nat):Int)) hL14_1 oM oM oM) ?_)))))
            rintro e19 w19 ⟨x19_0,n19,rfl,hC19,hs19,hb19,hp19_0⟩
            refine ⟨_,rfl,?_⟩
            have hzs19:w14.heap.size≤w19.heap.size:=hC19.size
            have hE19:Ext w w19:=hC19.below hE14 (fun c hc=>by have:=List.mem_singleton.1 hc; omega) hE14.size
            have hF20:=hL14_0.chg (o1) hC19 (fun c hc=>by have:=List.mem_singleton.1 hc; omega)
            have hpf19:=pk_fact hp19_0
            exact lw_tvn 1 rfl ⟨(x19_0,n19),_,rfl,⟨rfl,rfl,rfl,rfl,rfl,rfl,rfl,trivial⟩,⟨hE19,hs19,hF20,oM,oM,oM⟩⟩
          ·
            exact q_eql false rfl rfl (decide_eq_false hc18) zN (lw_nil (c_cond_f rfl (wp_skip ⟨(((1:Nat):Int),m),_,rfl,⟨rfl,rfl,rfl,rfl,rfl,rfl,rfl,trivial⟩,⟨hE14,hL14_1,hL14_0,oM,oM,oM⟩⟩)))
        ·
          clear hL14_1 hL14_0
          rintro ⟨x1,m14⟩ ρ17 w17 ⟨hE17,hL17_0,hL17_1,hx14,hm14,hbu14⟩
          have hzs17:w.heap.size≤w17.heap.size:=hE17.size
          have hgl:=hL17_0.lt
          refine wp_seq (c_cut (S:=Int × Nat) (fun (⟨x2,m16⟩:Int × Nat)=>([(11,(.int .i64 x2)),(5,(.pointer (some ⟨gB1,0,none⟩))),(6,(.int .i64 nn)),(7,(.int .i64 kk)),(8,vo),(9,(.int .i64 x12_0)),(10,(.int .i64 ((j:Nat):Int)))]:List (Nat × Value))) (fun (⟨x2,m16⟩:Int × Nat) (W:World)=>Ext w W∧SrQ W.heap gB1 vc cs m16∧Fr (owL rI 2) w8.heap.size w14.heap.size W.heap vo ws∧(0≤x2∧x2≤1000)∧m16≤m + 4∧(w8.heap.size≤W.heap.size∧w14.heap.size≤W.heap.size∧gB1 < w8.heap.size)) ?_ ?_)
          ·
            refine wp_seq (wp_plain _ [0,0] rfl (lw_tv 1 rfl ?_))
            by_cases hc22:x12_0 = ((2:Nat):Int)
            ·
              refine q_eql true rfl rfl (decide_eq_true hc22) zN (lw_nil (c_cond_t rfl (wp_plain _ [0,3,4,0] rfl (lw_tv 1 rfl (r_ints (n:=6) (us:=[((0:Nat):Int),((1:Nat):Int),((3:Nat):Int),((1000:Nat):Int),((100:Nat):Int),((17:Nat):Int)]) u25 ti2 (by simp only [List.map_toArray,List.map_cons,List.map_nil]; rfl) rfl (by decide) (by intro x hx; simp only [List.mem_cons,List.not_mem_nil,or_false] at hx; unfold i64; omega) (bs6 u25 ti2 rfl) zN fun v23 w23 hX23 hz23 hO23=>?_)))))
              have hzs23:w17.heap.size≤w23.heap.size:=hX23.size
              have hE23:Ext w w23:=hE17.trans hX23
              have hL17_0x23:=hL17_0.ext hX23
              have hL17_1x23:=hL17_1.ext (o1) hX23
              refine lw_callE 16 [] [] [(.pointer (some ⟨gB1,0,none⟩)),v23] rfl rfl cf16 zN (cq_spec_l00Src_among _ gB1 _ _ _ v23 _ hL17_0x23 oM (fun w9 h9=>(hO23.chg o1 h9 (fun c hc=>by have:=List.mem_singleton.1 hc; omega)).rd1) (by exact ⟨by decide,by decide⟩)) ?_
              rintro e24 w24 ⟨x24_0,n24,rfl,hC24,hs24,hb24,hp24_0⟩
              refine ⟨_,rfl,?_⟩
              have hzs24:w23.heap.size≤w24.heap.size:=hC24.size
              have hE24:Ext w w24:=hC24.below hE23 (fun c hc=>by have:=List.mem_singleton.1 hc; omega) hE23.size
              have hF25:=hL17_1x23.chg (o1) hC24 (fun c hc=>by have:=List.mem_singleton.1 hc; omega)
              have hmi24:=mem_i6 hp24_0.1
              exact lw_tvn 1 rfl ⟨(x24_0,n24),_,rfl,⟨rfl,rfl,rfl,rfl,rfl,rfl,rfl,trivial⟩,⟨hE24,hs24,hF25,oM,oM,oM⟩⟩
            ·
              exact q_eql false rfl rfl (decide_eq_false hc22) zN (lw_nil (c_cond_f rfl (wp_skip ⟨(x1,m14),_,rfl,⟨rfl,rfl,rfl,rfl,rfl,rfl,rfl,trivial⟩,⟨hE17,hL17_0,hL17_1,oM,oM,oM⟩⟩)))
          ·
            clear hL17_1 hL17_0 hE17 hzs17
            rintro ⟨x2,m16⟩ ρ21 w21 ⟨hE21,hL21_0,hL21_1,hx16,hm16,hbu16⟩
            have hzs21:w.heap.size≤w21.heap.size:=hE21.size
            have hgl:=hL21_0.lt
            refine wp_plain _ [0,0,3,4,0] rfl (lw_tv 2 rfl (r_one (u:=(.int .i64 x2)) (B:=w21.heap.size) good_rI u25 ti2 rfl rfl (frI w21.heap.size w21.heap.size _ _ oM) (Nat.le_refl _) zN fun v27 w27 hX27 hz27 hO27=>?_))
            have hzs27:w21.heap.size≤w27.heap.size:=hX27.size
            have hE27:Ext w w27:=hE21.trans hX27
            have hL21_0x27:=hL21_0.ext hX27
            have hL21_1x27:=hL21_1.ext (o1) hX27
            refine e_appI (v:=vo) (a:=v27) u25 ti2 rfl rfl rfl hL21_1x27 oM hO27.rd1 sD (by unfold maxLen; first | omega | assumption | (simp only [List.length_nil,List.length_cons,List.length_append,List.length_set,List.length_replicate]; omega) | (simp [List.length_nil,List.length_cons,List.length_append,List.length_set,List.length_replicate]; done) | (simp [List.length_nil,List.length_cons,List.length_append,List.length_set,List.length_replicate]; omega)) zN fun v28 w28 F28 hC28 hF28 hO28=>?_
            have hE28:Ext w w28:=hC28.below hE27 (fun c hc=>Nat.le_trans hE8.size (hF28 c hc).1) hE27.size
            have hzs28:w27.heap.size≤w28.heap.size:=hC28.size
            have hF29:=hL21_0x27.chg hC28 (fun c hc=>by have:=hF28 c hc; omega)
            exact lw_tvn 1 rfl (wp_plain _ [0,0,0] rfl (lw_tv 1 rfl (q_add ((j + 1:Nat):Int) rfl rfl (w64n oM oM) zN (lw_tvn 1 rfl ⟨((j + 1),v28,(ws++[x2]),m16),_,rfl,⟨rfl,rfl,rfl,rfl,rfl,rfl,trivial⟩,⟨hE28,hO28.up o1,hF29,oM,(by rw [List.length_append,hwl]; rfl),(by exact all_snoc hwb oM),oM,oM⟩,by first | omega | (dsimp only; omega)⟩))))
      ·
        refine q_lss false rfl rfl (decide_eq_false hc16) zN (lw_nil (c_cond_f rfl (wp_exit (t_exit (t_exit (c_exit_here (wp_seq (wp_plain _ [0,0,0,4,0] rfl ?_))))))))
        generalize hg_nq:nn = nqI at *
        obtain ⟨nq,rfl⟩:∃ n:Nat,nqI = ((n:Nat):Int):=⟨nqI.toNat,by omega⟩
        generalize hg_kq:kk = kqI at *
        obtain ⟨kq,rfl⟩:∃ n:Nat,kqI = ((n:Nat):Int):=⟨kqI.toNat,by omega⟩
        refine lw_tv 3 rfl (lw_callE 17 [] [] [(.pointer (some ⟨gB1,0,none⟩)),(.int .i64 ((nq:Nat):Int)),(.int .i64 ((kq:Nat):Int))] rfl rfl cf17 zN (c_spec_l06DrawList _ gB1 _ _ _ nq kq hL14_1 oM oM oM oM (by exact hcs5)) ?_)
        rintro e31 w31 ⟨v31_0,x31_0,n31,rfl,hC31,hs31,hb31,hO31_0,hp31_0⟩
        refine ⟨_,rfl,?_⟩
        have hzs31:w14.heap.size≤w31.heap.size:=hC31.size
        have hE31:Ext w w31:=hC31.below hE14 (fun c hc=>by have:=List.mem_singleton.1 hc; omega) hE14.size
        have hF32:=hL14_0.chg (o1) hC31 (fun c hc=>by have:=List.mem_singleton.1 hc; omega)
        obtain ⟨hal31,hll31⟩:=hp31_0
        refine lw_tvn 1 rfl (wp_seq (wp_seq (wp_plain _ [0,4] rfl (lw_tv 1 rfl (lw_callE 15 [] [] [(.pointer (some ⟨gB1,0,none⟩)),(.int .i64 ((6:Nat):Int))] rfl rfl cf15 zN (cq_spec_l00Src_one _ gB1 _ _ _ (((6:Nat):Int)) hs31 oM oM oM) ?_)))))
        rintro e33 w33 ⟨x33_0,n33,rfl,hC33,hs33,hb33,hp33_0⟩
        refine ⟨_,rfl,?_⟩
        have hzs33:w31.heap.size≤w33.heap.size:=hC33.size
        have hE33:Ext w w33:=hC33.below hE31 (fun c hc=>by have:=List.mem_singleton.1 hc; omega) hE31.size
        have hF34:=hF32.chg (o1) hC33 (fun c hc=>by have:=List.mem_singleton.1 hc; omega)
        have hF35:=hO31_0.chg ((good_owS good_rAv)) hC33 (fun c hc=>by have:=List.mem_singleton.1 hc; omega)
        refine lw_nil ?_
        cases hb36:x33_0
        ·
          exact c_cond_f (by first | rfl | (show Value.bool _ = _; rw [hb36])) (wp_skip (wp_seq (wp_plain _ [0,0,0,0,0,0] rfl (lw_tvn 6 rfl (wp_ret (post_ret [2,3,4] rfl (.tuple #[v31_0,vo,(.int .i64 ((kq:Nat):Int))]) rfl ⟨v31_0,vo,x31_0,ws,((kq:Nat):Int),rfl,hE33,((hF35.up (good_owS good_rAv)).low (B':=w.heap.size) oM),((hF34.up o1).low (B':=w.heap.size) oM),zq5_0⟩))))))
        ·
          refine c_cond_t (by first | rfl | (show Value.bool _ = _; rw [hb36])) (wp_seq (wp_plain _ [0,0,4,0] rfl (lw_tv 2 rfl (lw_callE 18 [] [] [(.pointer (some ⟨gB1,0,none⟩)),v31_0] rfl rfl cf18 zN (c_spec_l06SpoilList _ gB1 _ _ _ v31_0 x31_0 hs33 oM (RN.of_frA (S:=[gB1]) hF35 (fun b hb=>by have:=List.mem_singleton.1 hb; omega)) oM) ?_))))
          rintro e37 w37 ⟨v37_0,x37_0,n37,rfl,hC37,hs37,hb37,hO37_0,hp37_0⟩
          refine ⟨_,rfl,?_⟩
          have hzs37:w33.heap.size≤w37.heap.size:=hC37.size
          have hE37:Ext w w37:=hC37.below hE33 (fun c hc=>by have:=List.mem_singleton.1 hc; omega) hE33.size
          have hF38:=hF34.chg (o1) hC37 (fun c hc=>by have:=List.mem_singleton.1 hc; omega)
          have hF39:=hF35.chg ((good_owS good_rAv)) hC37 (fun c hc=>by have:=List.mem_singleton.1 hc; omega)
          refine lw_tvn 1 rfl (wp_seq (wp_plain _ [0,3] rfl (lw_tv 1 rfl (lw_call 19 [] [] [v37_0] rfl rfl cf19 zN (c_spec_l06Schedule _ v37_0 x37_0 (RN.of_frA (S:=[]) hO37_0 (fun b hb=>by cases hb)) oM) ?_))))
          rintro e40 w40 ⟨rfl,hX40⟩
          refine ⟨_,rfl,hX40,?_⟩
          have hzs40:w37.heap.size≤w40.heap.size:=hX40.size
          have hE40:Ext w w40:=hE37.trans hX40
          have hF38x40:=hF38.ext (o1) hX40
          have hs37x40:=hs37.ext hX40
          have hF39x40:=hF39.ext ((good_owS good_rAv)) hX40
          have hO37_0x40:=hO37_0.ext ((good_owS good_rAv)) hX40
          refine lw_nil ?_
          cases hb41:(schB x37_0)
          ·
            exact c_cond_f (by first | rfl | (show Value.bool _ = _; rw [hb41])) (wp_skip (wp_seq (wp_plain _ [0,0,0,0,0,0] rfl (lw_tvn 6 rfl (wp_ret (post_ret [2,3,4] rfl (.tuple #[v31_0,vo,(.int .i64 ((kq:Nat):Int))]) rfl ⟨v31_0,vo,x31_0,ws,((kq:Nat):Int),rfl,hE40,((hF39x40.up (good_owS good_rAv)).low (B':=w.heap.size) oM),((hF38x40.up o1).low (B':=w.heap.size) oM),zq5_0⟩))))))
          ·
            exact c_cond_t (by first | rfl | (show Value.bool _ = _; rw [hb41])) (wp_plain _ [0,0] rfl (lw_tvn 2 rfl (wp_seq (wp_plain _ [0,0,0,0,0,0] rfl (lw_tvn 6 rfl (wp_ret (post_ret [2,3,4] rfl (.tuple #[v37_0,vo,(.int .i64 ((kq:Nat):Int))]) rfl ⟨v37_0,vo,x37_0,ws,((kq:Nat):Int),rfl,hE40,((hO37_0x40.up (good_owS good_rAv)).low (B':=w.heap.size) oM),((hF38x40.up o1).low (B':=w.heap.size) oM),zq5_0⟩)))))))
end Go.Proofs.Ytoacbkmejjhceaa
namespace Go.Proofs.Ytoacbkmejjhceaa
open Go Go.RowKit
set_option linter.unusedVariables false
set_option linter.unusedSimpArgs false
def ivb (B U:Nat):List Nat:=List.range' B (U - B)
theorem mem_ivb {B U b:Nat}:b∈ivb B U↔B≤b∧b < U:=by
  unfold ivb
  rw [List.mem_range'_1]
  omega
def midS (s:Nat) (v:Value) (k n:Nat):Value:=match v with
  | .slice a _ c=>.slice (a.map (·.add (k * s))) (n - k) (c - k)
  | v=>v
theorem add_flat (g o k:Nat):((⟨g,o,none⟩:Addr).add k) = ⟨g,o + k,none⟩:=by
  unfold Addr.add
  split
  · rename_i hh; rw [hh]; rfl
  · rfl
section run
variable {P:Program} {t ty e:TypeId} {z:Value} {b s:Nat} {w:World} {α:Type} {E:StandN α}
theorem run_delA (hE:GoodN s E) (hf:FlN E) (ht:P.underlying t = some (.slice e)) (hi:TI P e s z b) {v:Value} {xs:List α} {B U i j:Nat} (hv:Fr (owS s E e) B U w.heap v xs) (hij:i < j) (hj:j≤xs.length) :
    ∃ w' F,(Builtin.append_ #[t,t] ty #[prefV v i,sufS s v j]).run P w = .ok (prefV v (i + (xs.length - j))) w'∧Fr (owS s E e) B U w'.heap (prefV v (i + (xs.length - j))) (xs.take i++xs.drop j)∧Chg F w w'∧w'.heap.size = w.heap.size∧∀ c∈F,B≤c∧c < U:=by
  obtain ⟨F,hv1,hn,hF⟩:=hv
  obtain ⟨inf,h1,h2,h3,h4⟩:=hi.get
  rcases hv1 with ⟨rfl,rfl,rfl⟩ | ⟨css,gv,capv,curv,F0,hels,rfl,hgv,r1,r2,r3,r4,rfl⟩
  · simp at hj; omega
  · obtain ⟨rfl,hel⟩:=fl_els hf hels
    have hlen:=hels.length
    have hls:=hels.lens hE
    have hfl:=hels.flen hE
    obtain ⟨G1,g1,_⟩:=elsN_take hE i hels
    obtain ⟨G2,g2,_⟩:=elsN_drop hE j hels
    obtain ⟨rfl,k1⟩:=fl_els hf g1
    obtain ⟨rfl,k2⟩:=fl_els hf g2
    have hl1:=g1.flen hE
    have hl2:=g2.flen hE
    have e1:(xs.take i).length = i:=by rw [List.length_take]; omega
    have e2:(xs.drop j).length = xs.length - j:=List.length_drop
    rw [e1] at hl1
    rw [e2] at hl2
    obtain ⟨a',ha',hnews⟩:∃ o':Nat,sufS s (.slice (some ⟨gv,0,none⟩) xs.length capv) j = .slice (some ⟨gv,o',none⟩) (xs.length - j) (capv - j)∧∀ q u,(css.drop j).flatten[q]? = some u→w.cell? ((⟨gv,o',none⟩:Addr).add q) = some u:=by
      by_cases hc:capv = j
      · refine ⟨0,by simp [sufS,hc],fun q u hq=>?_⟩
        have : (css.drop j).flatten = [] := List.eq_nil_of_length_eq_zero (by rw [hl2]; have : xs.length - j = 0 := by omega
                                                                              rw [this,Nat.zero_mul])
        rw [this] at hq; cases hq
      · refine ⟨j * s,by simp [sufS,hc,add_flat],fun q u hq=>?_⟩
        rw [add_flat,cell_cellH]
        simp only [cellH,hgv]
        rw [fl_drop hls,← r4,List.getElem?_drop,List.getElem?_take] at hq
        split at hq
        · simpa using hq
        · cases hq
    have h1c:∀ u∈(css.drop j).flatten,u.oneCell' = true:=fun u hu=>(g2.one hE u hu).2
    have hbnd:i * s + (css.drop j).flatten.length≤curv.size:=by
      rw [hl2,← Nat.add_mul,r3]; exact Nat.mul_le_mul_right s (by omega)
    have hr:=run_append_room (P:=P) w t ty e inf ht h1 gv i capv curv hgv ⟨gv,a',none⟩ (xs.length - j) (capv - j) (css.drop j).flatten (by rw [h3,hl2]) hnews h1c (by omega) (by rw [h3]; exact hbnd)
    rw [h3] at hr
    obtain ⟨new,hnw⟩:∃ new,new = (curv.toList.take (i * s)++(css.drop j).flatten++curv.toList.drop (i * s + (css.drop j).flatten.length)).toArray:=⟨_,rfl⟩
    rw [← hnw] at hr
    refine ⟨w.setRow gv new,[gv],?_,⟨[gv],.inr ⟨css.take i++css.drop j,gv,capv,new,[],(k1 _).append (k2 _),?_,setRow_heap w gv curv new e _ hgv,?_,r2,?_,?_,rfl⟩,hn,hF⟩,⟨rfl,rfl,rfl,by simp,fun k _ hk=>setRow_other w gv k new fun hh=>hk (by simp [hh])⟩,by simp,fun c hc=>hF c hc⟩
    · rw [ha']; exact hr
    · rw [List.length_append,e1,e2]; rfl
    · rw [List.length_append,e1,e2]; omega
    · rw [← r3,hnw]
      simp only [List.size_toArray,List.length_append,List.length_take,List.length_drop,Array.length_toList]
      omega
    · rw [List.length_append,e1,e2,List.flatten_append,hnw]
      have e3:curv.toList.take (i * s) = (css.take i).flatten:=by
        have h6:css.flatten = (css.take i).flatten++(css.drop i).flatten:=by rw [← List.flatten_append,List.take_append_drop]
        have h7:(curv.toList.take (xs.length * s)).take (i * s) = css.flatten.take (i * s):=by rw [r4]
        rw [List.take_take,Nat.min_eq_left (Nat.mul_le_mul_right s (by omega)),h6,← hl1,List.take_left] at h7
        rw [← hl1]; exact h7
      simp only [e3]
      have e4:(i + (xs.length - j)) * s = ((css.take i).flatten++(css.drop j).flatten).length:=by rw [List.length_append,hl1,hl2,Nat.add_mul]
      rw [e4]; exact List.take_left
theorem run_clrA (hE:GoodN s E) (hf:FlN E) (ht:P.underlying t = some (.slice e)) (hi:TI P e s z b) (hzv:∀ w:World,(zeroValue e).run P w = .ok z w) (hz:z.cells.size = s) (hz1:∀ u∈z.cells.toList,u.oneCell' = true) (hs:0 < s) {v:Value} {xs:List α} {B U n c:Nat} (hv:Fr (owS s E e) B U w.heap v xs)
    (hlt:xs.length < n) (hc:∃ a m,v = .slice a m c) (hn:n≤c) (hne:∃ a m c',v = .slice (some a) m c') :
    ∃ w' F,(Builtin.clear_ #[t] ty #[midS s v xs.length n]).run P w = .ok (.tuple #[]) w'∧Fr (owS s E e) B U w'.heap v xs∧Chg F w w'∧w'.heap.size = w.heap.size∧∀ c∈F,B≤c∧c < U:=by
  obtain ⟨F,hv1,hnd,hF⟩:=hv
  obtain ⟨a0,m0,c0,rfl⟩:=hne
  obtain ⟨a1,m1,hc⟩:=hc
  rcases hv1 with ⟨h9,_⟩ | ⟨css,gv,capv,curv,F0,hels,h9,hgv,r1,r2,r3,r4,rfl⟩
  · cases h9
  · injection h9 with q1 q2 q3
    injection hc with p1 p2 p3
    subst q3 p3
    injection q1 with q1
    subst q1 q2
    obtain ⟨rfl,hel⟩:=fl_els hf hels
    have hzs:(Builtin.zeroCells z.cells (n - xs.length)).size = (n - xs.length) * s:=by simp [Builtin.zeroCells,hz]
    have hzo:∀ u∈(Builtin.zeroCells z.cells (n - xs.length)).toList,u.oneCell' = true:=by
      intro u hu
      rw [Array.mem_toList_iff] at hu
      unfold Builtin.zeroCells at hu
      rw [Array.mem_map] at hu
      obtain ⟨k,hk,rfl⟩:=hu
      have hlt9:k % z.cells.size < z.cells.size:=Nat.mod_lt _ (by omega)
      rw [getElem!_pos z.cells _ hlt9]
      exact hz1 _ (by rw [Array.mem_toList_iff]; exact Array.getElem_mem _)
    have hz9:(Builtin.zeroCells z.cells (n - xs.length)).toList.length = (n - xs.length) * s:=(Array.length_toList).trans hzs
    have hst:=run_storeCells_at P gv (xs.length * s) e (Builtin.zeroCells z.cells (n - xs.length)).toList 0 curv w hgv (by
      rw [hz9,Nat.add_zero,← Nat.add_mul,r3]; exact Nat.mul_le_mul_right s (by omega)) hzo
    simp only [Nat.add_zero] at hst
    obtain ⟨new,hnw⟩:∃ new,new = (curv.toList.take (xs.length * s)++(Builtin.zeroCells z.cells (n - xs.length)).toList++curv.toList.drop (xs.length * s + (Builtin.zeroCells z.cells (n - xs.length)).toList.length)).toArray:=⟨_,rfl⟩
    rw [← hnw] at hst
    obtain ⟨m,hm⟩:∃ m,n - xs.length = m + 1:=⟨n - xs.length - 1,by omega⟩
    refine ⟨w.setRow gv new,[gv],?_,⟨[gv],.inr ⟨css,gv,c0,new,[],hel _,rfl,setRow_heap w gv curv new e _ hgv,r1,r2,?_,?_,rfl⟩,hnd,hF⟩,⟨rfl,rfl,rfl,by simp,fun k _ hk=>setRow_other w gv k new fun hh=>hk (by simp [hh])⟩,by simp,fun c hc=>hF c hc⟩
    · unfold midS
      simp only [Option.map_some,add_flat,Nat.zero_add]
      rw [hm] at hst ⊢
      simp only [Builtin.clear_,List.getElem?_toArray,List.getElem?_cons_zero,Sem.run_bind,run_underlying ht,Result.andThen_ok,hzv,hst,Sem.run_pure]
    · rw [← r3,hnw]
      simp only [List.size_toArray,List.length_append,List.length_take,List.length_drop,hz9,show curv.toList.length = curv.size from Array.length_toList]
      have:xs.length * s + (n - xs.length) * s≤curv.size:=by rw [← Nat.add_mul,r3]; exact Nat.mul_le_mul_right s (by omega)
      omega
    · have hle:xs.length * s≤curv.size:=by rw [r3]; exact Nat.mul_le_mul_right s r1
      rw [hnw]
      simp only [List.append_assoc]
      rw [List.take_append_of_le_length (by rw [List.length_take,show curv.toList.length = curv.size from Array.length_toList]; omega),List.take_take,Nat.min_self]
      exact r4
end run
section ops
variable {P:Program} {ops:Array Oper} {w0:World} {Q:Act→World→Prop} {os:List Oper} {ks:List Nat} {N:Nat} {ρ:Nat→Value} {w:World}
  {d:Nat} {ty:TypeId} {pos:String} {aft:Array Edge} {g:Option (Nat × Bool)} {t e:TypeId} {z:Value} {b s:Nat} {α:Type} {E:StandN α}
theorem e_delA (hE:GoodN s E) (hf:FlN E) {x y:Operand} {v:Value} {xs:List α} {B U i j:Nat} (ht:P.underlying t = some (.slice e)) (hi:TI P e s z b) (hx:evF N ρ x = prefV v i) (hy:evF N ρ y = sufS s v j) (hv:Fr (owS s E e) B U w.heap v xs) (hij:i < j) (hj:j≤xs.length)
    (hu:Up ops N ρ ⟨some d,.call ⟨.builtin .append,#[x,y],#[t,t]⟩,ty,pos,aft,g⟩)
    (h:∀ w1 F,Chg F w w1→w1.heap.size = w.heap.size→(∀ c∈F,B≤c∧c < U)→Fr (owS s E e) B U w1.heap (prefV v (i + (xs.length - j))) (xs.take i++xs.drop j)→LW P ops w0 Q os ks (mk N (upd ρ d (prefV v (i + (xs.length - j))))) w1) :
    LW P ops w0 Q (⟨some d,.call ⟨.builtin .append,#[x,y],#[t,t]⟩,ty,pos,aft,g⟩ :: os) (4 :: ks) (mk N ρ) w:=by
  obtain ⟨w1,F,r1,r2,r3,r5,r4⟩:=run_delA (P:=P) (ty:=ty) hE hf ht hi hv hij hj
  exact lw_e rfl hu _ w1 (by simp only [execOp,resolve,invoke,builtin,List.map_toArray,List.map_cons,List.map_nil,Sem.run_bind,Sem.run_pure,Result.andThen_ok,hx,hy,r1]) (h w1 F r3 r5 r4 r2)
theorem lw_v {o:Oper} (hd:o.dst = none) (hu:Up ops N ρ o)
    (v:Value) (w1:World) (hr:(execOp (evF N ρ) o).run P w = .ok (.value v) w1) (h:LW P ops w0 Q os ks (mk N ρ) w1):LW P ops w0 Q (o :: os) (4 :: ks) (mk N ρ) w:=by
  simp only [LW]
  rw [if_pos hu]
  unfold OneOp
  rw [if_neg (by decide),if_neg (by decide)]
  unfold Oper.wp
  rw [mk_eval,hr]
  show LW P ops w0 Q os ks ((mk N ρ).put o.dst v) w1
  rw [hd]
  exact h
theorem e_clrA (hE:GoodN s E) (hf:FlN E) {x:Operand} {v:Value} {xs:List α} {B U n c:Nat} (ht:P.underlying t = some (.slice e)) (hi:TI P e s z b) (hz:z.cells.size = s) (hz1:∀ u∈z.cells.toList,u.oneCell' = true) (hs:0 < s) (hx:evF N ρ x = midS s v xs.length n) (hv:Fr (owS s E e) B U w.heap v xs)
    (hlt:xs.length < n) (hc:∃ a m,v = .slice a m c) (hn:n≤c) (hne:∃ a m c',v = .slice (some a) m c') (hu:Up ops N ρ ⟨none,.call ⟨.builtin .clear,#[x],#[t]⟩,ty,pos,aft,g⟩)
    (h:∀ w1 F,Chg F w w1→w1.heap.size = w.heap.size→(∀ c∈F,B≤c∧c < U)→Fr (owS s E e) B U w1.heap v xs→LW P ops w0 Q os ks (mk N ρ) w1) :
    LW P ops w0 Q (⟨none,.call ⟨.builtin .clear,#[x],#[t]⟩,ty,pos,aft,g⟩ :: os) (4 :: ks) (mk N ρ) w:=by
  obtain ⟨i,h1,h2,h3,h4⟩:=hi.get
  obtain ⟨w1,F,r1,r2,r3,r5,r4⟩:=run_clrA (P:=P) (ty:=ty) hE hf ht hi (fun w=>by simp [zeroValue,typeInfo,h1,h2]) hz hz1 hs hv hlt hc hn hne
  exact lw_v rfl hu (.tuple #[]) w1 (by simp only [execOp,resolve,invoke,builtin,List.map_toArray,List.map_cons,List.map_nil,Sem.run_bind,Sem.run_pure,Result.andThen_ok,hx,r1]) (h w1 F r3 r5 r4 r2)
theorem q_mid {x y1 y2:Operand} {v z:Value} {m k n c b:Nat} (ht:P.underlying t = some (.slice e)) (hi:TI P e s z b) (hx:evF N ρ x = v) (hs:∃ a,v = .slice a m c) (hy1:evF N ρ y1 = .int .i64 (k:Int)) (hy2:evF N ρ y2 = .int .i64 (n:Int)) (hk:k≤n) (hn:n≤c) (hkc:k < c) (hu:Up ops N ρ ⟨some d,.slice t x (some y1) (some y2) none,ty,pos,aft,g⟩)
    (h:LW P ops w0 Q os ks (mk N (upd ρ d (midS s v k n))) w):LW P ops w0 Q (⟨some d,.slice t x (some y1) (some y2) none,ty,pos,aft,g⟩ :: os) (0 :: ks) (mk N ρ) w:=by
  obtain ⟨a,rfl⟩:=hs
  obtain ⟨inf,h1,_,h3,_⟩:=hi.get
  refine lw_q (by decide) rfl hu _ (fun w' _=>?_) h
  have e2:c - k≠0:=by omega
  have e3:¬ c≤k:=by omega
  simp [execOp,hx,hy1,hy2,Instr.sliceAt,Instr.slice,Instr.sliceBounds,Instr.sliceBound,asIntOf,run_underlying ht,sizeOf,typeInfo,h1,h3,midS,hk,hn,e2,e3]
  try (intro h9; omega)
theorem q_sl3 {x y1 y2 y3:Operand} {v z:Value} {m k n c c2 b:Nat} (ht:P.underlying t = some (.slice e)) (hi:TI P e s z b) (hx:evF N ρ x = v) (hs:∃ a,v = .slice a m c) (hy1:evF N ρ y1 = .int .i64 (k:Int)) (hy2:evF N ρ y2 = .int .i64 (n:Int)) (hy3:evF N ρ y3 = .int .i64 (c2:Int)) (hk:k≤n) (hn:n≤c2) (hc:c2≤c) (hu:Up ops N ρ ⟨some d,.slice t x (some y1) (some y2) (some y3),ty,pos,aft,g⟩)
    (h:∀ u,LW P ops w0 Q os ks (mk N (upd ρ d u)) w):LW P ops w0 Q (⟨some d,.slice t x (some y1) (some y2) (some y3),ty,pos,aft,g⟩ :: os) (0 :: ks) (mk N ρ) w:=by
  obtain ⟨a,rfl⟩:=hs
  obtain ⟨inf,h1,_,h3,_⟩:=hi.get
  refine lw_q (by decide) rfl hu (.slice (if c2 = k then a else a.map (·.add (k * s))) (n - k) (c2 - k)) (fun w' _=>?_) (h _)
  simp [execOp,hx,hy1,hy2,hy3,Instr.sliceAt,Instr.slice,Instr.sliceBounds,Instr.sliceBound,asIntOf,run_underlying ht,sizeOf,typeInfo,h1,h3,hk,hn,hc]
end ops
end Go.Proofs.Ytoacbkmejjhceaa
namespace Go.Proofs.Ytoacbkmejjhceaa
open Go Go.RowKit
set_option linter.unusedVariables false
set_option linter.unusedSimpArgs false
set_option maxHeartbeats 4000000
set_option maxRecDepth 100000
attribute [local irreducible] LW
theorem c_slices_Delete_av (w:World) (va:Value) (l:List Av) (B U:Nat) (i:Nat) (j:Nat) (hl:Fr (owS 2 rAv 56) B U w.heap va l) (hBU:B≤U∧U≤w.heap.size) (_hi:i≤1000000000000) (_hj:j≤1000000000000) (hij:j = i + 1∧j≤l.length) :
    Calls Try.prog 34 #[va,.int .i64 ((i:Nat):Int),.int .i64 ((j:Nat):Int)] w (fun e w'=>∃ v2:Value,e = .returned v2∧Chg (ivb B U) w w'∧Fr (owS 2 rAv 56) B U w'.heap v2 (l.take i++l.drop j)):=by
  refine calls_mk [va,.int .i64 ((i:Nat):Int),.int .i64 ((j:Nat):Int)] 33 Try.func34 rfl rfl sM ?_
  have hE0:Chg (ivb B U) w w:=Chg.refl (ivb B U) w
  obtain ⟨aV,cV,hV,hn0⟩:=hl.isSlS
  have hcV:l.length≤cV:=by have h9:=(RN.of_frA (S:=[]) hl (fun b hb=>by cases hb)).capS; rw [hV] at h9; exact h9
  obtain ⟨pV,hpV⟩:∃ p,aV = some p:=by cases aV with | none=>have:=hn0 rfl; omega | some p=>exact ⟨p,rfl⟩
  refine wp_seq (wp_plain _ [0] rfl (lw_tvn 1 rfl (wp_seq (wp_plain _ [0,0,0,0,0,0] rfl (lw_tv 4 rfl (q_len (v:=va) u24 rfl hl.isSlS zN (q_sl3 (v:=va) (k:=i) (n:=j) (c2:=l.length) u24 tiS56 rfl ⟨aV,hV⟩ rfl rfl rfl oM oM hcV zN fun uq1=>lw_nil (wp_seq (wp_seq (wp_plain _ [0,0,0] rfl (lw_tv 2 rfl ?_)))))))))))
  have hc2:¬ (((i:Nat):Int) = ((j:Nat):Int)):=oM
  refine q_eql false rfl rfl (decide_eq_false hc2) zN (lw_nil (c_cond_f rfl (wp_skip (wp_seq (wp_plain _ [0,0,0] rfl (lw_tv 1 rfl (q_len (v:=va) u24 rfl hl.isSlS zN (lw_tvn 1 rfl (wp_seq (wp_draw _ [0,0,0,0,0,0,4,0] mixed (by kernel_rfl) (lw_tv 2 rfl (q_pref (v:=va) (k:=i) u24 tiS56 rfl hl.isSlS (RN.of_frA (S:=[]) hl (fun b hb=>by cases hb)).capS rfl oM zN (lw_tv 2 rfl (q_sufS (v:=va) (k:=j) u24 tiS56 (by decide) rfl hl.isSlS (RN.of_frA (S:=[]) hl (fun b hb=>by cases hb)).capS rfl oM zN (e_delA (v:=va) (i:=i) (j:=j) good_rAv flN_r u24 tiS56 rfl rfl hl oM oM zN fun w3 F3 hC3 hz3 hF3 hO3=>?_)))))))))))))))
  replace hC3:=hC3.of_drew
  have hzs3:w.heap.size≤w3.heap.size:=hC3.size
  have hE3:Chg (ivb B U) w w3:=hE0.trans (hC3.sub fun x hx=>mem_ivb.2 (hF3 x hx))
  have hlD:(l.take i++l.drop j).length = (i + (l.length - j)):=by rw [List.length_append,List.length_take,List.length_drop]; omega
  refine lw_tvn 1 rfl (wp_seq (wp_plain _ [0,0,0,0,0,4] rfl (lw_tv 2 rfl (q_len (v:=(prefV va (i + (l.length - j)))) u24 rfl hO3.isSlS zN (lw_tv 1 rfl (q_mid (s:=2) (v:=(prefV va (i + (l.length - j)))) (m:=(i + (l.length - j))) (c:=cV) (k:=(l.take i++l.drop j).length) (n:=l.length) u24 tiS56 rfl ⟨aV,by rw [hV]; rfl⟩ rfl rfl (by rw [hlD]; omega) hcV (by rw [hlD]; omega) zN (e_clrA (s:=2) (v:=(prefV va (i + (l.length - j)))) (n:=l.length) (c:=cV) good_rAv flN_r u24 tiS56 rfl (by intro u hu; replace hu:u∈[Value.int .i64 0,Value.int .i64 0]:=hu; rcases List.mem_cons.1 hu with rfl | hu <;> first | rfl | (rw [List.mem_singleton.1 hu]; rfl)) (by decide) rfl hO3 (by rw [hlD]; omega) ⟨aV,(i + (l.length - j)),by rw [hV]; rfl⟩ hcV ⟨pV,(i + (l.length - j)),cV,by rw [hV,hpV]; rfl⟩ zN fun w4 F4 hC4 hz4 hF4 hO4=>?_)))))))
  have hzs4:w3.heap.size≤w4.heap.size:=hC4.size
  have hE4:Chg (ivb B U) w w4:=hE3.trans (hC4.sub fun x hx=>mem_ivb.2 (hF4 x hx))
  exact lw_nil (wp_seq (wp_plain _ [0,0] rfl (lw_tvn 2 rfl (wp_ret (post_ret [6] rfl (prefV va (i + (l.length - j))) rfl ⟨_,rfl,hE4,hO4⟩)))))
theorem z33_0 {p:Prop} (h:p:=by first | (rw [idl_2 oM (by assumption),← hq]; first | exact (scn_f oM oM).symm | exact (scn_t oM oM).symm | exact (scn_e oM).symm) | (rw [idl_1 oM oM]; first | exact (hdL_e oM).symm | exact (hdL_0 oM).symm) | exact (idl_0 oM (by assumption) (by assumption) (by assumption)).symm):p:=h
theorem z33_1 {p:Prop} (h:p:=by intro u hu; simp only [List.mem_cons,List.not_mem_nil,or_false] at hu; rcases hu with rfl | rfl <;> first | exact ⟨rfl,rfl⟩):p:=h
theorem z33_2 {p:Prop} (h:p:=by rw [← hq]; exact scn_go oM oM oM):p:=h
theorem c_impl_isIdle (w:World) (va:Value) (l:List Av) (i:Nat) (hl:RN [] (rdS 2 rAv) w.heap va l) (_hi:i≤1000000000000) (hi:i < l.length) (hll:l.length≤1000000000) :
    Calls Try.prog 33 #[va,.int .i64 ((i:Nat):Int)] w (fun e w'=>e = .returned (.bool (idlS l i))∧Ext w w'):=by
  refine calls_mk [va,.int .i64 ((i:Nat):Int)] 61 Try.func33 rfl rfl sM ?_
  have hE0:Ext w w:=Ext.refl w
  refine wp_seq (wp_plain _ [0] rfl (lw_tvn 1 rfl (wp_seq (wp_draw _ [0,0,0,1,0,0,0,0,3,4,0] mixed (by kernel_rfl) (lw_tv 2 rfl (q_idx (v:=va) i u24 tiS56 rfl rfl hl.isSl rfl sD zN ?_))))))
  obtain ⟨cs1,hr1,hl1⟩:=hl.get good_rAv Av.zero (k:=i) sD
  obtain ⟨rfl,hx1⟩:=rn_av hr1
  refine q_loadA (p:=eptr va i 2) (.inl rfl) [(.int .i64 ((l.getD i Av.zero).kind)),(.int .i64 ((l.getD i Av.zero).arg))] agg56 rfl (fun wq9 hw9=>hl1 wq9 (Chg.of_ext [] (hE0.drew.trans hw9))) rfl zN (lw_tv 2 rfl (q_add ((i + 1:Nat):Int) rfl rfl (w64n oM sD) zN ?_))
  have hlt2:i + 1≤l.length:=by omega
  have hN2:=rn_sufS good_rAv (by decide) hl hlt2
  have hlN2:(l.drop (i + 1)).length = l.length - (i + 1):=List.length_drop
  refine q_sufS (v:=va) (k:=(i + 1)) u24 tiS56 (by decide) rfl hl.isSl hl.capS rfl hlt2 zN ?_
  have hdr3:w.drew.heap.size = w.heap.size:=rfl
  refine r_allocA (z:=.agg #[.int .i64 0,.int .i64 0]) zr56 zN fun w3 hX3 hz3 hB3=>?_
  replace hX3:=hX3.of_drew
  have hzs3:w.heap.size≤w3.heap.size:=hX3.size
  have hE3:Ext w w3:=hE0.trans hX3
  replace hB3:BX w3.heap w.drew.heap.size [(.int .i64 0),(.int .i64 0)]:=hB3
  refine e_setA (vs:=[(.int .i64 ((l.getD i Av.zero).kind)),(.int .i64 ((l.getD i Av.zero).arg))]) agg56 rfl rfl z33_1 hB3 rfl rfl zN fun w4 hC4 hz4 hB4=>?_
  replace hB4:BX w4.heap w.drew.heap.size [(.int .i64 ((l.getD i Av.zero).kind)),(.int .i64 ((l.getD i Av.zero).arg))]:=hB4
  have hE4:Ext w w4:=hC4.below hE3 (fun c hc=>by have:=List.mem_singleton.1 hc; omega) hE3.size
  have hzs4:w3.heap.size≤w4.heap.size:=hC4.size
  refine lw_tvn 1 rfl (wp_seq (wp_seq (wp_plain _ [0,2] rfl (q_fldP (p:=(.pointer (some ⟨w.drew.heap.size,0,none⟩))) (b:=w.drew.heap.size) (o:=0) 0 fd56_0 rfl rfl zN (q_load (p:=(padd (.pointer (some ⟨w.drew.heap.size,0,none⟩)) 0)) (.inr rfl) (.int .i64 ((l.getD i Av.zero).kind)) one2 rfl (hB4.ldp (i:=0) sM) zN (lw_nil (wp_block (wp_seq (wp_plain _ [0,0] rfl ?_)))))))))
  by_cases hc5:(l.getD i Av.zero).kind = ((2:Nat):Int)
  ·
    refine q_eql true rfl rfl (decide_eq_true hc5) zN (lw_tvn 1 rfl (c_cond_t rfl (wp_seq (wp_seq (wp_plain _ [0,0,0] rfl (lw_tv 1 rfl (q_len (v:=(sufS 2 va (i + 1))) u24 rfl hN2.isSl zN (lw_tvn 1 rfl (wp_block ?_)))))))))
    refine c_loop (S:=Nat) (fun (k:Nat)=>([(23,(.int .i64 ((k:Nat):Int))),(5,(.pointer (some ⟨w.drew.heap.size,0,none⟩))),(21,(sufS 2 va (i + 1))),(22,(.int .i64 (((l.drop (i + 1)).length:Nat):Int)))]:List (Nat × Value))) (fun (k:Nat) (W:World)=>Ext w W∧BX W.heap w.drew.heap.size [(.int .i64 ((l.getD i Av.zero).kind)),(.int .i64 ((l.getD i Av.zero).arg))]∧k≤(l.drop (i + 1)).length∧scnI (l.getD i Av.zero).arg ((l.drop (i + 1)).drop k) = scnI (l.getD i Av.zero).arg (l.drop (i + 1))) (fun (k:Nat)=>(l.drop (i + 1)).length - k) 0 ⟨rfl,rfl,rfl,rfl,trivial⟩ ⟨hE4,hB4,oM,(by rfl)⟩ ?_
    clear hE0 hz3 hX3 hzs3 hE3 hz4 hC4 hE4 hzs4
    rintro k ρ6 w6 ⟨hE6,hL6_0,hp6_0,hq⟩
    have hzs6:w.heap.size≤w6.heap.size:=hE6.size
    have hq7:=hL6_0.lt
    refine wp_seq (wp_plain _ [0] rfl ?_)
    by_cases hc8:((k:Nat):Int) < (((l.drop (i + 1)).length:Nat):Int)
    ·
      refine q_lss true rfl rfl (decide_eq_true hc8) zN (lw_nil (wp_seq (c_cond_t rfl (wp_skip (wp_seq (wp_block (wp_seq (wp_plain _ [0,2,3,4] rfl (q_idx (v:=(sufS 2 va (i + 1))) k u24 tiS56 rfl rfl hN2.isSl rfl sD zN ?_)))))))))
      obtain ⟨cs9,hr9,hl9⟩:=hN2.get good_rAv Av.zero (k:=k) sD
      obtain ⟨rfl,hx9⟩:=rn_av hr9
      refine q_loadA (p:=eptr (sufS 2 va (i + 1)) k 2) (.inr rfl) [(.int .i64 (((l.drop (i + 1)).getD k Av.zero).kind)),(.int .i64 (((l.drop (i + 1)).getD k Av.zero).arg))] agg56 rfl (fun wq9 hw9=>hl9 wq9 (Chg.of_ext [] (hE6.trans hw9))) rfl zN ?_
      have hq11:=hL6_0.lt
      refine r_allocA (z:=.agg #[.int .i64 0,.int .i64 0]) zr56 zN fun w10 hX10 hz10 hB10=>?_
      have hzs10:w6.heap.size≤w10.heap.size:=hX10.size
      have hE10:Ext w w10:=hE6.trans hX10
      have hL6_0x10:=hL6_0.ext hX10
      replace hB10:BX w10.heap w6.heap.size [(.int .i64 0),(.int .i64 0)]:=hB10
      refine e_setA (vs:=[(.int .i64 (((l.drop (i + 1)).getD k Av.zero).kind)),(.int .i64 (((l.drop (i + 1)).getD k Av.zero).arg))]) agg56 rfl rfl z33_1 hB10 rfl rfl zN fun w12 hC12 hz12 hB12=>?_
      replace hB12:BX w12.heap w6.heap.size [(.int .i64 (((l.drop (i + 1)).getD k Av.zero).kind)),(.int .i64 (((l.drop (i + 1)).getD k Av.zero).arg))]:=hB12
      have hE12:Ext w w12:=hC12.below hE10 (fun c hc=>by have:=List.mem_singleton.1 hc; omega) hE10.size
      have hzs12:w10.heap.size≤w12.heap.size:=hC12.size
      have hF13:=hL6_0x10.chg hC12 (fun hm=>by have:=List.mem_singleton.1 hm; omega)
      refine lw_nil (wp_seq (wp_seq (wp_plain _ [0,2,0,2,0,0,0,2,0,0] rfl (q_fldP (p:=(.pointer (some ⟨w6.heap.size,0,none⟩))) (b:=w6.heap.size) (o:=0) 1 fd56_1 rfl rfl zN (q_load (p:=(padd (.pointer (some ⟨w6.heap.size,0,none⟩)) 1)) (.inr rfl) (.int .i64 (((l.drop (i + 1)).getD k Av.zero).arg)) one2 rfl (hB12.ldp (i:=1) sM) zN (q_fldP (p:=(.pointer (some ⟨w.drew.heap.size,0,none⟩))) (b:=w.drew.heap.size) (o:=0) 1 fd56_1 rfl rfl zN (q_load (p:=(padd (.pointer (some ⟨w.drew.heap.size,0,none⟩)) 1)) (.inr rfl) (.int .i64 ((l.getD i Av.zero).arg)) one2 rfl (hF13.ldp (i:=1) sM) zN ?_)))))))
      by_cases hc14:((l.drop (i + 1)).getD k Av.zero).arg = (l.getD i Av.zero).arg
      ·
        refine q_eql true rfl rfl (decide_eq_true hc14) zN (lw_tv 1 rfl (q_fldP (p:=(.pointer (some ⟨w6.heap.size,0,none⟩))) (b:=w6.heap.size) (o:=0) 0 fd56_0 rfl rfl (zS (e:=32) rfl rfl rfl) (q_load (p:=(padd (.pointer (some ⟨w6.heap.size,0,none⟩)) 0)) (.inr rfl) (.int .i64 (((l.drop (i + 1)).getD k Av.zero).kind)) one2 rfl (hB12.ldp (i:=0) sM) (zS (e:=32) rfl rfl rfl) ?_)))
        by_cases hc15:((l.drop (i + 1)).getD k Av.zero).kind = ((3:Nat):Int)
        ·
          exact q_eql true rfl rfl (decide_eq_true hc15) (zS (e:=32) rfl rfl rfl) (lw_tvn 1 rfl (c_cond_t rfl (wp_seq (wp_plain _ [0] rfl (lw_tvn 1 rfl (wp_ret (t_ret (b_ret (t_ret (t_ret (b_ret (t_ret (b_ret (t_ret (post_ret [4] rfl (.bool false) rfl ⟨(ret_bool z33_0),hE12⟩)))))))))))))))
        ·
          refine q_eql false rfl rfl (decide_eq_false hc15) (zS (e:=32) rfl rfl rfl) (lw_tvn 1 rfl (c_cond_f rfl (wp_skip (wp_seq (wp_plain _ [0,2,0,2,0,0,0,2,0,0] rfl (q_fldP (p:=(.pointer (some ⟨w6.heap.size,0,none⟩))) (b:=w6.heap.size) (o:=0) 1 fd56_1 rfl rfl zN (q_load (p:=(padd (.pointer (some ⟨w6.heap.size,0,none⟩)) 1)) (.inr rfl) (.int .i64 (((l.drop (i + 1)).getD k Av.zero).arg)) one2 rfl (hB12.ldp (i:=1) sM) zN (q_fldP (p:=(.pointer (some ⟨w.drew.heap.size,0,none⟩))) (b:=w.drew.heap.size) (o:=0) 1 fd56_1 rfl rfl zN (q_load (p:=(padd (.pointer (some ⟨w.drew.heap.size,0,none⟩)) 1)) (.inr rfl) (.int .i64 ((l.getD i Av.zero).arg)) one2 rfl (hF13.ldp (i:=1) sM) zN ?_)))))))))
          by_cases hc16:((l.drop (i + 1)).getD k Av.zero).arg = (l.getD i Av.zero).arg
          ·
            refine q_eql true rfl rfl (decide_eq_true hc16) zN (lw_tv 1 rfl (q_fldP (p:=(.pointer (some ⟨w6.heap.size,0,none⟩))) (b:=w6.heap.size) (o:=0) 0 fd56_0 rfl rfl (zS (e:=42) rfl rfl rfl) (q_load (p:=(padd (.pointer (some ⟨w6.heap.size,0,none⟩)) 0)) (.inr rfl) (.int .i64 (((l.drop (i + 1)).getD k Av.zero).kind)) one2 rfl (hB12.ldp (i:=0) sM) (zS (e:=42) rfl rfl rfl) ?_)))
            by_cases hc17:((l.drop (i + 1)).getD k Av.zero).kind = ((2:Nat):Int)
            ·
              exact q_eql true rfl rfl (decide_eq_true hc17) (zS (e:=42) rfl rfl rfl) (lw_tvn 1 rfl (c_cond_t rfl (wp_seq (wp_plain _ [0] rfl (lw_tvn 1 rfl (wp_ret (b_ret (t_ret (t_ret (b_ret (t_ret (b_ret (t_ret (post_ret [4] rfl (.bool true) rfl ⟨(ret_bool z33_0),hE12⟩))))))))))))))
            ·
              exact q_eql false rfl rfl (decide_eq_false hc17) (zS (e:=42) rfl rfl rfl) (lw_tvn 1 rfl (c_cond_f rfl (wp_skip (wp_plain _ [0,0] rfl (q_add ((k + 1:Nat):Int) rfl rfl (w64n oM sD) zN (lw_tvn 1 rfl ⟨(k + 1),_,rfl,⟨rfl,rfl,rfl,rfl,trivial⟩,⟨hE12,hF13,oM,z33_2⟩,by first | omega | (dsimp only; omega)⟩))))))
          ·
            exact q_eql false rfl rfl (decide_eq_false hc16) zN (lw_tvn 5 rfl (c_cond_f rfl (wp_skip (wp_plain _ [0,0] rfl (q_add ((k + 1:Nat):Int) rfl rfl (w64n oM sD) zN (lw_tvn 1 rfl ⟨(k + 1),_,rfl,⟨rfl,rfl,rfl,rfl,trivial⟩,⟨hE12,hF13,oM,z33_2⟩,by first | omega | (dsimp only; omega)⟩))))))
      ·
        refine q_eql false rfl rfl (decide_eq_false hc14) zN (lw_tvn 5 rfl (c_cond_f rfl (wp_skip (wp_seq (wp_plain _ [0,2,0,2,0,0,0,2,0,0] rfl (q_fldP (p:=(.pointer (some ⟨w6.heap.size,0,none⟩))) (b:=w6.heap.size) (o:=0) 1 fd56_1 rfl rfl zN (q_load (p:=(padd (.pointer (some ⟨w6.heap.size,0,none⟩)) 1)) (.inr rfl) (.int .i64 (((l.drop (i + 1)).getD k Av.zero).arg)) one2 rfl (hB12.ldp (i:=1) sM) zN (q_fldP (p:=(.pointer (some ⟨w.drew.heap.size,0,none⟩))) (b:=w.drew.heap.size) (o:=0) 1 fd56_1 rfl rfl zN (q_load (p:=(padd (.pointer (some ⟨w.drew.heap.size,0,none⟩)) 1)) (.inr rfl) (.int .i64 ((l.getD i Av.zero).arg)) one2 rfl (hF13.ldp (i:=1) sM) zN ?_)))))))))
        by_cases hc18:((l.drop (i + 1)).getD k Av.zero).arg = (l.getD i Av.zero).arg
        ·
          refine q_eql true rfl rfl (decide_eq_true hc18) zN (lw_tv 1 rfl (q_fldP (p:=(.pointer (some ⟨w6.heap.size,0,none⟩))) (b:=w6.heap.size) (o:=0) 0 fd56_0 rfl rfl (zS (e:=42) rfl rfl rfl) (q_load (p:=(padd (.pointer (some ⟨w6.heap.size,0,none⟩)) 0)) (.inr rfl) (.int .i64 (((l.drop (i + 1)).getD k Av.zero).kind)) one2 rfl (hB12.ldp (i:=0) sM) (zS (e:=42) rfl rfl rfl) ?_)))
          by_cases hc19:((l.drop (i + 1)).getD k Av.zero).kind = ((2:Nat):Int)
          ·
            exact q_eql true rfl rfl (decide_eq_true hc19) (zS (e:=42) rfl rfl rfl) (lw_tvn 1 rfl (c_cond_t rfl (wp_seq (wp_plain _ [0] rfl (lw_tvn 1 rfl (wp_ret (b_ret (t_ret (t_ret (b_ret (t_ret (b_ret (t_ret (post_ret [4] rfl (.bool true) rfl ⟨(ret_bool z33_0),hE12⟩))))))))))))))
          ·
            exact q_eql false rfl rfl (decide_eq_false hc19) (zS (e:=42) rfl rfl rfl) (lw_tvn 1 rfl (c_cond_f rfl (wp_skip (wp_plain _ [0,0] rfl (q_add ((k + 1:Nat):Int) rfl rfl (w64n oM sD) zN (lw_tvn 1 rfl ⟨(k + 1),_,rfl,⟨rfl,rfl,rfl,rfl,trivial⟩,⟨hE12,hF13,oM,z33_2⟩,by first | omega | (dsimp only; omega)⟩))))))
        ·
          exact q_eql false rfl rfl (decide_eq_false hc18) zN (lw_tvn 5 rfl (c_cond_f rfl (wp_skip (wp_plain _ [0,0] rfl (q_add ((k + 1:Nat):Int) rfl rfl (w64n oM sD) zN (lw_tvn 1 rfl ⟨(k + 1),_,rfl,⟨rfl,rfl,rfl,rfl,trivial⟩,⟨hE12,hF13,oM,z33_2⟩,by first | omega | (dsimp only; omega)⟩))))))
    ·
      exact q_lss false rfl rfl (decide_eq_false hc8) zN (lw_nil (wp_seq (c_cond_f rfl (wp_exit (t_exit (t_exit (c_exit_here (wp_seq (wp_plain _ [0] rfl (lw_tvn 1 rfl (wp_ret (b_ret (t_ret (post_ret [4] rfl (.bool true) rfl ⟨(ret_bool z33_0),hE6⟩))))))))))))))
  ·
    refine q_eql false rfl rfl (decide_eq_false hc5) zN (lw_tvn 1 rfl (c_cond_f rfl (wp_seq (wp_seq (wp_plain _ [0,0] rfl ?_)))))
    by_cases hc20:(l.getD i Av.zero).kind = ((1:Nat):Int)
    ·
      refine q_eql true rfl rfl (decide_eq_true hc20) zN (lw_tvn 1 rfl (c_cond_t rfl (wp_skip (c_cond_t rfl (wp_seq (wp_plain _ [0,0,0,0,0,0,0,2,0,0,0] rfl (lw_tv 1 rfl (q_len (v:=(sufS 2 va (i + 1))) u24 rfl hN2.isSl zN ?_))))))))
      by_cases hc21:(((l.drop (i + 1)).length:Nat):Int) = ((0:Nat):Int)
      ·
        exact q_eql true rfl rfl (decide_eq_true hc21) zN (lw_tvn 8 rfl (wp_ret (b_ret (t_ret (post_ret [4] rfl (.bool true) rfl ⟨(ret_bool z33_0),hE4⟩)))))
      ·
        refine q_eql false rfl rfl (decide_eq_false hc21) zN (lw_tv 2 rfl (q_idx (v:=(sufS 2 va (i + 1))) 0 u24 tiS56 rfl rfl hN2.isSl rfl sD (zS (e:=54) rfl rfl rfl) ?_))
        obtain ⟨cs22,hr22,hl22⟩:=hN2.get good_rAv Av.zero (k:=0) sD
        obtain ⟨rfl,hx22⟩:=rn_av hr22
        refine q_fldL (p:=eptr (sufS 2 va (i + 1)) 0 2) 0 fd56_0 rfl (hl22 _ (Chg.of_ext [] hE4)) (zS (e:=54) rfl rfl rfl) (q_load (p:=(padd (eptr (sufS 2 va (i + 1)) 0 2) 0)) (.inr rfl) (.int .i64 (((l.drop (i + 1)).getD 0 Av.zero).kind)) one2 rfl ((hl22 _ (Chg.of_ext [] hE4)).ld (i:=0) (by first | (simp [exC,fnC]; done) | simp [inC])) (zS (e:=54) rfl rfl rfl) (q_eql (decide (((l.drop (i + 1)).getD 0 Av.zero).kind = ((3:Nat):Int))) rfl rfl rfl (zS (e:=54) rfl rfl rfl) (lw_tvn 2 rfl (wp_ret (b_ret (t_ret ?_))))))
        exact post_ret [4] rfl (.bool (decide (((l.drop (i + 1)).getD 0 Av.zero).kind = ((3:Nat):Int)))) rfl ⟨(ret_bool z33_0),hE4⟩
    ·
      refine q_eql false rfl rfl (decide_eq_false hc20) zN (lw_tvn 1 rfl (c_cond_f rfl (wp_plain _ [0,0] rfl ?_)))
      by_cases hc23:(l.getD i Av.zero).kind = ((3:Nat):Int)
      ·
        refine q_eql true rfl rfl (decide_eq_true hc23) zN (lw_tvn 1 rfl (c_cond_t rfl (wp_seq (wp_plain _ [0,0,0,0,0,0,0,2,0,0,0] rfl (lw_tv 1 rfl (q_len (v:=(sufS 2 va (i + 1))) u24 rfl hN2.isSl zN ?_))))))
        by_cases hc24:(((l.drop (i + 1)).length:Nat):Int) = ((0:Nat):Int)
        ·
          exact q_eql true rfl rfl (decide_eq_true hc24) zN (lw_tvn 8 rfl (wp_ret (b_ret (t_ret (post_ret [4] rfl (.bool true) rfl ⟨(ret_bool z33_0),hE4⟩)))))
        ·
          refine q_eql false rfl rfl (decide_eq_false hc24) zN (lw_tv 2 rfl (q_idx (v:=(sufS 2 va (i + 1))) 0 u24 tiS56 rfl rfl hN2.isSl rfl sD (zS (e:=54) rfl rfl rfl) ?_))
          obtain ⟨cs25,hr25,hl25⟩:=hN2.get good_rAv Av.zero (k:=0) sD
          obtain ⟨rfl,hx25⟩:=rn_av hr25
          refine q_fldL (p:=eptr (sufS 2 va (i + 1)) 0 2) 0 fd56_0 rfl (hl25 _ (Chg.of_ext [] hE4)) (zS (e:=54) rfl rfl rfl) (q_load (p:=(padd (eptr (sufS 2 va (i + 1)) 0 2) 0)) (.inr rfl) (.int .i64 (((l.drop (i + 1)).getD 0 Av.zero).kind)) one2 rfl ((hl25 _ (Chg.of_ext [] hE4)).ld (i:=0) (by first | (simp [exC,fnC]; done) | simp [inC])) (zS (e:=54) rfl rfl rfl) (q_eql (decide (((l.drop (i + 1)).getD 0 Av.zero).kind = ((3:Nat):Int))) rfl rfl rfl (zS (e:=54) rfl rfl rfl) (lw_tvn 2 rfl (wp_ret (b_ret (t_ret ?_))))))
          exact post_ret [4] rfl (.bool (decide (((l.drop (i + 1)).getD 0 Av.zero).kind = ((3:Nat):Int)))) rfl ⟨(ret_bool z33_0),hE4⟩
      ·
        exact q_eql false rfl rfl (decide_eq_false hc23) zN (lw_tvn 1 rfl (c_cond_f rfl (wp_skip (wp_seq (wp_plain _ [0] rfl (lw_tvn 1 rfl (wp_ret (post_ret [4] rfl (.bool false) rfl ⟨(ret_bool z33_0),hE4⟩))))))))
theorem c_impl_areSteps (w:World) (k:Int) (_hk:-9223372036854775808≤k∧k≤9223372036854775807)  :
    Calls Try.prog 48 #[.int .i64 k] w (fun e w'=>e = .returned (.bool (decide (0≤k) && decide (k≤40)))∧Ext w w'):=by
  refine calls_mk [.int .i64 k] 5 Try.func48 rfl rfl sM ?_
  have hE0:Ext w w:=Ext.refl w
  exact wp_seq (wp_plain _ [0] rfl (lw_tvn 1 rfl (wp_seq (wp_plain _ [0,0,0] rfl (lw_tv 1 rfl (lw_callq 46 [] [] [(.int .i64 k),(.int .i64 ((0:Nat):Int)),(.int .i64 ((40:Nat):Int))] rfl rfl cf46 zN (.bool (decide (((0:Nat):Int)≤k) && decide (k≤((40:Nat):Int)))) (fun wq=>c_impl_within wq _ _ _ _hk oM oM) (lw_tvn 1 rfl (wp_ret (post_ret [2] rfl (.bool (decide (((0:Nat):Int)≤k) && decide (k≤((40:Nat):Int)))) rfl ⟨rfl,hE0⟩)))))))))
theorem z31_0 {p:Prop} (h:p:=by first | (have h8:(!schB l) = true:=(by assumption); exact (plC_1 (by simpa using h8)).symm) | (have h8:(!schB l) = false:=(by assumption); have h7:schB l = true:=(by simpa using h8); first | exact (plC_2 h7 (fun h9=>by simp_all; done)).symm | exact (plC_2 h7 (fun h9=>by simp_all; omega)).symm | exact (plC_0 h7 (by simp_all; done)).symm | exact (plC_0 h7 (by simp_all; omega)).symm)):p:=h
theorem c_impl_isPlan (w:World) (va:Value) (l:List Av) (n:Int) (k:Int) (hl:RN [] (rdS 2 rAv) w.heap va l) (_hn:-9223372036854775808≤n∧n≤9223372036854775807) (_hk:-9223372036854775808≤k∧k≤9223372036854775807) (hll:l.length≤1000000000) :
    Calls Try.prog 31 #[va,.int .i64 n,.int .i64 k] w (fun e w'=>e = .returned (.int .i64 (plC l n k))∧Ext w w'):=by
  refine calls_mk [va,.int .i64 n,.int .i64 k] 20 Try.func31 rfl rfl sM ?_
  have hE0:Ext w w:=Ext.refl w
  refine wp_seq (wp_plain _ [0] rfl (lw_tvn 1 rfl (wp_seq (wp_block (wp_seq (wp_plain _ [0,3,0,0] rfl (lw_tv 1 rfl (lw_call 24 [] [] [va] rfl rfl cf24 zN (c_impl_ValidSchedule _ va l (hl.ext (good_rdS good_rAv) hE0)) ?_))))))))
  rintro e1 w1 ⟨rfl,hX1⟩
  refine ⟨_,rfl,hX1,?_⟩
  have hzs1:w.heap.size≤w1.heap.size:=hX1.size
  have hE1:Ext w w1:=hE0.trans hX1
  refine q_not (!(schB l)) rfl rfl zN (lw_tvn 1 rfl ?_)
  cases hb2:(!(schB l))
  ·
    refine c_cond_f (by first | rfl | (show Value.bool _ = _; rw [hb2])) (wp_seq (wp_plain _ [0,3,0,0,0,3,0,0,0] rfl (lw_tv 1 rfl (lw_call 48 [] [] [(.int .i64 n)] rfl rfl cf48 zN (c_impl_areSteps _ _ _hn) ?_))))
    rintro e3 w3 ⟨rfl,hX3⟩
    refine ⟨_,rfl,hX3,?_⟩
    have hzs3:w1.heap.size≤w3.heap.size:=hX3.size
    have hE3:Ext w w3:=hE1.trans hX3
    refine q_not (!(decide (0≤n) && decide (n≤40))) rfl rfl zN (lw_tv 1 rfl ?_)
    cases hb4:(!(decide (0≤n) && decide (n≤40)))
    ·
      refine lw_tv 1 rfl (lw_call 26 [] [] [(.int .i64 k)] rfl rfl cf26 (zS (e:=15) rfl rfl rfl) (c_impl_areSlots _ _ _hk) ?_)
      rintro e5 w5 ⟨rfl,hX5⟩
      refine ⟨_,rfl,hX5,?_⟩
      have hzs5:w3.heap.size≤w5.heap.size:=hX5.size
      have hE5:Ext w w5:=hE3.trans hX5
      refine q_not (!(decide (0≤k) && decide (k≤8))) rfl rfl (zS (e:=15) rfl rfl rfl) (lw_tvn 2 rfl ?_)
      cases hb6:(!(decide (0≤k) && decide (k≤8)))
      ·
        exact c_cond_f (by first | rfl | (show Value.bool _ = _; rw [hb6])) (wp_skip (wp_seq (wp_plain _ [0] rfl (lw_tvn 1 rfl (wp_ret (post_ret [6] rfl (.int .i64 ((0:Nat):Int)) rfl ⟨(ret_int z31_0),hE5⟩))))))
      ·
        exact c_cond_t (by first | rfl | (show Value.bool _ = _; rw [hb6])) (wp_seq (wp_plain _ [0] rfl (lw_tvn 1 rfl (wp_ret (b_ret (t_ret (post_ret [6] rfl (.int .i64 ((2:Nat):Int)) rfl ⟨(ret_int z31_0),hE5⟩)))))))
    ·
      exact lw_tvn 5 rfl (c_cond_t rfl (wp_seq (wp_plain _ [0] rfl (lw_tvn 1 rfl (wp_ret (b_ret (t_ret (post_ret [6] rfl (.int .i64 ((2:Nat):Int)) rfl ⟨(ret_int z31_0),hE3⟩))))))))
  ·
    exact c_cond_t (by first | rfl | (show Value.bool _ = _; rw [hb2])) (wp_seq (wp_plain _ [0] rfl (lw_tvn 1 rfl (wp_ret (b_ret (t_ret (post_ret [6] rfl (.int .i64 ((1:Nat):Int)) rfl ⟨(ret_int z31_0),hE1⟩)))))))
theorem z12_0 {p:Prop} (h:p:=by first | exact idl_next hq (by (have h8:(!idlS xs i) = true:=(by assumption); simpa using h8)) | (intro j hj; omega)):p:=h
theorem z12_1 {p:Prop} (h:p:=by first | exact htr | exact trm_st htr (by (have h8:(!idlS xs i) = false:=(by assumption); simpa using h8)) hq):p:=h
theorem z12_2 {p:Prop} (h:p:=by first | omega | (simp only [List.length_append,List.length_nil,List.length_take,List.length_drop]; omega)):p:=h
theorem c_impl_TrimSchedule (w:World) (va:Value) (l:List Av) (n:Int) (k:Int) (hl:RN [] (rdS 2 rAv) w.heap va l) (_hn:-9223372036854775808≤n∧n≤9223372036854775807) (_hk:-9223372036854775808≤k∧k≤9223372036854775807) (hll:l.length≤1000000000) :
    Calls Try.prog 12 #[va,.int .i64 n,.int .i64 k] w (fun e w'=>∃ v2:Value,e = .returned (.tuple #[v2,.int .i64 (tmC l n k)])∧Ext w w'∧Fr (owS 2 rAv 56) w.heap.size w'.heap.size w'.heap v2 (tmR l n k)):=by
  refine calls_mk [va,.int .i64 n,.int .i64 k] 48 Try.func12 rfl rfl sM ?_
  have hE0:Ext w w:=Ext.refl w
  refine wp_seq (wp_plain _ [0,0] rfl (lw_tvn 2 rfl (wp_seq (wp_seq (wp_plain _ [0,0,0,3,0] rfl (lw_tv 3 rfl (lw_call 31 [] [] [va,(.int .i64 n),(.int .i64 k)] rfl rfl cf31 zN (c_impl_isPlan _ va l _ _ (hl.ext (good_rdS good_rAv) hE0) _hn _hk oM) ?_)))))))
  rintro e1 w1 ⟨rfl,hX1⟩
  refine ⟨_,rfl,hX1,?_⟩
  have hzs1:w.heap.size≤w1.heap.size:=hX1.size
  have hE1:Ext w w1:=hE0.trans hX1
  refine lw_tvn 1 rfl (wp_seq (wp_plain _ [0,0] rfl (lw_tv 1 rfl ?_)))
  by_cases hc2:plC l n k≠((0:Nat):Int)
  ·
    exact q_neq true rfl rfl (decide_eq_true hc2) zN (lw_nil (c_cond_t rfl (wp_seq (wp_plain _ [0,0,0] rfl (lw_tvn 3 rfl (wp_ret (t_ret (post_ret [6,7] rfl (.tuple #[(.slice none 0 0),(.int .i64 (plC l n k))]) rfl ⟨_,(by rw [tmC_n oM]),hE1,(by rw [tmR_n (by rw [tmC_n oM]; omega)]; exact frNilS _ _ _)⟩))))))))
  ·
    refine q_neq false rfl rfl (decide_eq_false hc2) zN (lw_nil (c_cond_f rfl (wp_skip (wp_seq (wp_seq (wp_plain _ [0,0,0,3,0,0,0,0,0] rfl ?_))))))
    have hpl:plC l n k = 0:=by omega
    obtain ⟨hsc,hnn,hkk⟩:=plC_i hpl
    have hsl:=schB_iff.1 hsc
    generalize hg_nq:n = nqI at *
    obtain ⟨nq,rfl⟩:∃ n:Nat,nqI = ((n:Nat):Int):=⟨nqI.toNat,by omega⟩
    generalize hg_kq:k = kqI at *
    obtain ⟨kq,rfl⟩:∃ n:Nat,kqI = ((n:Nat):Int):=⟨kqI.toNat,by omega⟩
    refine lw_tv 3 rfl (lw_call 32 [] [] [va,(.int .i64 ((nq:Nat):Int)),(.int .i64 ((kq:Nat):Int))] rfl rfl cf32 zN (c_impl_firstBad _ va l nq kq (hl.ext (good_rdS good_rAv) hE1) oM oM oM oM (by exact hsl.2)) ?_)
    rintro e3 w3 ⟨g,gm,vs,vo,Fs,Fo,z,rfl,hX3,hK,hlow,hfin⟩
    refine ⟨_,rfl,hX3,?_⟩
    have hzs3:w1.heap.size≤w3.heap.size:=hX3.size
    have hE3:Ext w w3:=hE1.trans hX3
    have hlw9:w.heap.size≤w1.heap.size:=hE1.size
    have hfr3:=fb_rng l (bgn ((nq:Nat):Int) kq)
    refine lw_tv 1 rfl (q_extract (vs:=[(.pointer (some ⟨g,0,none⟩)),(.int .i64 (fbS l (bgn ((nq:Nat):Int) kq) 0))]) (.pointer (some ⟨g,0,none⟩)) rfl rfl zN (q_extract (vs:=[(.pointer (some ⟨g,0,none⟩)),(.int .i64 (fbS l (bgn ((nq:Nat):Int) kq) 0))]) (.int .i64 (fbS l (bgn ((nq:Nat):Int) kq) 0)) rfl rfl zN (lw_tvn 2 rfl (wp_seq (wp_plain _ [0,0] rfl (lw_tv 1 rfl ?_))))))
    by_cases hc4:((0:Nat):Int)≤(fbS l (bgn ((nq:Nat):Int) kq) 0)
    ·
      refine q_geq true rfl rfl (decide_eq_true hc4) zN (lw_nil (c_cond_t rfl (wp_seq (wp_plain _ [0,0] rfl ?_))))
      have hA:tmC l ((nq:Nat):Int) ((kq:Nat):Int) = 4:=by rw [tmC_u hpl]; exact usC_4 oM
      exact lw_tvn 2 rfl (wp_ret (t_ret (post_ret [6,7] rfl (.tuple #[(.slice none 0 0),(.int .i64 ((4:Nat):Int))]) rfl ⟨_,(by rw [hA]; rfl),hE3,(by rw [tmR_n (by rw [hA]; omega)]; exact frNilS _ _ _)⟩)))
    ·
      refine q_geq false rfl rfl (decide_eq_false hc4) zN (lw_nil (c_cond_f rfl (wp_skip (wp_seq (wp_plain _ [3,0,4,0] rfl ?_)))))
      have hA0:tmC l ((nq:Nat):Int) ((kq:Nat):Int) = 0:=by rw [tmC_u hpl]; exact usC_0 oM
      have hll4:l.length≤400:=hsl.1
      have hwB:w.heap.size≤w3.heap.size:=hE3.size
      refine r_nilS (α:=Av) good_rAv u24 tiS56 zN fun v5 w5 hX5 hz5 hO5=>?_
      have hzs5:w3.heap.size≤w5.heap.size:=hX5.size
      have hE5:Ext w w5:=hE3.trans hX5
      refine lw_tv 1 rfl (e_appA (v:=v5) (a:=va) (ys:=l) good_rAv flN_r u24 tiS56 rfl (by decide) rfl rfl hO5 oM (hl.ext (good_rdS good_rAv) hE5) (by simp only [List.length_nil,List.length_append,List.length_take,List.length_drop]; omega) (by unfold maxLen; simp only [List.length_nil,List.length_append,List.length_take,List.length_drop]; omega) zN fun v6 w6 F6 hC6 hF6 hO6=>?_)
      have hzs6:w5.heap.size≤w6.heap.size:=hC6.size
      have hE6:Ext w w6:=hC6.below hE5 (fun c hc=>by have:=hF6 _ hc; omega) hE5.size
      refine lw_tvn 1 rfl (wp_seq (wp_seq (wp_plain _ [0] rfl (lw_tvn 1 rfl (wp_block (c_loop (S:=Nat × Value × List Av) (fun (⟨i,vo,xs⟩:Nat × Value × List Av)=>([(11,vo),(12,(.int .i64 ((i:Nat):Int)))]:List (Nat × Value))) (fun (⟨i,vo,xs⟩:Nat × Value × List Av) (W:World)=>Ext w W∧Fr (owS 2 rAv 56) w3.heap.size W.heap.size W.heap vo xs∧xs.length≤400∧i≤xs.length∧trmF xs = trmF l∧(∀ j,j < i→idlS xs j = false)∧w3.heap.size≤W.heap.size) (fun (⟨i,vo,xs⟩:Nat × Value × List Av)=>xs.length * 401 + (400 - i)) (0,v6,(([]:List Av)++l)) ⟨rfl,rfl,trivial⟩ ⟨hE6,hO6.up (good_owS good_rAv),(by simp only [List.length_append,List.length_nil]; omega),oM,(by rfl),(by intro j hj; omega),oM⟩ ?_))))))
      clear hE0 hX1 hzs1 hE1 hX3 hO5 hz5 hX5 hzs5 hE5 hO6 hF6 hC6 hzs6 hE6
      rintro ⟨i,vo,xs⟩ ρ7 w7 ⟨hE7,hL7_0,hxl,hix,htr,hq,hkB8⟩
      have hzs7:w.heap.size≤w7.heap.size:=hE7.size
      refine wp_seq (wp_seq (wp_plain _ [0,0,0,0] rfl (lw_tv 2 rfl (q_len (v:=vo) u24 rfl hL7_0.isSlS zN ?_))))
      by_cases hc9:((i:Nat):Int) < ((xs.length:Nat):Int)
      ·
        refine q_lss true rfl rfl (decide_eq_true hc9) zN (lw_nil (c_cond_t rfl (wp_skip (wp_block (wp_seq (wp_seq (wp_plain _ [0,0,3,0] rfl (lw_tv 2 rfl (lw_call 33 [] [] [vo,(.int .i64 ((i:Nat):Int))] rfl rfl cf33 zN (c_impl_isIdle _ vo xs (i) (RN.of_frA (S:=[]) hL7_0 (fun b hb=>by cases hb)) sD oM oM) ?_)))))))))
        rintro e10 w10 ⟨rfl,hX10⟩
        refine ⟨_,rfl,hX10,?_⟩
        have hzs10:w7.heap.size≤w10.heap.size:=hX10.size
        have hE10:Ext w w10:=hE7.trans hX10
        have hL7_0x10:=hL7_0.ext ((good_owS good_rAv)) hX10
        refine q_not (!(idlS xs i)) rfl rfl zN (lw_nil ?_)
        cases hb11:(!(idlS xs i))
        ·
          refine c_cond_f (by first | rfl | (show Value.bool _ = _; rw [hb11])) (wp_skip (wp_seq (wp_plain _ [0,0,0,0,4,0] rfl (lw_tv 3 rfl (q_add ((i + 1:Nat):Int) rfl rfl (w64n oM oM) zN (lw_callE 34 [] [] [vo,(.int .i64 ((i:Nat):Int)),(.int .i64 ((i + 1:Nat):Int))] rfl rfl cf34 zN (c_slices_Delete_av _ vo xs w3.heap.size w7.heap.size i (i + 1) hL7_0x10 ⟨by omega,by omega⟩ oM oM oM) ?_))))))
          rintro e12 w12 ⟨v12,rfl,hC12,hO12⟩
          refine ⟨_,rfl,?_⟩
          have hF12:∀ c∈ivb w3.heap.size w7.heap.size,w3.heap.size≤c∧c < w7.heap.size:=fun c hc=>mem_ivb.1 hc
          have hzs12:w10.heap.size≤w12.heap.size:=hC12.size
          have hE12:Ext w w12:=hC12.below hE10 (fun c hc=>by have:=hF12 _ hc; omega) hE10.size
          exact lw_tvn 1 rfl (wp_plain _ [0] rfl (lw_tvn 1 rfl ⟨(0,v12,(xs.take i++xs.drop (i + 1))),_,rfl,⟨rfl,rfl,trivial⟩,⟨hE12,hO12.up (good_owS good_rAv),z12_2,oM,z12_1,z12_0,oM⟩,by first | omega | (simp only [List.length_append,List.length_nil,List.length_take,List.length_drop]; omega)⟩))
        ·
          exact c_cond_t (by first | rfl | (show Value.bool _ = _; rw [hb11])) (wp_seq (wp_plain _ [0,0,0] rfl (lw_tv 1 rfl (q_add ((i + 1:Nat):Int) rfl rfl (w64n oM oM) zN (lw_tvn 1 rfl (wp_exit (t_exit (c_exit_here ⟨((i + 1),vo,xs),_,rfl,⟨rfl,rfl,trivial⟩,⟨hE10,hL7_0x10.up (good_owS good_rAv),z12_2,oM,z12_1,z12_0,oM⟩,by first | omega | (simp only [List.length_append,List.length_nil,List.length_take,List.length_drop]; omega)⟩))))))))
      ·
        exact q_lss false rfl rfl (decide_eq_false hc9) zN (lw_nil (c_cond_f rfl (wp_exit (t_exit (t_exit (c_exit_here (wp_seq (wp_plain _ [0,0,0] rfl (lw_tvn 3 rfl (wp_ret (post_ret [6,7] rfl (.tuple #[vo,(.int .i64 ((0:Nat):Int))]) rfl ⟨_,(by rw [hA0]; rfl),hE7,(by rw [tmR_0 hA0,← trm_en htr oM hq]; exact ((hL7_0.up (good_owS good_rAv)).low (B':=w.heap.size) oM))⟩)))))))))))
theorem z11_0 {p:Prop} (h:p:=by first | exact (decide_eq_true (leq_done hq oM oM)).symm | exact (decide_eq_false (av_ne (k:=k) (by assumption))).symm):p:=h
theorem c_laws_f6actions (w:World) (va:Value) (a:List Av) (vb:Value) (b:List Av) (ha:RN [] (rdS 2 rAv) w.heap va a) (hb:RN [] (rdS 2 rAv) w.heap vb b) (hla:a.length≤1000000000) (hlb:b.length≤1000000000) :
    Calls Try.prog 11 #[va,vb] w (fun e w'=>e = .returned (.bool (decide (a = b)))∧Ext w w'):=by
  refine calls_mk [va,vb] 26 Try.func11 rfl rfl sM ?_
  have hE0:Ext w w:=Ext.refl w
  refine wp_seq (wp_plain _ [0] rfl (lw_tvn 1 rfl (wp_seq (wp_seq (wp_plain _ [0,0,0,0,0] rfl (lw_tv 1 rfl (q_len (v:=va) u24 rfl ha.isSl zN (lw_tv 1 rfl (q_len (v:=vb) u24 rfl hb.isSl zN ?_)))))))))
  by_cases hc1:((a.length:Nat):Int)≠((b.length:Nat):Int)
  ·
    exact q_neq true rfl rfl (decide_eq_true hc1) zN (lw_nil (c_cond_t rfl (wp_seq (wp_plain _ [0] rfl (lw_tvn 1 rfl (wp_ret (t_ret (post_ret [4] rfl (.bool false) rfl ⟨(ret_bool (decide_eq_false (leq_len oM)).symm),hE0⟩))))))))
  ·
    refine q_neq false rfl rfl (decide_eq_false hc1) zN (lw_nil (c_cond_f rfl (wp_skip (wp_seq (wp_seq (wp_plain _ [0] rfl (lw_tvn 1 rfl (wp_block ?_))))))))
    refine c_loop (S:=Nat) (fun (k:Nat)=>([(5,(.int .i64 ((k:Nat):Int))),(0,va),(1,vb)]:List (Nat × Value))) (fun (k:Nat) (W:World)=>Ext w W∧k≤a.length∧(∀ j,j < k→a.getD j Av.zero = b.getD j Av.zero)) (fun (k:Nat)=>a.length - k) 0 ⟨rfl,rfl,rfl,trivial⟩ ⟨hE0,sD,(by intro j hj; omega)⟩ ?_
    clear hE0
    rintro k ρ2 w2 ⟨hE2,hp2_0,hq⟩
    have hzs2:w.heap.size≤w2.heap.size:=hE2.size
    refine wp_seq (wp_seq (wp_plain _ [0,0,0,0] rfl (lw_tv 2 rfl (q_len (v:=va) u24 rfl ha.isSl zN ?_))))
    by_cases hc3:((k:Nat):Int) < ((a.length:Nat):Int)
    ·
      refine q_lss true rfl rfl (decide_eq_true hc3) zN (lw_nil (c_cond_t rfl (wp_skip (wp_seq (wp_block (wp_seq (wp_draw _ [0,0,0,1,0,0,0,1,0] mixed (by kernel_rfl) (lw_tv 2 rfl (q_idx (v:=va) k u24 tiS56 rfl rfl ha.isSl rfl sD zN ?_)))))))))
      obtain ⟨cs4,hr4,hl4⟩:=ha.get good_rAv Av.zero (k:=k) sD
      obtain ⟨rfl,hx4⟩:=rn_av hr4
      refine q_loadA (p:=eptr va k 2) (.inl rfl) [(.int .i64 ((a.getD k Av.zero).kind)),(.int .i64 ((a.getD k Av.zero).arg))] agg56 rfl (fun wq9 hw9=>hl4 wq9 (Chg.of_ext [] (hE2.drew.trans hw9))) rfl zN (lw_tv 2 rfl (q_idx (v:=vb) k u24 tiS56 rfl rfl hb.isSl rfl sD zN ?_))
      obtain ⟨cs5,hr5,hl5⟩:=hb.get good_rAv Av.zero (k:=k) sD
      obtain ⟨rfl,hx5⟩:=rn_av hr5
      refine q_loadA (p:=eptr vb k 2) (.inl rfl) [(.int .i64 ((b.getD k Av.zero).kind)),(.int .i64 ((b.getD k Av.zero).arg))] agg56 rfl (fun wq9 hw9=>hl5 wq9 (Chg.of_ext [] (hE2.drew.trans hw9))) rfl zN ?_
      by_cases hc6:([(a.getD k Av.zero).kind,(a.getD k Av.zero).arg]:List Int) = [(b.getD k Av.zero).kind,(b.getD k Av.zero).arg]
      ·
        refine q_neqA (us:=[(a.getD k Av.zero).kind,(a.getD k Av.zero).arg]) (vs:=[(b.getD k Av.zero).kind,(b.getD k Av.zero).arg]) false (by kernel_rfl) rfl rfl rfl rfl rfl (by rw [decide_eq_true hc6]; rfl) zN (lw_nil (c_cond_f rfl (wp_skip (wp_plain _ [0,0,0] rfl (lw_tv 1 rfl (q_add ((k + 1:Nat):Int) rfl rfl (w64n oM oM) zN (lw_tvn 1 rfl ?_)))))))
        exact ⟨(k + 1),_,rfl,⟨rfl,rfl,rfl,trivial⟩,⟨hE2.drew,sD,(by exact av_next hq (by assumption))⟩,by first | omega | (dsimp only; omega)⟩
      ·
        exact q_neqA (us:=[(a.getD k Av.zero).kind,(a.getD k Av.zero).arg]) (vs:=[(b.getD k Av.zero).kind,(b.getD k Av.zero).arg]) true (by kernel_rfl) rfl rfl rfl rfl rfl (by rw [decide_eq_false hc6]; rfl) zN (lw_nil (c_cond_t rfl (wp_seq (wp_plain _ [0] rfl (lw_tvn 1 rfl (wp_ret (b_ret (t_ret (t_ret (b_ret (t_ret (post_ret [4] rfl (.bool false) rfl ⟨(ret_bool z11_0),hE2.drew⟩))))))))))))
    ·
      exact q_lss false rfl rfl (decide_eq_false hc3) zN (lw_nil (c_cond_f rfl (wp_exit (t_exit (t_exit (c_exit_here (wp_seq (wp_plain _ [0] rfl (lw_tvn 1 rfl (wp_ret (post_ret [4] rfl (.bool true) rfl ⟨(ret_bool z11_0),hE2⟩)))))))))))
end Go.Proofs.Ytoacbkmejjhceaa
namespace Go.Proofs.Ytoacbkmejjhceaa
open Go Go.RowKit
set_option linter.unusedVariables false
set_option linter.unusedSimpArgs false
inductive LE (P:Nat→Int):Nat→Nat→Nat→Int→Prop
  | z {c a b:Nat} {v:Int}:b≤a + 1→0≤v→LE P c a b v
  | s {c a b m:Nat} {r l v:Int}:a < m→m < b→LE P c m b r→LE P (c + 1) a m l→P m - P a + r + l≤v→LE P (c + 1) a b v
section
variable {P:Nat→Int} {c a b m N s k t u i:Nat} {v x y r l:Int} {A A' H:Nat→Prop} {M K T:List Nat}
theorem LE.up (h:LE P c a b v) (hv:v≤x):LE P c a b x:=by
  cases h with
  | z h1 h2=>exact .z h1 (by omega)
  | s h1 h2 h3 h4 h5=>exact .s h1 h2 h3 h4 (by omega)
theorem LE.more (h:LE P c a b v):LE P (c + 1) a b v:=by
  induction h with
  | z h1 h2=>exact .z h1 h2
  | s h1 h2 h3 h4 h5 i3 i4=>exact .s h1 h2 i3 i4 h5
theorem LE.pos (hP:∀ i j,i≤j→P i≤P j) (h:LE P c a b v):0≤v:=by
  induction h with
  | z h1 h2=>exact h2
  | @s c a b m r l v h1 h2 h3 h4 h5 i3 i4=>have:=hP a m (by omega); omega
theorem LE.off (hP:∀ i j,i≤j→P i≤P j) (h:LE P (c + 1) a b v) (hab:a < b):LE P (c + 1) a (b + 1) (v + (P b - P a)) :=
  .s hab (Nat.lt_succ_self _) (.z (Nat.le_refl _) (Int.le_refl 0)) h (by omega)
theorem LE.zero (h:LE P 0 a b v):b≤a + 1:=by cases h with | z h1 h2=>exact h1
theorem LE.ro (hP:∀ i j,i≤j→P i≤P j):∀ (b:Nat) {y:Int} {l a:Nat},LE P 1 l b y→l < a→a≤b→∃ y1 y2,LE P 1 l a y1∧LE P 1 a (b + 1) y2∧y1 + y2≤y + (P b - P a)
  | 0,y,l,a,h,hl,hab=>by omega
  | b + 1,y,l,a,h,hl,hab=>by
    by_cases e:a = b + 1
    · subst e
      exact ⟨y,0,h,.z (Nat.le_refl _) (Int.le_refl _),by omega⟩
    · cases h with
      | z h1 h2=>omega
      | @s _ _ _ m r l' _ h1 h2 h3 h4 h5 =>
        have hm:=h3.zero
        have hr:=h3.pos hP
        have e2:m = b:=by omega
        subst e2
        obtain ⟨y1,y2,q1,q2,q3⟩:=LE.ro hP m h4 hl (by omega)
        refine ⟨y1,y2 + (P (m + 1) - P a),q1,LE.off hP q2 (by omega),?_⟩
        have:=hP l a (by omega)
        omega
def pd (s:Nat):Nat:=if s≤1 then 1 else s - 1
theorem pd_pos:1≤pd s:=by unfold pd; split <;> omega
theorem pd_2 (h:2≤s):s = pd s + 1:=by unfold pd; rw [if_neg (by omega)]; omega
theorem LE.mono (h:LE P c a b v):∀ {e:Nat},c≤e→LE P e a b v:=fun {e} he=>by
  induction e with
  | zero => have : c = 0 := by omega
            subst this; exact h
  | succ e ih =>
    by_cases e2:c = e + 1
    · subst e2; exact h
    · exact (ih (by omega)).more
theorem pd_mono {s':Nat} (h:s≤s'):pd s≤pd s':=by unfold pd; split <;> split <;> omega
theorem pd_le (h:1≤s):pd s≤s:=by unfold pd; split <;> omega
def CH (P:Nat→Int) (b:Nat):Nat→List Nat→Int→Prop
  | s,[],v=>False
  | s,[m],v=>m < b∧LE P s m b v
  | s,m :: t :: T,v=>m < t∧∃ x y,LE P s m t x∧CH P b (pd s) (t :: T) y∧x + y≤v
theorem CH.mono:∀ {K:List Nat} {s s':Nat} {v:Int},CH P b s K v→s≤s'→CH P b s' K v
  | [],_,_,_,h,_=>h
  | [m],_,_,_,h,hv=>⟨h.1,h.2.mono hv⟩
  | m :: t :: T,_,_,_,⟨h1,x,y,h2,h3,h4⟩,hv=>⟨h1,x,y,h2.mono hv,h3.mono (pd_mono hv),h4⟩
def lst:List Nat→Nat
  | []=>0
  | [m]=>m
  | _ :: t :: T=>lst (t :: T)
theorem lst_mem:∀ {K:List Nat},K≠[]→lst K∈K
  | [],h=>absurd rfl h
  | [m],_=>List.mem_cons_self ..
  | m :: t :: T,_=>List.mem_cons_of_mem _ (lst_mem (K:=t :: T) (by simp))
theorem lst_app:∀ (K:List Nat) (m:Nat),lst (K++[m]) = m
  | [],m=>rfl
  | [k],m=>rfl
  | k :: t :: T,m=>lst_app (t :: T) m
theorem CH.le:∀ {K:List Nat} {s:Nat} {v:Int} {k:Nat},CH P b s (k :: K) v→∀ m∈k :: K,k≤m∧m≤lst (k :: K)∧m < b
  | [],_,_,k,h,m,hm=>by
    have e:=List.mem_singleton.1 hm
    subst e; exact ⟨Nat.le_refl _,Nat.le_refl _,h.1⟩
  | t :: T,_,_,k,⟨h1,x,y,h2,h3,h4⟩,m,hm=>by
    have ht:=CH.le h3 t (List.mem_cons_self ..)
    rcases List.mem_cons.1 hm with e | e
    · subst e; refine ⟨Nat.le_refl _,?_,by omega⟩
      show m≤lst (t :: T); omega
    · have:=CH.le h3 m e
      refine ⟨by omega,this.2.1,this.2.2⟩
theorem CH.lt (h:CH P b s (k :: K) v):lst (k :: K) < b:=(h.le _ (lst_mem (by simp))).2.2
theorem CH.join:∀ {K:List Nat} {s:Nat} {v:Int} {k:Nat},CH P b s (k :: K) v→K.length < s→LE P s k b (P (lst (k :: K)) - P k + v)
  | [],s,v,k,h,_=>h.2.up (by show v≤P k - P k + v; omega)
  | t :: T,s,v,k,⟨h1,x,y,h2,h3,h4⟩,hs=>by
    have hl:(t :: T).length = T.length + 1:=rfl
    have h2s:2≤s:=by omega
    have e:=pd_2 h2s
    have:=CH.join h3 (by omega)
    have hb:=(h3.le t (List.mem_cons_self ..)).2.2
    rw [e] at h2 ⊢
    refine LE.s h1 hb this h2 ?_
    show _≤P (lst (t :: T)) - P k + v
    omega
theorem CH.off (hP:∀ i j,i≤j→P i≤P j):∀ {K:List Nat} {s:Nat} {v:Int} {k:Nat},CH P b s (k :: K) v→1≤s→CH P (b + 1) s (k :: K) (v + (P b - P (lst (k :: K))))
  | [],s,v,k,h,hs=>by
    obtain ⟨s,rfl⟩:∃ q,s = q + 1:=⟨s - 1,by omega⟩
    exact ⟨by have:=h.1; omega,LE.off hP h.2 h.1⟩
  | t :: T,s,v,k,⟨h1,x,y,h2,h3,h4⟩,hs=>⟨h1,x,_,h2,CH.off hP h3 pd_pos,by show x + (y + (P b - P (lst (t :: T))))≤_; have:lst (k :: t :: T) = lst (t :: T):=rfl; rw [this]; omega⟩
theorem CH.grow (hP:∀ i j,i≤j→P i≤P j):∀ {K:List Nat} {s:Nat} {v:Int} {k:Nat},CH P b s (k :: K) v→(k :: K).length < s→lst (k :: K) + 1 < b→∃ m x,lst (k :: K) < m∧CH P b s (k :: (K++[m])) x∧x + (P m - P (lst (k :: K)))≤v
  | [],s,v,k,h,hs,hb=>by
    have hb':k + 1 < b:=hb
    obtain ⟨s,rfl⟩:∃ q,s = q + 1:=⟨s - 1,by simp at hs; omega⟩
    cases h.2 with
    | z h1 h2=>omega
    | @s _ _ _ m r l' _ h1 h2 h3 h4 h5 =>
      simp at hs
      refine ⟨m,r + l',h1,⟨h1,l',r,h4,⟨h2,h3.mono ?_⟩,by omega⟩,?_⟩
      · unfold pd; split <;> omega
      · show r + l' + (P m - P k)≤v; omega
  | t :: T,s,v,k,⟨h1,x,y,h2,h3,h4⟩,hs,hb=>by
    have hl:(k :: t :: T).length = (t :: T).length + 1:=rfl
    have hl2:(t :: T).length = T.length + 1:=rfl
    have e:=pd_2 (s:=s) (by omega)
    obtain ⟨m,x',q1,q2,q3⟩:=CH.grow hP h3 (by omega) hb
    refine ⟨m,x + x',q1,⟨h1,x,x',h2,q2,Int.le_refl _⟩,?_⟩
    have q3':x' + (P m - P (lst (k :: t :: T)))≤y:=q3
    omega
def cov (A:Nat→Prop) (M:List Nat) (i:Nat):Prop:=∃ m,m∈M∧i < m∧∀ a,A a→¬ (i < a∧a≤m)
open Classical in
noncomputable def crS (P:Nat→Int) (A:Nat→Prop) (M:List Nat):Nat→Int
  | 0=>0
  | i + 1=>crS P A M i + if cov A M i then P (i + 1) - P i else 0
theorem crS_0 (hP:∀ i j,i≤j→P i≤P j):∀ n,0≤crS P A M n
  | 0=>Int.le_refl _
  | n + 1=>by
    have:=crS_0 hP n
    have:=hP n (n + 1) (by omega)
    unfold crS; split <;> omega
theorem crS_add (hP:∀ i j,i≤j→P i≤P j) (hab:a≤b) (h:∀ i,cov A M i→cov A' K i∨(a≤i∧i < b)):∀ n,crS P A M n≤crS P A' K n + (P (min b (max a n)) - P a)
  | 0=>by
    have:=hP a (min b (max a 0)) (by omega)
    unfold crS; omega
  | n + 1=>by
    have ih:=crS_add hP hab h n
    have h1:=hP n (n + 1) (by omega)
    have h2:=hP (min b (max a n)) (min b (max a (n + 1))) (by omega)
    unfold crS
    by_cases hc:cov A M n
    · rw [if_pos hc]
      by_cases hc':cov A' K n
      · rw [if_pos hc']; omega
      · rw [if_neg hc']
        have h3:=(h n hc).resolve_left hc'
        have e1:min b (max a n) = n:=by omega
        have e2:min b (max a (n + 1)) = n + 1:=by omega
        rw [e1] at ih; rw [e2]; omega
    · rw [if_neg hc]
      split <;> omega
theorem crS_mono (hP:∀ i j,i≤j→P i≤P j) (h:∀ i,cov A M i→cov A' K i) (n:Nat):crS P A M n≤crS P A' K n:=by
  have:=crS_add (a:=0) (b:=0) hP (Nat.le_refl _) (fun i hi=>.inl (h i hi)) n
  rw [show min 0 (max 0 n) = 0 from by omega] at this
  omega
theorem crS_plus (hP:∀ i j,i≤j→P i≤P j) (hab:a≤b) (h:∀ i,cov A M i→cov A' K i∨(a≤i∧i < b)) (n:Nat):crS P A M n≤crS P A' K n + (P b - P a):=by
  have h1:=crS_add hP hab h n
  have h2:=hP (min b (max a n)) b (by omega)
  omega
theorem crS_sub (hP:∀ i j,i≤j→P i≤P j) (hab:a≤b) (h:∀ i,cov A K i→cov A M i∧¬ (a≤i∧i < b)) (h2:∀ i,a≤i→i < b→cov A M i):∀ n,crS P A K n + (P (max a (min b n)) - P a)≤crS P A M n
  | 0=>by rw [show max a (min b 0) = a from by omega]; unfold crS; omega
  | n + 1=>by
    have ih:=crS_sub hP hab h h2 n
    have h1:=hP n (n + 1) (by omega)
    unfold crS
    by_cases hi:a≤n∧n < b
    · have e1:max a (min b n) = n:=by omega
      have e2:max a (min b (n + 1)) = n + 1:=by omega
      rw [if_pos (h2 n hi.1 hi.2),if_neg (fun h9=>(h n h9).2 hi),e2]
      rw [e1] at ih; omega
    · have e1:max a (min b n) = max a (min b (n + 1)):=by omega
      rw [← e1]
      by_cases hc:cov A K n
      · rw [if_pos hc,if_pos (h n hc).1]; omega
      · rw [if_neg hc]; split <;> omega
theorem cov_sub {L:List Nat} (h:∀ m,m∈K→m∈L) (hc:cov A K i):cov A L i:=by
  obtain ⟨m,h1,h2,h3⟩:=hc
  exact ⟨m,h m h1,h2,h3⟩
theorem cov_has {m:Nat} (hm:A m) (hc:cov A (M++[m]) i):cov A M i:=by
  obtain ⟨q,h1,h2,h3⟩:=hc
  rcases List.mem_append.1 h1 with e | e
  · exact ⟨q,e,h2,h3⟩
  · rw [List.mem_singleton] at e
    subst e
    exact absurd ⟨h2,Nat.le_refl _⟩ (h3 _ hm)
def kpt (H:Nat→Prop):Nat→List Nat→Prop
  | _,[]=>True
  | k,t :: T=>(∃ h,H h∧k < h∧h≤t)∧kpt H t T
theorem prune (hP:∀ i j,i≤j→P i≤P j) (hN:b≤N):∀ {T:List Nat} {k s:Nat} {v:Int},CH P b s (k :: T) v→T.length≤s→(T≠[]→H (lst (k :: T))) →
    ∃ T' x,CH P b s (k :: T') x∧kpt H k T'∧lst (k :: T') = lst (k :: T)∧T'.length≤T.length∧(∀ m,m∈T'→m∈T) ∧
      ∀ pre:List Nat,(∀ m∈pre,m≤k)→crS P H (pre++k :: T') N + x≤crS P H (pre++k :: T) N + v
  | [],k,s,v,h,hs,hl=>⟨[],v,h,trivial,rfl,Nat.le_refl _,fun _ h=>h,fun _ _=>Int.le_refl _⟩
  | t :: T,k,s,v,⟨h1,x1,y,h2,h3,h4⟩,hs,hl=>by
    have hlen:(t :: T).length = T.length + 1:=rfl
    have hlast:lst (k :: t :: T) = lst (t :: T):=rfl
    have hH:=hl (by simp)
    rw [hlast] at hH
    obtain ⟨T',x,q1,q2,q3,q4,q5,q6⟩:=prune hP hN (k:=t) (s:=pd s) h3 (by unfold pd; split <;> omega) (fun _=>hH)
    have hsub:∀ m,m∈t :: T'→m∈t :: T:=fun m hm=>by
      rcases List.mem_cons.1 hm with e | e
      · subst e; exact List.mem_cons_self ..
      · exact List.mem_cons_of_mem _ (q5 m e)
    by_cases hk:∃ h,H h∧k < h∧h≤t
    · refine ⟨t :: T',x1 + x,⟨h1,x1,x,h2,q1,Int.le_refl _⟩,⟨hk,q2⟩,q3,by simp; omega,hsub,fun pre hpre=>?_⟩
      have:=q6 (pre++[k]) (fun m hm=>by
        rcases List.mem_append.1 hm with e | e
        · have:=hpre m e; omega
        · rw [List.mem_singleton] at e; omega)
      rw [List.append_assoc,List.append_assoc] at this
      have this:crS P H (pre++k :: t :: T') N + x≤crS P H (pre++k :: t :: T) N + y:=this
      omega
    · cases T' with
      | nil =>
        exfalso
        have:lst (t :: T) = t:=q3.symm
        rw [this] at hH
        exact hk ⟨t,hH,h1,Nat.le_refl _⟩
      | cons u U =>
        obtain ⟨g1,x2,y2,g2,g3,g4⟩:=q1
        obtain ⟨⟨h,j1,j2,j3⟩,j4⟩:=q2
        have hT:2≤T.length + 1:=by
          have:(u :: U).length = U.length + 1:=rfl
          omega
        have e:=pd_2 (s:=s) (by omega)
        have hub:=(g3.le u (List.mem_cons_self ..)).2.2
        refine ⟨u :: U,P t - P k + x2 + x1 + y2,⟨by omega,P t - P k + x2 + x1,y2,?_,g3.mono (pd_le pd_pos),Int.le_refl _⟩,⟨⟨h,j1,by omega,j3⟩,j4⟩,q3,?_,fun m hm=>hsub m (List.mem_cons_of_mem _ hm),fun pre hpre=>?_⟩
        · rw [e] at h2 ⊢
          exact LE.s h1 g1 g2 h2 (Int.le_refl _)
        · simp at q4 ⊢; omega
        · have h9:=q6 (pre++[k]) (fun m hm=>by
            rcases List.mem_append.1 hm with e | e
            · have:=hpre m e; omega
            · rw [List.mem_singleton] at e; omega)
          rw [List.append_assoc,List.append_assoc] at h9
          have h9:crS P H (pre++k :: t :: u :: U) N + x≤crS P H (pre++k :: t :: T) N + y:=h9
          have hgm:=g3.le
          have h8:=crS_sub (A:=H) (M:=pre++k :: t :: u :: U) (K:=pre++k :: u :: U) (a:=k) (b:=t) hP (by omega) (fun i hc=>⟨cov_sub (fun m hm=>by
              rcases List.mem_append.1 hm with e | e
              · exact List.mem_append.2 (.inl e)
              · refine List.mem_append.2 (.inr ?_)
                rcases List.mem_cons.1 e with e | e
                · subst e; exact List.mem_cons_self ..
                · exact List.mem_cons_of_mem _ (List.mem_cons_of_mem _ e)) hc,fun hi=>by
              obtain ⟨m,m1,m2,m3⟩:=hc
              have hmu:u≤m:=by
                rcases List.mem_append.1 m1 with e | e
                · have:=hpre m e; omega
                · rcases List.mem_cons.1 e with e | e
                  · omega
                  · exact (hgm m e).1
              exact m3 h j1 ⟨by omega,by omega⟩⟩) (fun i i1 i2=>⟨t,List.mem_append.2 (.inr (List.mem_cons_of_mem _ (List.mem_cons_self ..))),i2,fun a ha h7=>hk ⟨a,ha,by omega,h7.2⟩⟩) N
          rw [show max k (min t N) = t from by omega] at h8
          omega
theorem nodup_le {α:Type} [DecidableEq α]:∀ {l l':List α},l.Nodup→(∀ x,x∈l→x∈l')→l.length≤l'.length
  | [],_,_,_=>Nat.zero_le _
  | x :: l,l',hn,h=>by
    have h1:=List.nodup_cons.1 hn
    have hx:=h x (List.mem_cons_self ..)
    have:=nodup_le (l:=l) (l':=l'.erase x) h1.2 (fun y hy=>(List.mem_erase_of_ne (fun e=>h1.1 (by rw [← e]; exact hy))).2 (h y (List.mem_cons_of_mem _ hy)))
    rw [List.length_erase_of_mem hx] at this
    have:=List.length_pos_of_mem hx
    simp only [List.length_cons]; omega
theorem kpt_cnt {sl:List Int} (hH:∀ h,H h→((h:Nat):Int)∈sl):∀ {T:List Nat} {k:Nat},kpt H k T→∃ G:List Int,G.length = T.length∧G.Nodup∧∀ x∈G,x∈sl∧(k:Int) < x
  | [],k,_=>⟨[],rfl,List.nodup_nil,fun x h=>absurd h (List.not_mem_nil)⟩
  | t :: T,k,⟨⟨h,h1,h2,h3⟩,h4⟩=>by
    obtain ⟨G,g1,g2,g3⟩:=kpt_cnt hH h4
    refine ⟨(h:Int) :: G,by simp [g1],List.nodup_cons.2 ⟨fun h9=>by have:=(g3 _ h9).2; omega,g2⟩,fun x hx=>?_⟩
    rcases List.mem_cons.1 hx with e | e
    · subst e; exact ⟨hH h h1,by omega⟩
    · have:=g3 x e; exact ⟨this.1,by omega⟩
theorem kpt_len {sl:List Int} (hH:∀ h,H h→((h:Nat):Int)∈sl) (hk:H k) (h:kpt H k T):(k :: T).length≤sl.length:=by
  obtain ⟨G,g1,g2,g3⟩:=kpt_cnt hH h
  have:=nodup_le (l:=(k:Int) :: G) (l':=sl) (List.nodup_cons.2 ⟨fun h9=>by have:=(g3 _ h9).2; omega,g2⟩) (fun x hx=>by
    rcases List.mem_cons.1 hx with e | e
    · subst e; exact hH k hk
    · exact (g3 x e).1)
  simp only [List.length_cons] at this ⊢; omega
def Psi (P:Nat→Int) (N c b:Nat) (A:Nat→Prop) (v:Int):Prop :=
  (b = 0∧0≤v)∨(A 0∧∃ T x,CH P b c (0 :: T) x∧(0 :: T).length≤c∧crS P A (0 :: T) N + x≤v)
theorem Psi.up (h:Psi P N c b A v) (hv:v≤x):Psi P N c b A x:=by
  rcases h with ⟨h1,h2⟩ | ⟨h1,T,y,h2,h3,h4⟩
  · exact .inl ⟨h1,by omega⟩
  · exact .inr ⟨h1,T,y,h2,h3,by omega⟩
theorem Psi.mono (hP:∀ i j,i≤j→P i≤P j) (h:Psi P N c b A v) (hA:∀ a,A a→A' a):Psi P N c b A' v:=by
  rcases h with h | ⟨h1,T,y,h2,h3,h4⟩
  · exact .inl h
  · refine .inr ⟨hA _ h1,T,y,h2,h3,?_⟩
    have:=crS_mono (A:=A') (M:=0 :: T) (A':=A) (K:=0 :: T) hP (fun i hc=>by
      obtain ⟨m,m1,m2,m3⟩:=hc
      exact ⟨m,m1,m2,fun a ha=>m3 a (hA a ha)⟩) N
    omega
theorem Psi.drop (hP:∀ i j,i≤j→P i≤P j) (h:Psi P N c b A v) (hA:∀ a,A a→A' a∨b≤a):Psi P N c b A' v:=by
  rcases h with h | ⟨h1,T,y,h2,h3,h4⟩
  · exact .inl h
  · have hb:=(h2.le 0 (List.mem_cons_self ..)).2.2
    refine .inr ⟨(hA _ h1).resolve_right (by omega),T,y,h2,h3,?_⟩
    have:=crS_mono (A:=A') (M:=0 :: T) (A':=A) (K:=0 :: T) hP (fun i hc=>by
      obtain ⟨m,m1,m2,m3⟩:=hc
      refine ⟨m,m1,m2,fun a ha h9=>?_⟩
      have hm:=(h2.le m m1).2.2
      rcases hA a ha with e | e
      · exact m3 a e h9
      · omega) N
    omega
theorem Psi.adv (hP:∀ i j,i≤j→P i≤P j) {p q:Nat} (hpq:p≤q) (h:Psi P N c b (fun a=>a = q∨H a) v):Psi P N c b (fun a=>a = p∨H a) (v + (P q - P p)):=by
  have:=hP p q hpq
  rcases h with ⟨h1,h2⟩ | ⟨h1,T,y,h2,h3,h4⟩
  · exact .inl ⟨h1,by omega⟩
  · refine .inr ⟨h1.elim (fun e=>.inl (by omega)) .inr,T,y,h2,h3,?_⟩
    have:=crS_plus (A:=fun a=>a = p∨H a) (M:=0 :: T) (A':=fun a=>a = q∨H a) (K:=0 :: T) hP hpq (fun i hc=>by
      obtain ⟨m,m1,m2,m3⟩:=hc
      by_cases hq:i < q∧q≤m
      · right
        have:=m3 p (.inl rfl)
        omega
      · left
        refine ⟨m,m1,m2,fun a ha h9=>?_⟩
        rcases ha with e | e
        · subst e; exact hq h9
        · exact m3 a (.inr e) h9) N
    omega
theorem CH.sat (hP:∀ i j,i≤j→P i≤P j) (hN:b≤N):∀ (d:Nat) {T:List Nat} {v:Int},c - (0 :: T).length≤d→CH P b c (0 :: T) v→(0 :: T).length≤c →
    ∃ T' x,CH P b c (0 :: T') x∧(0 :: T').length≤c∧((0 :: T').length = c∨lst (0 :: T') + 1 = b)∧crS P A (0 :: T') N + x≤crS P A (0 :: T) N + v
  | 0,T,v,hd,h,hl=>⟨T,v,h,hl,.inl (by omega),Int.le_refl _⟩
  | d + 1,T,v,hd,h,hl=>by
    by_cases hc:(0 :: T).length = c
    · exact ⟨T,v,h,hl,.inl hc,Int.le_refl _⟩
    · have hlt:=h.lt
      by_cases hb:lst (0 :: T) + 1 = b
      · exact ⟨T,v,h,hl,.inr hb,Int.le_refl _⟩
      · obtain ⟨m,x,q1,q2,q3⟩:=CH.grow hP h (by omega) (by omega)
        have hll:(0 :: (T++[m])).length = (0 :: T).length + 1:=by simp
        obtain ⟨T',x',r1,r2,r3,r4⟩:=CH.sat hP hN d (T:=T++[m]) (by omega) q2 (by omega)
        refine ⟨T',x',r1,r2,r3,Int.le_trans r4 ?_⟩
        have:=crS_plus (A:=A) (M:=0 :: (T++[m])) (A':=A) (K:=0 :: T) (a:=lst (0 :: T)) (b:=m) hP (by omega) (fun i hc=>by
          obtain ⟨q,m1,m2,m3⟩:=hc
          rw [← List.cons_append] at m1
          rcases List.mem_append.1 m1 with e | e
          · exact .inl ⟨q,e,m2,m3⟩
          · rw [List.mem_singleton] at e
            subst e
            by_cases hi:i < lst (0 :: T)
            · exact .inl ⟨_,lst_mem (by simp),hi,fun a ha h9=>m3 a ha ⟨h9.1,by omega⟩⟩
            · exact .inr ⟨by omega,m2⟩) N
        omega
theorem CH.tail (hP:∀ i j,i≤j→P i≤P j):∀ {K:List Nat} {s:Nat} {v:Int} {k:Nat},CH P b s (k :: K) v→(k :: K).length = s→lst (k :: K) < a→a≤b→∃ x,CH P (b + 1) s (k :: (K++[a])) x∧x≤v + (P b - P a)
  | [],s,v,k,h,hs,ha,hab=>by
    have e:s = 1:=by simpa using hs.symm
    subst e
    obtain ⟨y1,y2,q1,q2,q3⟩:=LE.ro hP b h.2 ha hab
    exact ⟨y1 + y2,⟨ha,y1,y2,q1,⟨by omega,q2⟩,Int.le_refl _⟩,q3⟩
  | t :: T,s,v,k,⟨h1,x,y,h2,h3,h4⟩,hs,ha,hab=>by
    have hl:(k :: t :: T).length = (t :: T).length + 1:=rfl
    have hl2:(t :: T).length = T.length + 1:=rfl
    have e:=pd_2 (s:=s) (by omega)
    obtain ⟨x',q1,q2⟩:=CH.tail hP h3 (by omega) ha hab
    exact ⟨x + x',⟨h1,x,x',h2,q1,Int.le_refl _⟩,by omega⟩
theorem CH.put:∀ {K:List Nat} {s:Nat} {v:Int} {k:Nat},CH P b s (k :: K) v→CH P (b + 1) s (k :: (K++[b])) v
  | [],s,v,k,h=>⟨h.1,v,0,h.2,⟨Nat.lt_succ_self _,.z (Nat.le_refl _) (Int.le_refl _)⟩,by omega⟩
  | t :: T,s,v,k,⟨h1,x,y,h2,h3,h4⟩=>⟨h1,x,y,h2,CH.put h3,h4⟩
theorem max_of {sl:List Int} (hH:∀ h,H h→((h:Nat):Int)∈sl):∀ (d b h:Nat),H h→h≤b→b - h≤d→∃ a,H a∧h≤a∧a≤b∧∀ g,H g→g≤b→g≤a
  | 0,b,h,h1,h2,h3=>⟨h,h1,Nat.le_refl _,h2,fun g _ hg=>by omega⟩
  | d + 1,b,h,h1,h2,h3=>by
    by_cases e:∃ g,H g∧h < g∧g≤b
    · obtain ⟨g,g1,g2,g3⟩:=e
      obtain ⟨a,a1,a2,a3,a4⟩:=max_of hH d b g g1 g3 (by omega)
      exact ⟨a,a1,by omega,a3,a4⟩
    · exact ⟨h,h1,Nat.le_refl _,h2,fun g g1 g2=>by
        rcases Nat.lt_or_ge h g with h9 | h9
        · exact absurd ⟨g,g1,h9,g2⟩ e
        · exact h9⟩
theorem Psi.run (hP:∀ i j,i≤j→P i≤P j) (hN:b + 1≤N) {sl:List Int} (hH:∀ h,H h→((h:Nat):Int)∈sl) (hc:sl.length = c) {h:Nat} (h1:H h) (h2:h≤b) (hp:Psi P N c b H v):Psi P N c (b + 1) H (v + (P b - P h)):=by
  have hc1:1≤c:=by have:=List.length_pos_of_mem (hH h h1); omega
  rcases hp with ⟨rfl,h3⟩ | ⟨h0,T,x,g1,g2,g3⟩
  · have e:h = 0:=by omega
    subst e
    refine .inr ⟨h1,[],0,⟨Nat.lt_succ_self _,.z (Nat.le_refl _) (Int.le_refl _)⟩,by simpa using hc1,?_⟩
    have:=crS_mono (A:=H) (M:=[0]) (A':=H) (K:=[]) hP (fun i hc=>by
      obtain ⟨m,m1,m2,m3⟩:=hc
      rw [List.mem_singleton] at m1; omega) N
    have e0:∀ n,crS P H [] n = 0:=fun n=>by
      induction n with
      | zero=>rfl
      | succ n ih =>
        unfold crS
        rw [ih,if_neg (fun h9=>by obtain ⟨m,m1,_⟩:=h9; cases m1)]; rfl
    rw [e0] at this
    omega
  · obtain ⟨T,x',g1,g2,g4,g5⟩:=CH.sat (A:=H) (N:=N) hP (by omega) _ (Nat.le_refl _) g1 g2
    obtain ⟨a,a1,a2,a3,a4⟩:=max_of hH _ b h h1 h2 (Nat.le_refl _)
    have hPa:=hP h a a2
    have hlt:=g1.lt
    by_cases hL:a≤lst (0 :: T)
    · refine .inr ⟨h0,T,_,CH.off hP g1 hc1,g2,?_⟩
      have:=hP a (lst (0 :: T)) hL
      omega
    · by_cases hfull:(0 :: T).length = c
      · obtain ⟨x2,q1,q2⟩:=CH.tail hP g1 hfull (by omega) a3
        have hlen:(0 :: T).length = T.length + 1:=rfl
        have hlst:lst (0 :: (T++[a])) = a:=by rw [← List.cons_append]; exact lst_app _ _
        obtain ⟨T',x3,r1,r2,r3,r4,r5,r6⟩:=prune (H:=H) (N:=N) hP hN q1 (by simp; omega) (fun _=>by rw [hlst]; exact a1)
        refine .inr ⟨h0,T',x3,r1,by have:=kpt_len hH h0 r2; omega,?_⟩
        have h8:=r6 [] (fun m hm=>absurd hm (List.not_mem_nil))
        have h8:crS P H (0 :: T') N + x3≤crS P H (0 :: (T++[a])) N + x2:=h8
        have h7:=crS_mono (A:=H) (M:=(0 :: T)++[a]) (A':=H) (K:=0 :: T) hP (fun i hc=>cov_has a1 hc) N
        rw [List.cons_append] at h7
        omega
      · have hb1:=g4.resolve_left hfull
        have e:a = b:=by omega
        subst e
        refine .inr ⟨h0,T++[a],x',CH.put g1,by simp at g2 hfull ⊢; omega,?_⟩
        have h7:=crS_mono (A:=H) (M:=(0 :: T)++[a]) (A':=H) (K:=0 :: T) hP (fun i hc=>cov_has a1 hc) N
        rw [List.cons_append] at h7
        omega
end
def HS (sl:List Int) (a:Nat):Prop:=((a:Nat):Int)∈sl
def Phi (P:Nat→Int) (N:Nat) (c:Cn) (v:Int):Prop :=
  Psi P N c.slots.length c.left.toNat (fun a=>a = c.at_.toNat∨HS c.slots a) v ∨
  (c.at_ < c.left∧Psi P N c.slots.length (c.left.toNat - 1) (HS c.slots) (v - (P (c.left.toNat - 1) - P c.at_.toNat)))
section
variable {P:Nat→Int} {N:Nat} {n:Int} {c e:Cn} {a:Av} {v:Int} {w:List Int}
theorem HS_set {sl:List Int} {j:Nat} {x:Int} (hx:0≤x) {q:Nat} (h:HS (sl.set j x) q):q = x.toNat∨HS sl q:=by
  unfold HS at h
  rcases List.mem_or_eq_of_mem_set h with e | e
  · exact .inr e
  · left; omega
theorem sumW_P (w:List Int) (a:Nat):∀ k,sumW w a k = sumW w 0 (a + k) - sumW w 0 a
  | 0=>by show (0:Int) = _; rw [Nat.add_zero]; omega
  | k + 1=>by
    have:=sumW_P w a k
    show sumW w a k + w.getD (a + k) 0 = _
    have e:sumW w 0 (a + (k + 1)) = sumW w 0 (a + k) + w.getD (0 + (a + k)) 0:=rfl
    rw [e,Nat.zero_add]; omega
theorem sumW_mono (hw:∀ k,0≤w.getD k 0) (i j:Nat) (h:i≤j):sumW w 0 i≤sumW w 0 j:=by
  obtain ⟨k,rfl⟩:=Nat.le.dest h
  have h1:=sumW_P w i k
  have h2:=sumW_0 hw i k
  omega
theorem Phi.step (hw:∀ k,0≤w.getD k 0) (hk:CnK n c) (hN:n≤((N:Nat):Int)) (ha:avK a) (hp:posA c a = true) (h:Phi (sumW w 0) N (actA c a) v):Phi (sumW w 0) N c ((if a.kind = 1 then sumW w c.at_.toNat a.arg.toNat else 0) + v):=by
  have hP:=sumW_mono hw
  obtain ⟨k1,k2,k3,k4,k5⟩:=hk
  unfold avK at ha
  by_cases h1:a.kind = 1
  · rw [if_pos h1]
    unfold posA at hp
    rw [if_pos h1] at hp
    have hlt:=of_decide_eq_true hp
    have e:actA c a = ⟨c.at_ + a.arg,c.left,c.slots⟩:=by unfold actA; rw [if_pos h1]
    rw [e] at h
    have hs:=sumW_P w c.at_.toNat a.arg.toNat
    rw [show c.at_.toNat + a.arg.toNat = (c.at_ + a.arg).toNat from by omega] at hs
    rcases h with h | ⟨h2,h3⟩
    · left
      exact (Psi.adv hP (p:=c.at_.toNat) (q:=(c.at_ + a.arg).toNat) (by omega) h).up (by omega)
    · right
      refine ⟨by omega,h3.up ?_⟩
      show v - (sumW w 0 (c.left.toNat - 1) - sumW w 0 (c.at_ + a.arg).toNat)≤_
      omega
  · rw [if_neg h1,Int.zero_add]
    unfold posA at hp
    rw [if_neg h1] at hp
    by_cases h2:a.kind = 2
    · rw [if_pos h2] at hp
      have hlt:=of_decide_eq_true hp
      have e:actA c a = ⟨c.at_,c.left,c.slots.set a.arg.toNat c.at_⟩:=by unfold actA; rw [if_neg h1,if_pos h2]
      rw [e] at h
      have hl:(c.slots.set a.arg.toNat c.at_).length = c.slots.length:=by simp
      rcases h with h | ⟨h3,h4⟩
      · left
        dsimp only at h
        rw [hl] at h
        exact h.mono hP fun q hq=>hq.elim .inl fun hq=>HS_set k1 hq
      · left
        dsimp only at h3 h4
        rw [hl] at h4
        have hat:HS (c.slots.set a.arg.toNat c.at_) c.at_.toNat:=by
          unfold HS
          rw [Int.toNat_of_nonneg k1]
          have hlt2:a.arg.toNat < (c.slots.set a.arg.toNat c.at_).length:=by rw [hl]; omega
          have:(c.slots.set a.arg.toNat c.at_)[a.arg.toNat] = c.at_:=by simp
          have hm:=List.getElem_mem hlt2
          rw [this] at hm; exact hm
        obtain ⟨b,hb⟩:∃ b,c.left.toNat = b + 1:=⟨c.left.toNat - 1,by omega⟩
        rw [hb] at h4 ⊢
        rw [show b + 1 - 1 = b from rfl] at h4
        have:=Psi.run hP (by omega) (H:=HS (c.slots.set a.arg.toNat c.at_)) (fun _ h=>h) hl hat (by omega) h4
        refine (this.up (by omega)).mono hP fun q hq=>HS_set k1 hq
    · rw [if_neg h2] at hp
      by_cases h3:a.kind = 3
      · rw [if_pos h3] at hp
        have hb:=Bool.and_eq_true_iff.1 hp
        have hlt:=of_decide_eq_true hb.1
        have h0:=of_decide_eq_true hb.2
        have e:actA c a = ⟨c.slots.getD a.arg.toNat 0,c.left,c.slots⟩:=by unfold actA; rw [if_neg h1,if_neg h2,if_pos h3]
        rw [e] at h
        have hlt2:a.arg.toNat < c.slots.length:=by omega
        have hat:HS c.slots (c.slots.getD a.arg.toNat 0).toNat:=by
          unfold HS
          rw [Int.toNat_of_nonneg h0]
          have:c.slots.getD a.arg.toNat 0 = c.slots[a.arg.toNat]:=by simp [List.getD_eq_getElem?_getD,hlt2]
          rw [this]; exact List.getElem_mem hlt2
        rcases h with h | ⟨h4,h5⟩
        · left
          exact h.mono hP fun q hq=>.inr (hq.elim (fun e=>e ▸ hat) id)
        · left
          dsimp only at h4 h5
          obtain ⟨b,hb⟩:∃ b,c.left.toNat = b + 1:=⟨c.left.toNat - 1,by omega⟩
          rw [hb] at h5 ⊢
          rw [show b + 1 - 1 = b from rfl] at h5
          have:=Psi.run hP (by omega) (H:=HS c.slots) (fun _ h=>h) rfl hat (by omega) h5
          exact (this.up (by omega)).mono hP fun q hq=>.inr hq
      · rw [if_neg h3] at hp
        have hat:=of_decide_eq_true hp
        have e:actA c a = ⟨c.at_,c.at_,c.slots⟩:=by unfold actA; rw [if_neg h1,if_neg h2,if_neg h3]
        rw [e] at h
        rcases h with h | ⟨h4,h5⟩
        · right
          refine ⟨by omega,?_⟩
          rw [show c.left.toNat - 1 = c.at_.toNat from by omega]
          dsimp only at h
          exact (h.drop hP (A':=HS c.slots) fun q hq=>hq.elim (fun e=>.inr (by omega)) .inl).up (by omega)
        · exact absurd h4 (by show ¬ c.at_ < c.at_; omega)
theorem Phi.all (hw:∀ k,0≤w.getD k 0) (hN:n≤((N:Nat):Int)):∀ {l:List Av} {c:Cn},CnK n c→(∀ a∈l,avK a)→rnS l c = some e→e.left≤0→Phi (sumW w 0) N c (csS w l c)
  | [],c,hk,hl,h,he=>by
    simp only [rnS,Option.some.injEq] at h
    subst h
    exact .inl (.inl ⟨by omega,Int.le_refl _⟩)
  | a :: l,c,hk,hl,h,he=>by
    obtain ⟨h1,h2⟩:=rnS_cons h
    have ha:=hl a (List.mem_cons_self ..)
    exact Phi.step hw hk hN ha h1 (Phi.all hw hN (hk.act ha h1) (fun a h=>hl a (List.mem_cons_of_mem _ h)) h2 he)
theorem least_cost {m q:Nat} {l:List Av} (hw:∀ k,0≤w.getD k 0) (hl:∀ a∈l,avK a) (h:rnS l (bgn ((m:Nat):Int) q) = some e) (he:e.left≤0):LE (sumW w 0) q 0 m (csS w l (bgn ((m:Nat):Int) q)):=by
  have hP:=sumW_mono hw
  have hp:=Phi.all hw (N:=m) (Int.le_refl _) (bgn_k (by omega) q) hl h he
  generalize csS w l (bgn ((m:Nat):Int) q) = v at hp
  have hno:∀ a,¬ HS (bgn ((m:Nat):Int) q).slots a:=fun a h9=>by
    have:=(List.mem_replicate.1 h9).2
    omega
  have e1:(bgn ((m:Nat):Int) q).left.toNat = m:=by show ((m:Nat):Int).toNat = m; omega
  have e2:(bgn ((m:Nat):Int) q).at_.toNat = 0:=rfl
  have e3:(bgn ((m:Nat):Int) q).slots.length = q:=by simp [bgn]
  unfold Phi at hp
  rw [e1,e2,e3] at hp
  rcases hp with (⟨h1,h2⟩ | ⟨h1,T,x,h2,h3,h4⟩) | ⟨h1,h2 | ⟨h2,_⟩⟩
  · exact .z (by omega) h2
  · have hj:=h2.join (by simpa [Nat.lt_iff_add_one_le] using h3)
    refine hj.up ?_
    have hlt:=h2.lt
    have h5:=crS_sub (A:=fun a=>a = 0∨HS (bgn ((m:Nat):Int) q).slots a) (M:=0 :: T) (K:=[]) (a:=0) (b:=lst (0 :: T)) hP (Nat.zero_le _) (fun i hc=>by obtain ⟨m,m1,_⟩:=hc; cases m1) (fun i _ hi=>⟨_,lst_mem (by simp),hi,fun a ha h9=>by
      rcases ha with e | e
      · omega
      · exact hno a e⟩) m
    have e0:=crS_0 (A:=fun a=>a = 0∨HS (bgn ((m:Nat):Int) q).slots a) (M:=[]) hP m
    rw [show max 0 (min (lst (0 :: T)) m) = lst (0 :: T) from by omega] at h5
    omega
  · obtain ⟨h2,h3⟩:=h2
    refine .z (by omega) ?_
    rw [h2] at h3
    omega
  · exact absurd h2 (hno 0)
end
end Go.Proofs.Ytoacbkmejjhceaa
namespace Go.Proofs.Ytoacbkmejjhceaa
open Go Go.RowKit
set_option linter.unusedVariables false
set_option linter.unusedSimpArgs false
def spl (w:List Int) (R L:Nat→Int) (a:Nat):Nat→Int × Nat
  | 0=>(-1,0)
  | k + 1=>if 0≤R (k + 1)∧0≤L (k + 1)∧((spl w R L a k).1 < 0∨sumW w a (k + 1) + R (k + 1) + L (k + 1) < (spl w R L a k).1) then (sumW w a (k + 1) + R (k + 1) + L (k + 1),a + (k + 1)) else spl w R L a k
def lcF (w:List Int):Nat→Nat→Nat→Nat→Int × Nat
  | 0,_,_,_=>(0,0)
  | f + 1,c,a,d=>if d≤1 then (0,0) else match c with
    | 0=>(-1,0)
    | c' + 1=>spl w (fun m=>(lcF w f c' (a + m) (d - m)).1) (fun m=>(lcF w f (c' + 1) a m).1) a (d - 1)
def lc (w:List Int) (c a d:Nat):Int × Nat:=lcF w d c a d
section
variable {w:List Int} {R R' L L':Nat→Int} {a c d f f' k m ds q n j:Nat} {held:Bool} {v:Int} {P:Nat→Int}
theorem spl_congr:∀ (k:Nat),(∀ m,1≤m→m≤k→R m = R' m∧L m = L' m)→spl w R L a k = spl w R' L' a k
  | 0,_=>rfl
  | k + 1,h=>by
    have ih:=spl_congr k fun m h1 h2=>h m h1 (by omega)
    obtain ⟨e1,e2⟩:=h (k + 1) (by omega) (Nat.le_refl _)
    unfold spl
    rw [ih,e1,e2]
theorem lcF_fuel:∀ (f f' c a d:Nat),d≤f→d≤f'→lcF w f c a d = lcF w f' c a d
  | 0,0,c,a,d,h,h'=>rfl
  | 0,f' + 1,c,a,d,h,h'=>by unfold lcF; rw [if_pos (by omega)]
  | f + 1,0,c,a,d,h,h'=>by unfold lcF; rw [if_pos (by omega)]
  | f + 1,f' + 1,c,a,d,h,h'=>by
    unfold lcF
    by_cases hd:d≤1
    · rw [if_pos hd,if_pos hd]
    · rw [if_neg hd,if_neg hd]
      cases c with
      | zero=>rfl
      | succ c =>
        exact spl_congr _ fun m h1 h2=>⟨by show (lcF w f c (a + m) (d - m)).1 = _; rw [lcF_fuel f f' c (a + m) (d - m) (by omega) (by omega)],by show (lcF w f (c + 1) a m).1 = _; rw [lcF_fuel f f' (c + 1) a m (by omega) (by omega)]⟩
theorem lc_1 (h:d≤1):lc w c a d = (0,0):=by
  unfold lc
  cases d with
  | zero=>rfl
  | succ d=>unfold lcF; rw [if_pos h]
theorem lc_0 (h:2≤d):lc w 0 a d = (-1,0):=by
  unfold lc
  obtain ⟨d,rfl⟩:∃ e,d = e + 1:=⟨d - 1,by omega⟩
  unfold lcF; rw [if_neg (by omega)]
theorem lcF_s:lcF w (f + 1) (c + 1) a d = if d≤1 then (0,0) else spl w (fun m=>(lcF w f c (a + m) (d - m)).1) (fun m=>(lcF w f (c + 1) a m).1) a (d - 1):=rfl
theorem lc_s (h:2≤d):lc w (c + 1) a d = spl w (fun m=>(lc w c (a + m) (d - m)).1) (fun m=>(lc w (c + 1) a m).1) a (d - 1):=by
  obtain ⟨d,rfl⟩:∃ e,d = e + 1:=⟨d - 1,by omega⟩
  show lcF w (d + 1) (c + 1) a (d + 1) = spl w (fun m=>(lcF w (d + 1 - m) c (a + m) (d + 1 - m)).1) (fun m=>(lcF w m (c + 1) a m).1) a (d + 1 - 1)
  rw [lcF_s,if_neg (by omega)]
  exact spl_congr _ fun m h1 h2=>⟨congrArg Prod.fst (lcF_fuel d (d + 1 - m) c (a + m) (d + 1 - m) (by omega) (by omega)),congrArg Prod.fst (lcF_fuel d m (c + 1) a m (by omega) (by omega))⟩
theorem spl_le (hw:∀ k,0≤w.getD k 0):∀ (k:Nat),1≤m→m≤k→0≤R m→0≤L m→0≤(spl w R L a k).1∧(spl w R L a k).1≤sumW w a m + R m + L m
  | 0,h1,h2,_,_=>by omega
  | k + 1,h1,h2,h3,h4=>by
    have hs:=sumW_0 hw a (k + 1)
    have hs2:=sumW_0 hw a m
    by_cases e:m = k + 1
    · subst e
      unfold spl
      split
      · exact ⟨by show 0≤sumW w a (k + 1) + R (k + 1) + L (k + 1); omega,Int.le_refl _⟩
      · rename_i h
        have:¬ ((spl w R L a k).1 < 0∨sumW w a (k + 1) + R (k + 1) + L (k + 1) < (spl w R L a k).1):=fun h9=>h ⟨h3,h4,h9⟩
        omega
    · obtain ⟨i1,i2⟩:=spl_le hw k h1 (by omega) h3 h4
      unfold spl
      split
      · rename_i h
        exact ⟨by show 0≤sumW w a (k + 1) + R (k + 1) + L (k + 1); omega,by show sumW w a (k + 1) + R (k + 1) + L (k + 1)≤_; omega⟩
      · exact ⟨i1,i2⟩
theorem spl_at:∀ (k:Nat),0≤(spl w R L a k).1→∃ m,1≤m∧m≤k∧(spl w R L a k).2 = a + m∧0≤R m∧0≤L m∧(spl w R L a k).1 = sumW w a m + R m + L m
  | 0,h=>absurd h (by unfold spl; omega)
  | k + 1,h=>by
    unfold spl at h ⊢
    split
    · rename_i h1
      exact ⟨k + 1,by omega,Nat.le_refl _,rfl,h1.1,h1.2.1,rfl⟩
    · rename_i h1
      rw [if_neg h1] at h
      obtain ⟨m,q1,q2,q3⟩:=spl_at k h
      exact ⟨m,q1,by omega,q3⟩
theorem spl_bd {B:Int} (hB:∀ m,1≤m→m≤k→sumW w a m + R m + L m≤B) (h0:-1≤B) (hw:∀ k,0≤w.getD k 0):-1≤(spl w R L a k).1∧(spl w R L a k).1≤B∧(spl w R L a k).2≤a + k:=by
  induction k with
  | zero=>exact ⟨Int.le_refl _,h0,Nat.zero_le _⟩
  | succ k ih =>
    have ih:=ih fun m h1 h2=>hB m h1 (by omega)
    have hs:=sumW_0 hw a (k + 1)
    unfold spl
    split
    · rename_i h
      exact ⟨by show -1≤sumW w a (k + 1) + R (k + 1) + L (k + 1); omega,hB _ (by omega) (Nat.le_refl _),Nat.le_refl _⟩
    · exact ⟨ih.1,ih.2.1,by omega⟩
theorem sumW_le (hw:∀ k,w.getD k 0≤1000) (a:Nat):∀ k:Nat,sumW w a k≤1000 * ((k:Nat):Int)
  | 0=>Int.le_refl _
  | k + 1=>by have:=sumW_le hw a k; have:=hw (a + k); show sumW w a k + _≤_; omega
theorem lc_bd (hw:∀ k,0≤w.getD k 0∧w.getD k 0≤1000):∀ (d c a:Nat),d≤40→-1≤(lc w c a d).1∧(lc w c a d).1≤40000 * ((d - 1:Nat):Int)∧(lc w c a d).2≤a + (d - 1):=by
  intro d
  induction d using Nat.strongRecOn with
  | ind d ih =>
    intro c a hd
    by_cases h1:d≤1
    · rw [lc_1 h1]; exact ⟨by decide,by show (0:Int)≤_; omega,Nat.zero_le _⟩
    · cases c with
      | zero=>rw [lc_0 (by omega)]; exact ⟨by decide,by show (-1:Int)≤_; omega,Nat.zero_le _⟩
      | succ c =>
        rw [lc_s (by omega)]
        refine spl_bd (fun m h2 h3=>?_) (by omega) (fun k=>(hw k).1)
        have:=sumW_le (w:=w) (fun k=>(hw k).2) a m
        have e1:=(ih (d - m) (by omega) c (a + m) (by omega)).2.1
        have e2:=(ih m (by omega) (c + 1) a (by omega)).2.1
        omega
theorem le_lc (hw:∀ k,0≤w.getD k 0) {b:Nat} (h:LE (sumW w 0) c a b v):a≤b→0≤(lc w c a (b - a)).1∧(lc w c a (b - a)).1≤v:=by
  induction h with
  | z h1 h2=>intro _; rw [lc_1 (by omega)]; exact ⟨Int.le_refl _,h2⟩
  | @s c a b m r l v h1 h2 h3 h4 h5 i3 i4 =>
    intro _
    obtain ⟨r1,r2⟩:=i3 (by omega)
    obtain ⟨l1,l2⟩:=i4 (by omega)
    rw [lc_s (by omega)]
    have hs:=spl_le (R:=fun m=>(lc w c (a + m) (b - a - m)).1) (L:=fun m=>(lc w (c + 1) a m).1) (a:=a) (m:=m - a) hw (b - a - 1) (by omega) (by omega) (by
      show 0≤(lc w c (a + (m - a)) (b - a - (m - a))).1
      rw [show a + (m - a) = m from by omega,show b - a - (m - a) = b - m from by omega]; exact r1) l1
    refine ⟨hs.1,Int.le_trans hs.2 ?_⟩
    have e:=sumW_P w a (m - a)
    rw [show a + (m - a) = m from by omega] at e
    show sumW w a (m - a) + (lc w c (a + (m - a)) (b - a - (m - a))).1 + (lc w (c + 1) a (m - a)).1≤v
    rw [show a + (m - a) = m from by omega,show b - a - (m - a) = b - m from by omega]
    omega
def plF (w:List Int):Nat→Nat→Nat→Nat→Nat→Bool→List Av
  | 0,_,_,_,_,_=>[]
  | f + 1,c,a,d,ds,held=>if d = 0 then [] else if d = 1 then [⟨4,0⟩] else
    (if held = true then [] else [⟨2,((ds:Nat):Int)⟩])++(⟨1,(((lc w c a d).2 - a:Nat):Int)⟩ :: (plF w f (c - 1) (a + ((lc w c a d).2 - a)) (d - ((lc w c a d).2 - a)) (ds + 1) false++⟨3,((ds:Nat):Int)⟩ :: plF w f c a ((lc w c a d).2 - a) ds true))
def pl (w:List Int) (c a d ds:Nat) (held:Bool):List Av:=plF w d c a d ds held
structure SpK (w:List Int) (c a d m:Nat):Prop where
  c1:1≤c
  m1:1≤m
  md:m < d
  at_:(lc w c a d).2 = a + m
  rt:0≤(lc w (c - 1) (a + m) (d - m)).1
  lf:0≤(lc w c a m).1
  cost:(lc w c a d).1 = sumW w a m + (lc w (c - 1) (a + m) (d - m)).1 + (lc w c a m).1
theorem spk (h:2≤d) (h0:0≤(lc w c a d).1):∃ m,SpK w c a d m:=by
  cases c with
  | zero=>rw [lc_0 h] at h0; exact absurd h0 (by decide)
  | succ c =>
    rw [lc_s h] at h0
    obtain ⟨m,m1,m2,m3,m4,m5,m6⟩:=spl_at _ h0
    exact ⟨m,by omega,m1,by omega,by rw [lc_s h]; exact m3,m4,m5,by rw [lc_s h]; exact m6⟩
theorem plF_fuel:∀ (f f' c a d ds:Nat) (held:Bool),d≤f→d≤f'→0≤(lc w c a d).1→plF w f c a d ds held = plF w f' c a d ds held
  | 0,0,c,a,d,ds,held,h,h',_=>rfl
  | 0,f' + 1,c,a,d,ds,held,h,h',_=>by unfold plF; rw [if_pos (by omega)]
  | f + 1,0,c,a,d,ds,held,h,h',_=>by unfold plF; rw [if_pos (by omega)]
  | f + 1,f' + 1,c,a,d,ds,held,h,h',h0=>by
    unfold plF
    by_cases h1:d = 0
    · rw [if_pos h1,if_pos h1]
    · rw [if_neg h1,if_neg h1]
      by_cases h2:d = 1
      · rw [if_pos h2,if_pos h2]
      · rw [if_neg h2,if_neg h2]
        obtain ⟨m,hm⟩:=spk (by omega) h0
        have e:(lc w c a d).2 - a = m:=by rw [hm.at_]; omega
        have:=hm.m1
        have:=hm.md
        rw [e,plF_fuel f f' (c - 1) (a + m) (d - m) (ds + 1) false (by omega) (by omega) hm.rt,plF_fuel f f' c a m ds true (by omega) (by omega) hm.lf]
theorem pl_0:pl w c a 0 ds held = []:=rfl
theorem pl_1:pl w c a 1 ds held = [⟨4,0⟩]:=by unfold pl plF; rfl
theorem pl_s (h:2≤d) (h0:0≤(lc w c a d).1) (hm:SpK w c a d m):pl w c a d ds held = (if held = true then [] else [⟨2,((ds:Nat):Int)⟩])++(⟨1,((m:Nat):Int)⟩ :: (pl w (c - 1) (a + m) (d - m) (ds + 1) false++⟨3,((ds:Nat):Int)⟩ :: pl w c a m ds true)):=by
  unfold pl
  obtain ⟨d,rfl⟩:∃ e,d = e + 1:=⟨d - 1,by omega⟩
  have e:(lc w c a (d + 1)).2 - a = m:=by rw [hm.at_]; omega
  have h1:=hm.m1
  have h2:=hm.md
  show plF w (d + 1) c a (d + 1) ds held = _
  rw [plF,if_neg (by omega),if_neg (by omega),e]
  rw [plF_fuel d (d + 1 - m) (c - 1) (a + m) (d + 1 - m) (ds + 1) false (by omega) (by omega) hm.rt,plF_fuel d m c a m ds true (by omega) (by omega) hm.lf]
theorem rnS_app {e:Cn}:∀ {l r:List Av} {c:Cn},rnS l c = some e→rnS (l++r) c = rnS r e∧csS w (l++r) c = csS w l c + csS w r e
  | [],r,c,h=>by
    simp only [rnS,Option.some.injEq] at h
    subst h
    exact ⟨rfl,by show csS w r c = 0 + csS w r c; omega⟩
  | x :: l,r,c,h=>by
    obtain ⟨h1,h2⟩:=rnS_cons h
    obtain ⟨i1,i2⟩:=rnS_app (r:=r) h2
    refine ⟨?_,?_⟩
    · show (if posA c x = true then rnS (l++r) (actA c x) else none) = _
      rw [if_pos h1]; exact i1
    · show (if x.kind = 1 then sumW w c.at_.toNat x.arg.toNat else 0) + csS w (l++r) (actA c x) = (if x.kind = 1 then sumW w c.at_.toNat x.arg.toNat else 0) + csS w l (actA c x) + csS w r e
      rw [i2]; omega
structure PlR (w:List Int) (a ds:Nat) (l:List Av) (v:Int) (c e:Cn):Prop where
  run:rnS l c = some e
  cost:csS w l c = v
  at_:e.at_ = ((a:Nat):Int)
  left:e.left = ((a:Nat):Int)
  len:e.slots.length = c.slots.length
  sl:∀ j,j < ds→e.slots.getD j 0 = c.slots.getD j 0
theorem pl_run:∀ (d:Nat) {c a ds:Nat} {held:Bool} {s:List Int},1≤d→0≤(lc w c a d).1→ds + c = s.length→(held = true→s.getD ds 0 = ((a:Nat):Int)∧1≤c) →
    ∃ e,PlR w a ds (pl w c a d ds held) (lc w c a d).1 ⟨((a:Nat):Int),((a + d:Nat):Int),s⟩ e∧(held = true→e.slots.getD ds 0 = ((a:Nat):Int)):=by
  intro d
  induction d using Nat.strongRecOn with
  | ind d ih =>
    intro c a ds held s hd h0 hs hh
    by_cases h1:d = 1
    · subst h1
      rw [pl_1,lc_1 (Nat.le_refl _)]
      have hp:posA ⟨((a:Nat):Int),((a + 1:Nat):Int),s⟩ ⟨4,0⟩ = true:=by
        show decide (((a:Nat):Int) = ((a + 1:Nat):Int) - 1) = true
        rw [decide_eq_true (by omega)]
      exact ⟨⟨((a:Nat):Int),((a:Nat):Int),s⟩,⟨rnS_mk hp rfl,rfl,rfl,rfl,rfl,fun _ _=>rfl⟩,fun h9=>(hh h9).1⟩
    · obtain ⟨m,hm⟩:=spk (by omega) h0
      have m1:=hm.m1
      have m2:=hm.md
      have hc1:=hm.c1
      rw [pl_s (by omega) h0 hm]
      -- the state behind the store
      have hst:∃ s',s'.length = s.length∧s'.getD ds 0 = ((a:Nat):Int)∧(∀ j,j < ds→s'.getD j 0 = s.getD j 0)∧rnS (if held = true then [] else [⟨2,((ds:Nat):Int)⟩]) ⟨((a:Nat):Int),((a + d:Nat):Int),s⟩ = some ⟨((a:Nat):Int),((a + d:Nat):Int),s'⟩∧csS w (if held = true then [] else [⟨2,((ds:Nat):Int)⟩]) ⟨((a:Nat):Int),((a + d:Nat):Int),s⟩ = 0:=by
        cases held with
        | true=>exact ⟨s,rfl,(hh rfl).1,fun _ _=>rfl,rfl,rfl⟩
        | false =>
          have hp:posA ⟨((a:Nat):Int),((a + d:Nat):Int),s⟩ ⟨2,((ds:Nat):Int)⟩ = true:=by
            show decide (((ds:Nat):Int) < ((s.length:Nat):Int)) = true
            rw [decide_eq_true (by omega)]
          refine ⟨s.set ds ((a:Nat):Int),by simp,by rw [getD_set' (by omega),if_pos rfl],fun j hj=>by rw [getD_set' (by omega),if_neg (by omega)],?_,rfl⟩
          show rnS [⟨2,((ds:Nat):Int)⟩] _ = _
          exact rnS_mk hp (by show some (actA _ _) = _; show some (⟨_,_,s.set (((ds:Nat):Int)).toNat _⟩:Cn) = _; rw [Int.toNat_natCast])
      obtain ⟨s',s1,s2,s3,s4,s5⟩:=hst
      obtain ⟨a1,a2⟩:=rnS_app (w:=w) (r:=⟨1,((m:Nat):Int)⟩ :: (pl w (c - 1) (a + m) (d - m) (ds + 1) false++⟨3,((ds:Nat):Int)⟩ :: pl w c a m ds true)) s4
      -- the advance
      have hp:posA ⟨((a:Nat):Int),((a + d:Nat):Int),s'⟩ ⟨1,((m:Nat):Int)⟩ = true:=by
        show decide (((a:Nat):Int) + ((m:Nat):Int) < ((a + d:Nat):Int)) = true
        rw [decide_eq_true (by omega)]
      have ha:actA ⟨((a:Nat):Int),((a + d:Nat):Int),s'⟩ ⟨1,((m:Nat):Int)⟩ = ⟨((a + m:Nat):Int),((a + m + (d - m):Nat):Int),s'⟩:=by
        show (⟨((a:Nat):Int) + ((m:Nat):Int),((a + d:Nat):Int),s'⟩:Cn) = _
        rw [show ((a:Nat):Int) + ((m:Nat):Int) = ((a + m:Nat):Int) from by omega,show a + m + (d - m) = a + d from by omega]
      -- the right part
      obtain ⟨e1,p1,_⟩:=ih (d - m) (by omega) (c:=c - 1) (a:=a + m) (ds:=ds + 1) (held:=false) (s:=s') (by omega) hm.rt (by omega) (fun h9=>by cases h9)
      obtain ⟨b1,b2⟩:=rnS_app (w:=w) (r:=⟨3,((ds:Nat):Int)⟩ :: pl w c a m ds true) p1.run
      -- the load
      have hsd:e1.slots.getD ds 0 = ((a:Nat):Int):=by rw [p1.sl ds (by omega)]; exact s2
      have hl1:=p1.len
      have hl1:e1.slots.length = s'.length:=hl1
      have hp3:posA e1 ⟨3,((ds:Nat):Int)⟩ = true:=by
        show (decide (((ds:Nat):Int) < ((e1.slots.length:Nat):Int)) && decide (0≤e1.slots.getD (((ds:Nat):Int)).toNat 0)) = true
        rw [Int.toNat_natCast,hsd,decide_eq_true (by omega),decide_eq_true (by omega)]; rfl
      have ha3:actA e1 ⟨3,((ds:Nat):Int)⟩ = ⟨((a:Nat):Int),((a + m:Nat):Int),e1.slots⟩:=by
        show (⟨e1.slots.getD (((ds:Nat):Int)).toNat 0,e1.left,e1.slots⟩:Cn) = _
        rw [Int.toNat_natCast,hsd,p1.left]
      -- the left part
      obtain ⟨e2,p2,g2⟩:=ih m (by omega) (c:=c) (a:=a) (ds:=ds) (held:=true) (s:=e1.slots) (by omega) hm.lf (by omega) (fun _=>⟨hsd,by omega⟩)
      refine ⟨e2,⟨?_,?_,p2.at_,p2.left,?_,?_⟩,fun _=>g2 rfl⟩
      · rw [a1]
        refine rnS_mk hp ?_
        rw [ha,b1]
        refine rnS_mk hp3 ?_
        rw [ha3]; exact p2.run
      · rw [a2,s5]
        show 0 + ((if (1:Int) = 1 then sumW w (((a:Nat):Int)).toNat (((m:Nat):Int)).toNat else 0) + csS w _ (actA _ _)) = _
        rw [ha,b2,if_pos rfl,p1.cost,hm.cost]
        show 0 + (_ + (_ + ((if (3:Int) = 1 then _ else 0) + csS w _ (actA e1 ⟨3,((ds:Nat):Int)⟩)))) = _
        rw [ha3,if_neg (by decide),p2.cost,Int.toNat_natCast,Int.toNat_natCast]
        omega
      · rw [p2.len]; show e1.slots.length = s.length; omega
      · intro j hj
        rw [p2.sl j hj]
        show e1.slots.getD j 0 = s.getD j 0
        rw [p1.sl j (by omega)]; exact s3 j hj
theorem pl_mem:∀ (d:Nat) {c a ds:Nat} {held:Bool},d≤40→ds + c≤8→0≤(lc w c a d).1→((pl w c a d ds held).length≤4 * d∧(1≤d→(pl w c a d ds held).length + 3≤4 * d))∧∀ x∈pl w c a d ds held,avK x∧(x.kind = 2∨x.kind = 3→((ds:Nat):Int)≤x.arg):=by
  intro d
  induction d using Nat.strongRecOn with
  | ind d ih =>
    intro c a ds held hd hs h0
    by_cases h1:d = 0
    · subst h1; rw [pl_0]; exact ⟨⟨Nat.le_refl _,fun h=>by omega⟩,fun x hx=>absurd hx List.not_mem_nil⟩
    by_cases h1:d = 1
    · subst h1; rw [pl_1]
      refine ⟨⟨by simp,fun _=>by simp⟩,fun x hx=>?_⟩
      rw [List.mem_singleton] at hx
      subst hx
      exact ⟨.inr (.inr ⟨rfl,rfl⟩),fun h9=>h9.elim (fun h=>by cases h) (fun h=>by cases h)⟩
    obtain ⟨m,hm⟩:=spk (by omega) h0
    have m1:=hm.m1
    have m2:=hm.md
    have hc1:=hm.c1
    rw [pl_s (by omega) h0 hm]
    obtain ⟨⟨_,l1⟩,k1⟩:=ih (d - m) (by omega) (c:=c - 1) (a:=a + m) (ds:=ds + 1) (held:=false) (by omega) (by omega) hm.rt
    obtain ⟨⟨_,l2⟩,k2⟩:=ih m (by omega) (c:=c) (a:=a) (ds:=ds) (held:=true) (by omega) (by omega) hm.lf
    have l1:=l1 (by omega)
    have l2:=l2 m1
    have hh:(if held = true then ([]:List Av) else [⟨2,((ds:Nat):Int)⟩]).length≤1:=by split <;> simp
    refine ⟨?_,fun x hx=>?_⟩
    · rw [List.length_append,List.length_cons,List.length_append,List.length_cons]
      exact ⟨by omega,fun _=>by omega⟩
    · rcases List.mem_append.1 hx with e | e
      · have e2:x = ⟨2,((ds:Nat):Int)⟩:=by
          cases held with
          | true=>simp at e
          | false=>simpa using e
        subst e2
        exact ⟨.inr (.inl ⟨.inl rfl,by show (0:Int)≤((ds:Nat):Int); omega,by show ((ds:Nat):Int)≤7; omega⟩),fun _=>Int.le_refl _⟩
      · rcases List.mem_cons.1 e with e | e
        · subst e
          exact ⟨.inl ⟨rfl,by show (1:Int)≤((m:Nat):Int); omega,by show ((m:Nat):Int)≤40; omega⟩,fun h9=>h9.elim (fun h=>by cases h) (fun h=>by cases h)⟩
        · rcases List.mem_append.1 e with e | e
          · exact ⟨(k1 x e).1,fun h9=>by have:=(k1 x e).2 h9; omega⟩
          · rcases List.mem_cons.1 e with e | e
            · subst e
              exact ⟨.inr (.inl ⟨.inr rfl,by show (0:Int)≤((ds:Nat):Int); omega,by show ((ds:Nat):Int)≤7; omega⟩),fun _=>Int.le_refl _⟩
            · exact k2 x e
def NoI (l:List Av):Prop:=∀ (r:List Av) (j:Nat),j < l.length→idlS (l++r) j = false
theorem NoI.app {l r:List Av} (h:NoI l) (h2:NoI r):NoI (l++r):=fun t j hj=>by
  rw [List.append_assoc]
  by_cases h9:j < l.length
  · exact h _ j h9
  · rw [List.length_append] at hj
    have:=h2 t (j - l.length) (by omega)
    unfold idlS at this ⊢
    rw [List.drop_append,List.drop_eq_nil_of_le (by omega),List.nil_append]; exact this
theorem NoI.cons {x:Av} {l:List Av} (hx:∀ r,idlH (x :: (l++r)) = false) (h:NoI l):NoI (x :: l):=fun r j hj=>by
  cases j with
  | zero=>exact hx r
  | succ j=>exact h r j (by simp at hj; omega)
theorem scn_ld {d:Int}:∀ (l:List Av) (r:List Av),(∀ x∈l,x.kind = 2∨x.kind = 3→x.arg≠d)→scnI d (l++⟨3,d⟩ :: r) = false
  | [],r,_=>by show (if d = d∧(3:Int) = 3 then false else _) = false; rw [if_pos ⟨rfl,rfl⟩]
  | x :: l,r,h=>by
    have hx:=h x (List.mem_cons_self ..)
    show (if x.arg = d∧x.kind = 3 then false else if x.arg = d∧x.kind = 2 then true else scnI d (l++⟨3,d⟩ :: r)) = false
    rw [if_neg (fun h9=>hx (.inr h9.2) h9.1),if_neg (fun h9=>hx (.inl h9.2) h9.1)]
    exact scn_ld l r fun y hy=>h y (List.mem_cons_of_mem _ hy)
theorem pl_hd (hd:1≤d) (h0:0≤(lc w c a d).1) (r:List Av):hdL (pl w c a d ds held++r) = false:=by
  by_cases h1:d = 1
  · subst h1; rw [pl_1]; rfl
  · obtain ⟨m,hm⟩:=spk (by omega) h0
    rw [pl_s (by omega) h0 hm]
    cases held <;> rfl
theorem pl_noI:∀ (d:Nat) {c a ds:Nat} {held:Bool},d≤40→ds + c≤8→0≤(lc w c a d).1→NoI (pl w c a d ds held):=by
  intro d
  induction d using Nat.strongRecOn with
  | ind d ih =>
    intro c a ds held hd hs h0
    by_cases h1:d = 0
    · subst h1; rw [pl_0]; exact fun r j hj=>by simp at hj
    by_cases h1:d = 1
    · subst h1; rw [pl_1]
      exact NoI.cons (fun r=>rfl) (fun r j hj=>by simp at hj)
    obtain ⟨m,hm⟩:=spk (by omega) h0
    have m1:=hm.m1
    have m2:=hm.md
    have hc1:=hm.c1
    rw [pl_s (by omega) h0 hm]
    have n1:=ih (d - m) (by omega) (c:=c - 1) (a:=a + m) (ds:=ds + 1) (held:=false) (by omega) (by omega) hm.rt
    have n2:=ih m (by omega) (c:=c) (a:=a) (ds:=ds) (held:=true) (by omega) (by omega) hm.lf
    have k1:=(pl_mem (d - m) (c:=c - 1) (a:=a + m) (ds:=ds + 1) (held:=false) (by omega) (by omega) hm.rt).2
    have nA:NoI (⟨1,((m:Nat):Int)⟩ :: (pl w (c - 1) (a + m) (d - m) (ds + 1) false++⟨3,((ds:Nat):Int)⟩ :: pl w c a m ds true)):=by
      refine NoI.cons (fun r=>?_) (n1.app (NoI.cons (fun r=>?_) n2))
      · rw [List.append_assoc]
        show hdL _ = false
        exact pl_hd (by omega) hm.rt _
      · show hdL _ = false
        exact pl_hd m1 hm.lf _
    cases held with
    | true=>exact nA
    | false =>
      refine NoI.cons (fun r=>?_) nA
      show scnI ((ds:Nat):Int) (⟨1,((m:Nat):Int)⟩ :: (pl w (c - 1) (a + m) (d - m) (ds + 1) false++⟨3,((ds:Nat):Int)⟩ :: pl w c a m ds true)++r) = false
      rw [List.cons_append,List.append_assoc]
      refine scn_ld (⟨1,((m:Nat):Int)⟩ :: pl w (c - 1) (a + m) (d - m) (ds + 1) false) (pl w c a m ds true++r) fun x hx h9=>?_
      rcases List.mem_cons.1 hx with e | e
      · subst e; rcases h9 with h | h <;> cases h
      · have:=(k1 x e).2 h9; omega
end
end Go.Proofs.Ytoacbkmejjhceaa
namespace Go.Proofs.Ytoacbkmejjhceaa
open Go Go.RowKit
set_option linter.unusedVariables false
set_option linter.unusedSimpArgs false
def lcT (w:List Int) (k:Int):Int:=(lc w k.toNat 0 w.length).1
def lcV (w:List Int) (k:Int):Int:=if lcT w k < 0 then 0 else lcT w k
def lcE (w:List Int) (k:Int):Int:=if lcT w k < 0 then 4 else 0
def plT (w:List Int) (k:Int):List Av:=if lcT w k < 0 then [] else pl w k.toNat 0 w.length 0 false
section
variable {l:List Av} {w:List Int} {k:Int}
structure PlD (w:List Int) (k:Int):Prop where
  sch:schB (plT w k) = true
  len:(plT w k).length≤160
  v0:rnA (plT w k) w k = 0
  cost:(rnU (plT w k) w k).cost = lcV w k
  c:tmC (plT w k) ((w.length:Nat):Int) k = 0
  r:tmR (plT w k) ((w.length:Nat):Int) k = plT w k
theorem plD (hw:wgB w = true) (hk:0≤k∧k≤8) (h0:lcE w k = 0):PlD w k:=by
  obtain ⟨q,rfl⟩:∃ q:Nat,k = ((q:Nat):Int):=⟨k.toNat,by omega⟩
  have hwl:=wgB_iff.1 hw
  have h1:¬ lcT w ((q:Nat):Int) < 0:=fun h9=>by unfold lcE at h0; rw [if_pos h9] at h0; cases h0
  have e:plT w ((q:Nat):Int) = pl w q 0 w.length 0 false:=by unfold plT; rw [if_neg h1,Int.toNat_natCast]
  have hv:lcV w ((q:Nat):Int) = lcT w ((q:Nat):Int):=if_neg h1
  have hT:lcT w ((q:Nat):Int) = (lc w q 0 w.length).1:=by unfold lcT; rw [Int.toNat_natCast]
  have h2:0≤(lc w q 0 w.length).1:=by omega
  obtain ⟨⟨m1,_⟩,m2⟩:=pl_mem w.length (w:=w) (c:=q) (a:=0) (ds:=0) (held:=false) hwl.1 (by omega) h2
  have hni:=pl_noI w.length (w:=w) (c:=q) (a:=0) (ds:=0) (held:=false) hwl.1 (by omega) h2
  have hs:schB (pl w q 0 w.length 0 false) = true:=schB_iff.2 ⟨by omega,mem_gd fun x hx=>(m2 x hx).1⟩
  have hrun:∃ e,rnS (pl w q 0 w.length 0 false) (bgn ((w.length:Nat):Int) q) = some e∧e.left≤0∧csS w (pl w q 0 w.length 0 false) (bgn ((w.length:Nat):Int) q) = (lc w q 0 w.length).1:=by
    by_cases hn:w.length = 0
    · rw [hn,pl_0,lc_1 (by omega)]
      exact ⟨_,rfl,Int.le_refl _,rfl⟩
    · obtain ⟨e,p,_⟩:=pl_run w.length (w:=w) (c:=q) (a:=0) (ds:=0) (held:=false) (s:=List.replicate q (-1)) (by omega) h2 (by simp) (fun h9=>by cases h9)
      have eb:(⟨((0:Nat):Int),((0 + w.length:Nat):Int),List.replicate q (-1)⟩:Cn) = bgn ((w.length:Nat):Int) q:=by rw [Nat.zero_add]; rfl
      rw [eb] at p
      exact ⟨e,p.run,by rw [p.left]; exact Int.le_refl _,p.cost⟩
  obtain ⟨e',r1,r2,r3⟩:=hrun
  have hu:=run_us (n:=w.length) (q:=q) ⟨e',r1,r2⟩
  have hpl:=tm_pl hs hwl.1 hk
  have hc:tmC (pl w q 0 w.length 0 false) ((w.length:Nat):Int) ((q:Nat):Int) = 0:=by rw [tmC_u hpl]; exact hu
  have hrn:rnA (pl w q 0 w.length 0 false) w ((q:Nat):Int) = 0:=by rw [tm_rn hs hw hk]; exact hc
  have htr:trmF (pl w q 0 w.length 0 false) = pl w q 0 w.length 0 false:=trmF_end (Nat.le_refl _) fun j hj=>by
    have:=hni [] j hj
    rwa [List.append_nil] at this
  rw [← e] at hs hc hrn htr hu r3 m1
  refine ⟨hs,by omega,hrn,?_,hc,by rw [tmR_0 hc,htr]⟩
  rw [rnU_u ⟨hs,hw⟩ hk,Int.toNat_natCast,(us_val hs hw rfl hu).1,r3,hv,hT]
theorem least_of (hs:schB l = true) (hw:wgB w = true) (hk:0≤k∧k≤8) (h:rnA l w k = 0):0≤lcT w k∧lcT w k≤(rnU l w k).cost:=by
  obtain ⟨q,rfl⟩:∃ q:Nat,k = ((q:Nat):Int):=⟨k.toNat,by omega⟩
  have hwl:=wgB_iff.1 hw
  have hu:usC l w.length q = 0:=by
    rw [rnA_0 ⟨hs,hw⟩ hk,Int.toNat_natCast] at h; exact h
  obtain ⟨e,r1,r2⟩:=us_run hu
  have hl:=least_cost (w:=w) (fun j=>(hwl.2 j).1) (schB_mem hs) r1 r2
  have h9:=le_lc (fun j=>(hwl.2 j).1) hl (Nat.zero_le _)
  rw [Nat.sub_zero] at h9
  rw [rnU_u ⟨hs,hw⟩ hk,Int.toNat_natCast,(us_val hs hw rfl hu).1]
  unfold lcT
  rw [Int.toNat_natCast]; exact h9
theorem least_no (hs:schB l = true) (hw:wgB w = true) (hk:0≤k∧k≤8) (h:lcE w k≠0):rnA l w k≠0:=fun h9=>by
  have:=(least_of hs hw hk h9).1
  unfold lcE at h
  rw [if_neg (by omega)] at h; exact h rfl
theorem least_ge (hs:schB l = true) (hw:wgB w = true) (hk:0≤k∧k≤8) (h:rnA l w k = 0):lcV w k≤(rnU l w k).cost:=by
  have:=least_of hs hw hk h
  unfold lcV
  rw [if_neg (by omega)]; exact this.2
theorem lcE_rng:lcE w k = 0∨lcE w k = 4:=by unfold lcE; split <;> simp
theorem plT_len (hw:wgB w = true) (hk:0≤k∧k≤8):(plT w k).length≤160:=by
  by_cases h:lcT w k < 0
  · unfold plT; rw [if_pos h]; exact Nat.zero_le _
  · exact (plD hw hk (if_neg h)).len
theorem lcE_n (h:lcT w k < 0):lcE w k = 4:=if_pos h
theorem lcE_0 (h:¬ lcT w k < 0):lcE w k = 0:=if_neg h
theorem lcV_n (h:lcT w k < 0):lcV w k = 0:=if_pos h
theorem lcV_0 (h:¬ lcT w k < 0):lcV w k = lcT w k:=if_neg h
end
end Go.Proofs.Ytoacbkmejjhceaa
namespace Go.Proofs.Ytoacbkmejjhceaa
open Go Go.RowKit
set_option linter.unusedVariables false
set_option linter.unusedSimpArgs false
structure K3 where
  a:Int
  b:Int
  c:Int
deriving DecidableEq
def k3V (k:K3):Value:=.agg #[.int .i64 k.a,.int .i64 k.b,.int .i64 k.c]
def k3R (k:K3):Prop:=i64 k.a∧i64 k.b∧i64 k.c
theorem k3V_inj {k k':K3} (h:k3V k = k3V k'):k = k':=by
  have h1:=Value.agg.inj h
  have h2:[Value.int .i64 k.a,.int .i64 k.b,.int .i64 k.c] = [.int .i64 k'.a,.int .i64 k'.b,.int .i64 k'.c]:=by simpa using h1
  injection h2 with a1 h2
  injection h2 with a2 h2
  injection h2 with a3 _
  injection a1 with _ a1; injection a2 with _ a2; injection a3 with _ a3
  cases k; cases k'
  simp only at a1 a2 a3
  rw [a1,a2,a3]
def insK (k:K3) (S:List K3):List K3:=if k∈S then S else S++[k]
theorem insK_mem {k:K3} {S:List K3}:k∈insK k S:=by unfold insK; split <;> simp [*]
theorem insK_old {k q:K3} {S:List K3} (h:q∈S):q∈insK k S:=by unfold insK; split <;> simp [*]
theorem insK_sub {k q:K3} {S S':List K3} (h:∀ q,q∈S→q∈S') (hq:q∈insK k S):q∈insK k S':=by
  by_cases e:q = k
  · subst e; exact insK_mem
  · refine insK_old (h q ?_)
    unfold insK at hq
    split at hq
    · exact hq
    · simpa [e] using hq
def Map3 (H:Array Obj) (g:Nat) (S:List K3) (Φ:K3→Int→Prop):Prop :=
  ∃ es clock,H[g]? = some (.map es clock)∧es.toList.map (·.key) = S.map k3V∧(∀ x∈es.toList,∃ k v,x.key = k3V k∧x.val = .int .i64 v∧i64 v∧Φ k v)∧(∀ k∈S,k3R k)∧S.Nodup∧(∀ x∈es.toList,x.born < clock)∧(es.toList.map (·.born)).Nodup
def Map3S (H:Array Obj) (g:Nat) (S:List K3) (Φ:K3→Int→Prop) (q:K3) (st:Nat):Prop :=
  ∃ es clock,H[g]? = some (.map es clock)∧es.toList.map (·.key) = S.map k3V∧(∀ x∈es.toList,x.born≠st→∃ k v,x.key = k3V k∧x.val = .int .i64 v∧i64 v∧Φ k v)∧(∀ k∈S,k3R k)∧S.Nodup∧(∀ x∈es.toList,x.born < clock)∧(es.toList.map (·.born)).Nodup∧∃ e0∈es.toList,e0.born = st∧e0.key = k3V q
section
variable {H:Array Obj} {w w':World} {g:Nat} {S:List K3} {Φ:K3→Int→Prop} {F:List Nat} {P:Program} {t k e:TypeId} {q:K3} {v:Int}
theorem Map3.lt (h:Map3 H g S Φ):g < H.size:=by obtain ⟨_,_,h,_⟩:=h; exact getElem?_lt h
theorem Map3.chg (h:Map3 w.heap g S Φ) (c:Chg F w w') (hg:g∉F):Map3 w'.heap g S Φ:=by
  have hl:=h.lt
  obtain ⟨es,k,h1,h2⟩:=h
  exact ⟨es,k,by rw [c.block g hl hg]; exact h1,h2⟩
theorem Map3.ext (h:Map3 w.heap g S Φ) (c:Ext w w'):Map3 w'.heap g S Φ:=by
  have hl:=h.lt
  obtain ⟨es,k,h1,h2⟩:=h
  exact ⟨es,k,by rw [c.heap hl]; exact h1,h2⟩
theorem map3_all (hK:∀ q,k3R q→∃ l,keyOf P k (k3V q) = some l) {es:Array MapEntry} (h2:es.toList.map (·.key) = S.map k3V) (h4:∀ k∈S,k3R k):∀ x∈es.toList,∃ l,keyOf P k x.key = some l:=fun x hx=>by
  have hm:x.key∈es.toList.map (·.key):=List.mem_map.2 ⟨x,hx,rfl⟩
  rw [h2] at hm
  obtain ⟨y,hy,e⟩:=List.mem_map.1 hm
  rw [← e]; exact hK y (h4 y hy)
theorem map3_mem {es:Array MapEntry} {x:MapEntry} (h2:es.toList.map (·.key) = S.map k3V) (hx:x∈es.toList) (he:x.key = k3V q):q∈S:=by
  have hm:x.key∈es.toList.map (·.key):=List.mem_map.2 ⟨x,hx,rfl⟩
  rw [h2,he] at hm
  obtain ⟨y,hy,e⟩:=List.mem_map.1 hm
  rw [← k3V_inj e]; exact hy
theorem look3 (ht:P.underlying t = some (.map k e)) (K:Maps.Keyed P k) (hK:∀ q,k3R q→∃ l,keyOf P k (k3V q) = some l) (hz:∀ u:World,(zeroValue e).run P u = .ok (.int .i64 0) u) (h:Map3 H g S Φ) (hq:k3R q) :
    ∃ (r:Int) (b:Bool),i64 r∧(b = true→q∈S∧Φ q r)∧(b = false→q∉S)∧∀ (w':World) (co:Bool),w'.heap[g]? = H[g]?→(Instr.lookup t (.map (some g)) (k3V q) co).run P w' = .ok (if co then .tuple #[.int .i64 r,.bool b] else .int .i64 r) w':=by
  obtain ⟨es,clock,hb,h2,h3,h4,h5,_,_⟩:=h
  obtain ⟨l,hkey⟩:=hK q hq
  by_cases hm:q∈S
  · obtain ⟨i,hi⟩:=List.getElem?_of_mem hm
    have hik:(es.toList.map (·.key))[i]? = some (k3V q):=by rw [h2,List.getElem?_map,hi]; rfl
    rw [List.getElem?_map] at hik
    obtain ⟨e0,f2,f3⟩:=Option.map_eq_some_iff.1 hik
    obtain ⟨q',v,e1,e2,e3,e4⟩:=h3 e0 (List.mem_of_getElem? f2)
    have eq:q' = q:=k3V_inj (by rw [← e1]; exact f3)
    subst eq
    refine ⟨v,true,e3,fun _=>⟨hm,e4⟩,fun h9=>(by cases h9),fun w' co hw=>?_⟩
    rw [hb] at hw
    rcases K.find w' hkey es.toList (map3_all hK h2 h4) with ⟨g1,g2⟩ | ⟨j,e9,g1,g2,g3⟩
    · exact absurd f3 (g2 e0 (List.mem_of_getElem? f2))
    · have hjk:(S.map k3V)[j]? = some (k3V q'):=by rw [← h2,List.getElem?_map,g2]; exact congrArg some g3
      rw [List.getElem?_map] at hjk
      obtain ⟨q9,j2,j3⟩:=Option.map_eq_some_iff.1 hjk
      rw [k3V_inj j3] at j2
      have hij:j = i:=by
        have h6:=(List.getElem?_eq_some_iff.1 j2)
        have h7:=(List.getElem?_eq_some_iff.1 hi)
        obtain ⟨a1,a2⟩:=h6
        obtain ⟨b1,b2⟩:=h7
        have hp:=List.pairwise_iff_getElem.1 h5
        rcases Nat.lt_trichotomy j i with h | h | h
        · exact absurd (a2.trans b2.symm) (hp j i a1 b1 h)
        · exact h
        · exact absurd (b2.trans a2.symm) (hp i j b1 a1 h)
      subst hij
      rw [f2] at g2
      have e9e:=Option.some.inj g2
      subst e9e
      obtain ⟨hj,hje⟩:=List.getElem?_eq_some_iff.1 f2
      cases co <;> simp [Instr.lookup,run_underlying ht,MapKept.run_getObj_map hw,K.check w' _ hkey,g1,Result.andThen] <;> (simp only [Array.getElem_toList] at hje; simp [hje,e2])
  · refine ⟨0,false,by unfold i64; omega,fun h9=>(by cases h9),fun _=>hm,fun w' co hw=>?_⟩
    rw [hb] at hw
    rcases K.find w' hkey es.toList (map3_all hK h2 h4) with ⟨g1,g2⟩ | ⟨j,e9,g1,g2,g3⟩
    · cases co <;> simp [Instr.lookup,run_underlying ht,MapKept.run_getObj_map hw,K.check w' _ hkey,g1,hz,Result.andThen]
    · exact absurd (map3_mem h2 (List.mem_of_getElem? g2) g3) hm
theorem run_ent3 {z:Value} (ht:P.underlying t = some (.map k e)) (K:Maps.Keyed P k) (hK:∀ q,k3R q→∃ l,keyOf P k (k3V q) = some l) (hz:∀ u:World,(zeroValue e).run P u = .ok z u) (h:Map3 w.heap g S Φ) (hq:k3R q) :
    ∃ (v0:Value) (st:Nat) (w':World),(Instr.mapEntry t (.map (some g)) (k3V q)).run P w = .ok (.tuple #[v0,.int .i64 ((st:Nat):Int)]) w'∧Chg [g] w w'∧w'.heap.size = w.heap.size∧Map3S w'.heap g (insK q S) Φ q st:=by
  obtain ⟨es,clock,hb,h2,h3,h4,h5,h6,h7⟩:=h
  obtain ⟨l,hkey⟩:=hK q hq
  have h5':(insK q S).Nodup:=by
    unfold insK
    split
    · exact h5
    · rename_i hn
      exact List.nodup_append.2 ⟨h5,by simp,fun b hb' c hc e1=>hn (by rw [← List.mem_singleton.1 hc,← e1]; exact hb')⟩
  have h4':∀ k∈insK q S,k3R k:=fun x hx=>by
    unfold insK at hx
    split at hx
    · exact h4 x hx
    · rcases List.mem_append.1 hx with hx | hx
      · exact h4 x hx
      · rw [List.mem_singleton.1 hx]; exact hq
  rcases K.find w hkey es.toList (map3_all hK h2 h4) with ⟨f1,f2⟩ | ⟨j,e0,f1,f2,f3⟩
  · have hn:q∉S:=fun hm=>by
      have:k3V q∈es.toList.map (·.key):=by rw [h2]; exact List.mem_map.2 ⟨q,hm,rfl⟩
      obtain ⟨x,hx,e⟩:=List.mem_map.1 this
      exact f2 x hx e
    refine ⟨z,clock,ChangeMaps.setBlock w g (.map (es.push ⟨k3V q,z,clock⟩) (clock + 1)),?_,chg_blk hb _,by simp [ChangeMaps.setBlock],es.push ⟨k3V q,z,clock⟩,clock + 1,ChangeMaps.heap_setBlock_same hb _,?_,fun x hx hne=>?_,h4',h5',fun x hx=>?_,?_,⟨k3V q,z,clock⟩,by simp,rfl,rfl⟩
    · simp [Instr.mapEntry,run_underlying ht,MapKept.run_getObj_map hb,K.check w false hkey,f1,hz,MapKept.run_setObj_map _ hb,Result.andThen,ChangeMaps.setBlock,goInt]
    · unfold insK; rw [if_neg hn]; simp [h2]
    · simp only [Array.toList_push,List.mem_append,List.mem_singleton] at hx
      rcases hx with hx | rfl
      · exact h3 x hx
      · exact absurd rfl hne
    · simp only [Array.toList_push,List.mem_append,List.mem_singleton] at hx
      rcases hx with hx | rfl
      · have:=h6 x hx; omega
      · exact Nat.lt_succ_self _
    · simp only [Array.toList_push,List.map_append,List.map_cons,List.map_nil]
      refine List.nodup_append.2 ⟨h7,by simp,fun b hb' c hc e1=>?_⟩
      simp only [List.mem_singleton] at hc
      obtain ⟨x,hx,rfl⟩:=List.mem_map.1 hb'
      have:=h6 x hx
      omega
  · have hj:es[j]? = some e0:=by simpa using f2
    have hm:q∈S:=map3_mem h2 (List.mem_of_getElem? f2) f3
    have hsame:es.modify j (fun e=>{ e with key:=k3V q }) = es:=by
      apply Array.ext'
      rw [Array.toList_modify,ChangeMaps.modify_eq_set _ _ _ _ f2]
      have:({ e0 with key:=k3V q }:MapEntry) = e0:=by rw [← f3]
      rw [this]
      exact WideElems.set_self _ _ _ f2
    refine ⟨e0.val,e0.born,ChangeMaps.setBlock w g (.map es clock),?_,chg_blk hb _,by simp [ChangeMaps.setBlock],es,clock,ChangeMaps.heap_setBlock_same hb _,?_,fun x hx _=>h3 x hx,h4',h5',h6,h7,e0,List.mem_of_getElem? f2,rfl,f3⟩
    · simp [Instr.mapEntry,run_underlying ht,MapKept.run_getObj_map hb,K.check w false hkey,f1,hj,f3,K.stays w hkey,hsame,MapKept.run_setObj_map _ hb,Result.andThen,ChangeMaps.setBlock,goInt]
    · unfold insK; rw [if_pos hm]; exact h2
theorem run_ens3 {st:Nat} (h:Map3S w.heap g S Φ q st) (hv:i64 v) (hP:Φ q v):∃ w',(Instr.entryStore t (.map (some g)) (.int .i64 ((st:Nat):Int)) (.int .i64 v)).run P w = .ok () w'∧Chg [g] w w'∧w'.heap.size = w.heap.size∧Map3 w'.heap g S Φ:=by
  obtain ⟨es,clock,hb,h2,h3,h4,h5,h6,h7,e0,he,hs,hke⟩:=h
  obtain ⟨j,hj⟩:=List.getElem?_of_mem he
  have hidx:es.findIdx? (fun e=>((e.born:Nat):Int) == ((st:Nat):Int)) = some j:=by
    rw [← hs,WideElems.findIdx_arr]
    exact WideElems.findIdx_born h7 hj
  have hl:(es.modify j (fun e=>{ e with val:=.int .i64 v })).toList = es.toList.set j { e0 with val:=.int .i64 v }:=by
    rw [Array.toList_modify,ChangeMaps.modify_eq_set _ _ _ _ hj]
  refine ⟨ChangeMaps.setBlock w g (.map (es.modify j (fun e=>{ e with val:=.int .i64 v })) clock),?_,chg_blk hb _,by simp [ChangeMaps.setBlock],_,clock,ChangeMaps.heap_setBlock_same hb _,?_,fun x hx=>?_,h4,h5,fun x hx=>?_,?_⟩
  · simp [Instr.entryStore,MapKept.run_getObj_map hb,asInt,asIntOf,hidx,MapKept.run_setObj_map _ hb,Result.andThen,ChangeMaps.setBlock]
  · rw [hl,List.map_set,← h2]
    exact WideElems.set_self _ _ _ (by rw [List.getElem?_map,hj]; rfl)
  · rw [hl] at hx
    obtain ⟨i,hi⟩:=List.getElem?_of_mem hx
    rw [List.getElem?_set] at hi
    split at hi
    · rename_i hij
      split at hi
      · rw [← Option.some.inj hi]
        exact ⟨q,v,hke,rfl,hv,hP⟩
      · cases hi
    · rename_i hij
      have hxm:=List.mem_of_getElem? hi
      refine h3 x hxm fun hb9=>hij ?_
      have hbj:(es.toList.map (·.born))[j]? = some st:=by rw [List.getElem?_map,hj,← hs]; rfl
      have hbi:(es.toList.map (·.born))[i]? = some st:=by rw [List.getElem?_map,hi,← hb9]; rfl
      obtain ⟨a1,a2⟩:=List.getElem?_eq_some_iff.1 hbj
      obtain ⟨b1,b2⟩:=List.getElem?_eq_some_iff.1 hbi
      have hp:=List.pairwise_iff_getElem.1 h7
      rcases Nat.lt_trichotomy j i with h | h | h
      · exact absurd (a2.trans b2.symm) (hp j i a1 b1 h)
      · exact h
      · exact absurd (b2.trans a2.symm) (hp i j b1 a1 h)
  · rw [hl] at hx
    rcases List.mem_or_eq_of_mem_set hx with hx | rfl
    · exact h6 x hx
    · exact h6 e0 he
  · rw [hl,List.map_set]
    rw [WideElems.set_self (es.toList.map (·.born)) j e0.born (by rw [List.getElem?_map,hj]; rfl)]
    exact h7
end
section ops
variable {P:Program} {ops:Array Oper} {w0:World} {Q:Act→World→Prop} {os:List Oper} {ks:List Nat} {N:Nat} {ρ:Nat→Value} {w:World}
  {d:Nat} {ty:TypeId} {pos:String} {aft:Array Edge} {gd:Option (Nat × Bool)} {t k e:TypeId} {g:Nat} {S:List K3} {Φ:K3→Int→Prop} {q:K3} {n:Int}
theorem r_map3 (Φ:K3→Int→Prop) (hu:Up ops N ρ ⟨some d,.makeMap t none,ty,pos,aft,gd⟩)
    (h:∀ w1,Ext w w1→w1.heap.size = w.heap.size + 1→Map3 w1.heap w.heap.size [] Φ→LW P ops w0 Q os ks (mk N (upd ρ d (.map (some w.heap.size)))) w1) :
    LW P ops w0 Q (⟨some d,.makeMap t none,ty,pos,aft,gd⟩ :: os) (3 :: ks) (mk N ρ) w:=by
  have hrun:(execOp (evF N ρ) ⟨some d,.makeMap t none,ty,pos,aft,gd⟩).run P w = .ok (.value (.map (some w.heap.size))) (w.alloc (.map #[] 0)):=by
    simp only [execOp,Option.map_none,Sem.run_bind,run_makeMap,Result.andThen_ok,Sem.run_pure]
  exact lw_r rfl hu _ _ hrun (ext_alloc _ _) (h _ (ext_alloc _ _) (by simp) ⟨#[],0,heap_alloc_new _ _,rfl,fun x hx=>(by simp at hx),fun x hx=>(by cases hx),List.nodup_nil,fun x hx=>(by simp at hx),List.nodup_nil⟩)
theorem q_look3 {x y:Operand} (ht:P.underlying t = some (.map k e)) (K:Maps.Keyed P k) (hK:∀ q,k3R q→∃ l,keyOf P k (k3V q) = some l) (hz:∀ u:World,(zeroValue e).run P u = .ok (.int .i64 0) u) (hx:evF N ρ x = .map (some g)) (hy:evF N ρ y = k3V q) (hm:Map3 w.heap g S Φ) (hq:k3R q)
    (hu:Up ops N ρ ⟨some d,.lookup t x y true,ty,pos,aft,gd⟩)
    (h:∀ (r:Int) (b:Bool),i64 r→((!b) = false→q∈S∧Φ q r)→((!b) = true→q∉S)→LW P ops w0 Q os ks (mk N (upd ρ d (.tuple #[.int .i64 r,.bool b]))) w) :
    LW P ops w0 Q (⟨some d,.lookup t x y true,ty,pos,aft,gd⟩ :: os) (2 :: ks) (mk N ρ) w:=by
  obtain ⟨r,b,h1,h2,h3,h4⟩:=look3 ht K hK hz hm hq
  refine lw_q (by decide) rfl hu (.tuple #[.int .i64 r,.bool b]) (fun w' hcl=>?_) (h r b h1 (fun e=>h2 (by simpa using e)) (fun e=>h3 (by simpa using e)))
  have hcl:Ext w w':=hcl
  simp only [execOp,hx,hy,Sem.run_bind,h4 w' true (hcl.heap hm.lt),Result.andThen_ok,Sem.run_pure]
  rfl
theorem q_get3 {x y:Operand} (ht:P.underlying t = some (.map k e)) (K:Maps.Keyed P k) (hK:∀ q,k3R q→∃ l,keyOf P k (k3V q) = some l) (hz:∀ u:World,(zeroValue e).run P u = .ok (.int .i64 0) u) (hx:evF N ρ x = .map (some g)) (hy:evF N ρ y = k3V q) (hm:Map3 w.heap g S Φ) (hq:k3R q) (hS:q∈S)
    (hu:Up ops N ρ ⟨some d,.lookup t x y false,ty,pos,aft,gd⟩)
    (h:∀ (r:Int),i64 r→Φ q r→LW P ops w0 Q os ks (mk N (upd ρ d (.int .i64 r))) w) :
    LW P ops w0 Q (⟨some d,.lookup t x y false,ty,pos,aft,gd⟩ :: os) (2 :: ks) (mk N ρ) w:=by
  obtain ⟨r,b,h1,h2,h3,h4⟩:=look3 ht K hK hz hm hq
  have hb:b = true:=by
    cases b with
    | true=>rfl
    | false=>exact absurd hS (h3 rfl)
  refine lw_q (by decide) rfl hu (.int .i64 r) (fun w' hcl=>?_) (h r h1 (h2 hb).2)
  have hcl:Ext w w':=hcl
  simp only [execOp,hx,hy,Sem.run_bind,h4 w' false (hcl.heap hm.lt),Result.andThen_ok,Sem.run_pure]
  rfl
theorem e_ent3 {x y:Operand} {z:Value} (ht:P.underlying t = some (.map k e)) (K:Maps.Keyed P k) (hK:∀ q,k3R q→∃ l,keyOf P k (k3V q) = some l) (hz:∀ u:World,(zeroValue e).run P u = .ok z u) (hx:evF N ρ x = .map (some g)) (hy:evF N ρ y = k3V q) (hm:Map3 w.heap g S Φ) (hq:k3R q)
    (hu:Up ops N ρ ⟨some d,.mapEntry t x y,ty,pos,aft,gd⟩)
    (h:∀ v0 st w1,Chg [g] w w1→w1.heap.size = w.heap.size→Map3S w1.heap g (insK q S) Φ q st→LW P ops w0 Q os ks (mk N (upd ρ d (.tuple #[v0,.int .i64 ((st:Nat):Int)]))) w1) :
    LW P ops w0 Q (⟨some d,.mapEntry t x y,ty,pos,aft,gd⟩ :: os) (4 :: ks) (mk N ρ) w:=by
  obtain ⟨v0,st,w1,h1,h2,h3,h4⟩:=run_ent3 (P:=P) ht K hK hz hm hq
  exact lw_e rfl hu _ w1 (by simp only [execOp,hx,hy,Sem.run_bind,h1,Result.andThen_ok,Sem.run_pure]) (h v0 st w1 h2 h3 h4)
theorem e_ens3 {x s y:Operand} {st:Nat} (hx:evF N ρ x = .map (some g)) (hs:evF N ρ s = .int .i64 ((st:Nat):Int)) (hy:evF N ρ y = .int .i64 n) (hm:Map3S w.heap g S Φ q st) (hn:i64 n) (hP:Φ q n) (hu:Up ops N ρ ⟨none,.entryStore t x s y,ty,pos,aft,gd⟩)
    (h:∀ w1,Chg [g] w w1→w1.heap.size = w.heap.size→Map3 w1.heap g S Φ→LW P ops w0 Q os ks (mk N ρ) w1) :
    LW P ops w0 Q (⟨none,.entryStore t x s y,ty,pos,aft,gd⟩ :: os) (4 :: ks) (mk N ρ) w:=by
  obtain ⟨w1,h1,h2,h3,h4⟩:=run_ens3 (P:=P) (t:=t) hm hn hP
  exact lw_s rfl hu w1 (by simp only [execOp,hx,hs,hy,Sem.run_bind,h1,Result.andThen_ok,Sem.run_pure]) (h w1 h2 h3 h4)
end ops
end Go.Proofs.Ytoacbkmejjhceaa
namespace Go.Proofs.Ytoacbkmejjhceaa
open Go Go.RowKit
set_option linter.unusedVariables false
set_option linter.unusedSimpArgs false
def ent (w:List Int) (c s a0 a b:Nat):Int:=if a + 2≤b∧(b - a < s∨(b - a = s∧a < a0)) then (lc w c a (b - a)).1 else 0
structure LvK (w:List Int) (n c s a0:Nat) (L:List (List Int)):Prop where
  len:L.length = n + 1
  row:∀ a,a≤n→(L.getD a []).length = n + 1
  en:∀ a b,a≤n→b≤n→(L.getD a []).getD b 0 = ent w c s a0 a b
def TbK (w:List Int) (n:Nat) (T:List (List (List Int))):Prop:=∀ c,c < T.length→LvK w n c (n + 1) 0 (T.getD c [])
section
variable {w:List Int} {n c s a0 a b m k:Nat} {L:List (List Int)} {T:List (List (List Int))} {v:Int}
theorem lv_len (h:L = List.replicate (n + 1) (List.replicate (n + 1) 0)):LvK w n c 2 0 L:=by
  subst h
  refine ⟨by simp,fun a ha=>?_,fun a b ha hb=>?_⟩
  · rw [List.getD_eq_getElem?_getD,List.getElem?_replicate,if_pos (by omega)]; simp
  · have e:ent w c 2 0 a b = 0:=by unfold ent; rw [if_neg (by omega)]
    rw [e]
    simp only [List.getD_eq_getElem?_getD,List.getElem?_replicate]
    rw [if_pos (by omega)]
    simp only [Option.getD_some,List.getElem?_replicate]
    split <;> rfl
theorem gd_setL {xs:List (List Int)} {i j:Nat} {x:List Int} (hi:i < xs.length):(xs.set i x).getD j [] = if j = i then x else xs.getD j []:=by
  simp only [List.getD_eq_getElem?_getD,List.getElem?_set]
  by_cases h:i = j
  · subst h; simp [hi]
  · rw [if_neg h,if_neg (fun h9=>h h9.symm)]
theorem LvK.set (h:LvK w n c s a0 L) (hs:2≤s) (ha:a0 + s≤n) (hv:v = (lc w c a0 s).1):LvK w n c s (a0 + 1) (L.set a0 ((L.getD a0 []).set (a0 + s) v)):=by
  obtain ⟨h1,h2,h3⟩:=h
  have hr:=h2 a0 (by omega)
  refine ⟨by simp [h1],fun a ha'=>?_,fun a b ha' hb'=>?_⟩
  · rw [gd_setL (by omega)]
    split
    · rw [List.length_set]; exact hr
    · exact h2 a ha'
  · rw [gd_setL (by omega)]
    by_cases e:a = a0
    · rw [if_pos e]
      subst e
      rw [getD_set' (by omega)]
      by_cases e2:b = a + s
      · rw [if_pos e2]
        subst e2
        unfold ent
        rw [if_pos (by omega),show a + s - a = s from by omega]; exact hv
      · rw [if_neg e2,h3 a b ha' hb']
        unfold ent
        by_cases h9:a + 2≤b∧(b - a < s∨(b - a = s∧a < a))
        · rw [if_pos h9,if_pos (by omega)]
        · rw [if_neg h9,if_neg (by omega)]
    · rw [if_neg e,h3 a b ha' hb']
      unfold ent
      by_cases h9:a + 2≤b∧(b - a < s∨(b - a = s∧a < a0))
      · rw [if_pos h9,if_pos (by omega)]
      · rw [if_neg h9,if_neg (by omega)]
theorem LvK.next (h:LvK w n c s a0 L) (ha:n < a0 + s):LvK w n c (s + 1) 0 L:=by
  obtain ⟨h1,h2,h3⟩:=h
  refine ⟨h1,h2,fun a b ha' hb'=>?_⟩
  rw [h3 a b ha' hb']
  unfold ent
  by_cases h9:a + 2≤b∧(b - a < s∨(b - a = s∧a < a0))
  · rw [if_pos h9,if_pos (by omega)]
  · rw [if_neg h9,if_neg (by omega)]
theorem LvK.fin (h:LvK w n c s 0 L) (hs:n < s):LvK w n c (n + 1) 0 L:=by
  obtain ⟨h1,h2,h3⟩:=h
  refine ⟨h1,h2,fun a b ha' hb'=>?_⟩
  rw [h3 a b ha' hb']
  unfold ent
  by_cases h9:a + 2≤b∧(b - a < s∨(b - a = s∧a < 0))
  · rw [if_pos h9,if_pos (by omega)]
  · rw [if_neg h9,if_neg (by omega)]
theorem LvK.get (h:LvK w n c s a0 L) (ha:a≤b) (hb:b≤n) (hs:b - a < s):(L.getD a []).getD b 0 = (lc w c a (b - a)).1:=by
  rw [h.en a b (by omega) hb]
  unfold ent
  by_cases h9:a + 2≤b
  · rw [if_pos ⟨h9,.inl hs⟩]
  · rw [if_neg (fun h=>h9 h.1),lc_1 (by omega)]
structure SpT (w:List Int) (n c a b:Nat) (T:List (List (List Int))):Prop where
  ab:a + 2≤b
  bn:b≤n
  cl:c < T.length
  len:∀ e,e < T.length→(T.getD e []).length = n + 1
  row:∀ e m,e < T.length→m≤n→((T.getD e []).getD m []).length = n + 1
  rt:∀ m,a < m→m < b→1≤c→((T.getD (c - 1) []).getD m []).getD b 0 = (lc w (c - 1) m (b - m)).1
  lf:∀ m,a < m→m < b→((T.getD c []).getD a []).getD m 0 = (lc w c a (m - a)).1
theorem gd_app {α:Type} {xs:List α} {x d:α} {i:Nat}:(xs++[x]).getD i d = if i < xs.length then xs.getD i d else if i = xs.length then x else d:=by
  simp only [List.getD_eq_getElem?_getD,List.getElem?_append]
  split
  · rfl
  · by_cases h:i = xs.length
    · subst h; simp
    · rw [if_neg h,List.getElem?_eq_none (by simp; omega)]; rfl
theorem spT (hT:TbK w n T) (hL:LvK w n T.length s a0 L) (hs:a + s≤n) (h2:2≤s):SpT w n T.length a (a + s) (T++[L]):=by
  have hlen:∀ e,e < (T++[L]).length→((T++[L]).getD e []).length = n + 1∧∀ m,m≤n→(((T++[L]).getD e []).getD m []).length = n + 1:=fun e he=>by
    rw [gd_app]
    split
    · rename_i h; exact ⟨(hT e h).len,(hT e h).row⟩
    · simp at he
      rw [if_pos (by omega)]; exact ⟨hL.len,hL.row⟩
  refine ⟨by omega,hs,by simp,fun e he=>(hlen e he).1,fun e m he hm=>(hlen e he).2 m hm,fun m h1 h3 hc=>?_,fun m h1 h3=>?_⟩
  · rw [gd_app,if_pos (by omega)]
    exact (hT _ (by omega)).get (by omega) (by omega) (by omega)
  · rw [gd_app,if_neg (by omega),if_pos rfl]
    exact hL.get (by omega) (by omega) (by omega)
theorem spT_all (hT:TbK w n T) (hc:c < T.length) (h2:a + 2≤b) (hb:b≤n):SpT w n c a b T :=
  ⟨h2,hb,hc,fun e he=>(hT e he).len,fun e m he hm=>(hT e he).row m hm,fun m h1 h3 hc'=>(hT _ (by omega)).get (by omega) hb (by omega),fun m h1 h3=>(hT c hc).get (by omega) (by omega) (by omega)⟩
theorem TbK.add (hT:TbK w n T) (hL:LvK w n T.length (n + 1) 0 L):TbK w n (T++[L]):=fun c hc=>by
  rw [gd_app]
  split
  · rename_i h; exact hT c h
  · simp at hc
    rw [if_pos (by omega)]
    rw [show c = T.length from by omega]; exact hL
theorem TbK.nil:TbK w n []:=fun c hc=>by simp at hc
theorem TbK.top (hT:TbK w n T) (hc:c < T.length):((T.getD c []).getD 0 []).getD n 0 = (lc w c 0 n).1:=by
  have:=(hT c hc).get (a:=0) (b:=n) (by omega) (Nat.le_refl _) (by omega)
  rwa [Nat.sub_zero] at this
def spR (w:List Int) (c a d k:Nat):Int × Nat:=spl w (fun m=>(lc w (c - 1) (a + m) (d - m)).1) (fun m=>(lc w c a m).1) a k
theorem lc_sp {d:Nat} (hc:1≤c) (h:2≤d):lc w c a d = spR w c a d (d - 1):=by
  obtain ⟨c,rfl⟩:∃ e,c = e + 1:=⟨c - 1,by omega⟩
  exact lc_s h
theorem spR_0 {d:Nat}:spR w c a d 0 = (-1,0):=rfl
theorem spR_y {d:Nat} {r l:Int} (hr:r = (lc w (c - 1) (a + (k + 1)) (d - (k + 1))).1) (hl:l = (lc w c a (k + 1)).1) (h:0≤r∧0≤l∧((spR w c a d k).1 < 0∨sumW w a (k + 1) + r + l < (spR w c a d k).1)):spR w c a d (k + 1) = (sumW w a (k + 1) + r + l,a + (k + 1)):=by
  subst hr; subst hl
  exact if_pos h
theorem spR_n {d:Nat} {r l:Int} (hr:r = (lc w (c - 1) (a + (k + 1)) (d - (k + 1))).1) (hl:l = (lc w c a (k + 1)).1) (h:¬ (0≤r∧0≤l∧((spR w c a d k).1 < 0∨sumW w a (k + 1) + r + l < (spR w c a d k).1))):spR w c a d (k + 1) = spR w c a d k:=by
  subst hr; subst hl
  exact if_neg h
theorem spR_bd {d:Nat} (hw:∀ k,0≤w.getD k 0∧w.getD k 0≤1000) (hd:d≤40) (hk:k < d):-1≤(spR w c a d k).1∧(spR w c a d k).1≤1600000∧(spR w c a d k).2≤a + k:=by
  refine spl_bd (fun m h1 h2=>?_) (by omega) (fun k=>(hw k).1)
  have:=sumW_le (w:=w) (fun k=>(hw k).2) a m
  have e1:=(lc_bd hw (d - m) (c - 1) (a + m) (by omega)).2.1
  have e2:=(lc_bd hw m c a (by omega)).2.1
  show sumW w a m + (lc w (c - 1) (a + m) (d - m)).1 + (lc w c a m).1≤1600000
  omega
theorem sumW_bd (hw:∀ k,0≤w.getD k 0∧w.getD k 0≤1000) (a k:Nat) (hk:k≤40):0≤sumW w a k∧sumW w a k≤40000:=by
  have h1:=sumW_0 (w:=w) (fun k=>(hw k).1) a k
  have h2:=sumW_le (w:=w) (fun k=>(hw k).2) a k
  omega
theorem lc_bd4 (hw:∀ k,0≤w.getD k 0∧w.getD k 0≤1000) (c a d:Nat) (hd:d≤40):-1≤(lc w c a d).1∧(lc w c a d).1≤1600000∧(lc w c a d).2≤a + (d - 1):=by
  have:=lc_bd hw d c a hd
  exact ⟨this.1,by omega,this.2.2⟩
end
end Go.Proofs.Ytoacbkmejjhceaa
namespace Go.Proofs.Ytoacbkmejjhceaa
open Go Go.RowKit
set_option linter.unusedVariables false
set_option linter.unusedSimpArgs false
def lcK (w:List Int) (q:K3):Int × Nat:=lc w q.c.toNat q.a.toNat (q.b - q.a).toNat
def fi1 (w:List Int) (q:K3) (v:Int):Prop:=v = (lcK w q).1
def fi2 (w:List Int) (q:K3) (v:Int):Prop:=v = (((lcK w q).2:Nat):Int)
structure PlnK (e:Nat) (H:Array Obj) (gp g1 g2 T:Nat) (vw:Value) (ws:List Int) (k:Nat) (S1 S2:List K3):Prop where
  bx:BX H gp [vw,.int .i64 ((k:Nat):Int),.map (some g1),.map (some g2)]
  rd:RT T (rdL rI) H vw ws
  m1:Map3 H g1 S1 (fi1 ws)
  m2:Map3 H g2 S2 (fi2 ws)
  sub:∀ q,q∈S1→q∈S2
  n1:gp≠g1
  n2:gp≠g2
  n3:g1≠g2
  t0:T≤gp
  t1:T≤g1
  t2:T≤g2
section
variable {e gp g1 g2 T k B:Nat} {vw:Value} {ws:List Int} {S1 S2:List K3} {w w' w1 w2:World} {F:List Nat} {q:K3} {v:Int}
theorem PlnK.lt (h:PlnK e w.heap gp g1 g2 T vw ws k S1 S2):gp < w.heap.size∧g1 < w.heap.size∧g2 < w.heap.size:=⟨h.bx.lt,h.m1.lt,h.m2.lt⟩
theorem PlnK.ext (h:PlnK e w.heap gp g1 g2 T vw ws k S1 S2) (c:Ext w w'):PlnK e w'.heap gp g1 g2 T vw ws k S1 S2 :=
  ⟨h.bx.ext c,h.rd.ext (good_rdL good_rI) c,h.m1.ext c,h.m2.ext c,h.sub,h.n1,h.n2,h.n3,h.t0,h.t1,h.t2⟩
theorem PlnK.chg (h:PlnK e w.heap gp g1 g2 T vw ws k S1 S2) (c:Chg F w w') (hF:∀ b∈F,T≤b∧b≠gp∧b≠g1∧b≠g2):PlnK e w'.heap gp g1 g2 T vw ws k S1 S2 :=
  ⟨h.bx.chg c (fun hm=>(hF _ hm).2.1 rfl),h.rd.chg (good_rdL good_rI) c (fun b hb=>(hF b hb).1),h.m1.chg c (fun hm=>(hF _ hm).2.2.1 rfl),h.m2.chg c (fun hm=>(hF _ hm).2.2.2 rfl),h.sub,h.n1,h.n2,h.n3,h.t0,h.t1,h.t2⟩
theorem fi1_of {a b c:Nat} {r:Int} (h:fi1 ws ⟨(a:Int),(b:Int),(c:Int)⟩ r) (hab:a≤b):r = (lc ws c a (b - a)).1:=by
  have h:r = (lc ws ((c:Int)).toNat ((a:Int)).toNat ((b:Int) - (a:Int)).toNat).1:=h
  rw [h,Int.toNat_natCast,Int.toNat_natCast,show ((b:Int) - (a:Int)).toNat = b - a from by omega]
theorem fi2_of {a b c:Nat} {r:Int} (h:fi2 ws ⟨(a:Int),(b:Int),(c:Int)⟩ r) (hab:a≤b):r = (((lc ws c a (b - a)).2:Nat):Int):=by
  have h:r = (((lc ws ((c:Int)).toNat ((a:Int)).toNat ((b:Int) - (a:Int)).toNat).2:Nat):Int):=h
  rw [h,Int.toNat_natCast,Int.toNat_natCast,show ((b:Int) - (a:Int)).toNat = b - a from by omega]
theorem fi1_mk {a b c:Nat} {r:Int} (h:r = (lc ws c a (b - a)).1) (hab:a≤b):fi1 ws ⟨(a:Int),(b:Int),(c:Int)⟩ r:=by
  show r = (lc ws ((c:Int)).toNat ((a:Int)).toNat ((b:Int) - (a:Int)).toNat).1
  rw [h,Int.toNat_natCast,Int.toNat_natCast,show ((b:Int) - (a:Int)).toNat = b - a from by omega]
theorem fi2_mk {a b c:Nat} {r:Int} (h:r = (((lc ws c a (b - a)).2:Nat):Int)) (hab:a≤b):fi2 ws ⟨(a:Int),(b:Int),(c:Int)⟩ r:=by
  show r = (((lc ws ((c:Int)).toNat ((a:Int)).toNat ((b:Int) - (a:Int)).toNat).2:Nat):Int)
  rw [h,Int.toNat_natCast,Int.toNat_natCast,show ((b:Int) - (a:Int)).toNat = b - a from by omega]
def PZ (g1 g2 B:Nat) (w:World):List Nat:=g1 :: g2 :: ivb B w.heap.size
theorem mem_PZ {b:Nat}:b∈PZ g1 g2 B w↔b = g1∨b = g2∨(B≤b∧b < w.heap.size):=by
  unfold PZ
  rw [List.mem_cons,List.mem_cons,mem_ivb]
theorem pz_any (h:Chg (PZ g1 g2 B w) w w1) (c:Chg F w1 w2) (hF:∀ b∈F,b = g1∨b = g2∨B≤b):Chg (PZ g1 g2 B w) w w2 :=
  ⟨c.os.trans h.os,c.tape.trans h.tape,c.output.trans h.output,Nat.le_trans h.size c.size,fun i hi hm=>(c.block i (Nat.lt_of_lt_of_le hi h.size) fun hf=>hm (mem_PZ.2 (by rcases hF i hf with e | e | e; exact .inl e; exact .inr (.inl e); exact .inr (.inr ⟨e,hi⟩)))).trans (h.block i hi hm)⟩
theorem pz_PZ (h:Chg (PZ g1 g2 B w) w w1) (c:Chg (PZ g1 g2 B w1) w1 w2):Chg (PZ g1 g2 B w) w w2:=pz_any h c fun b hb=>by
  rcases mem_PZ.1 hb with e | e | e
  · exact .inl e
  · exact .inr (.inl e)
  · exact .inr (.inr e.1)
end
end Go.Proofs.Ytoacbkmejjhceaa
namespace Go.Proofs.Ytoacbkmejjhceaa
open Go Go.RowKit
set_option linter.unusedVariables false
set_option linter.unusedSimpArgs false
def arrTy (P:Program) (t:TypeId) (s:Nat):Bool :=
  (match P.underlying t with | some (.array _ _)=>true | _=>false) && (match P.info? t with | some i=>i.size == s | none=>false)
section ops
variable {P:Program} {ops:Array Oper} {w0:World} {Q:Act→World→Prop} {os:List Oper} {ks:List Nat} {N:Nat} {ρ:Nat→Value} {w:World}
  {d:Nat} {ty:TypeId} {pos:String} {aft:Array Edge} {g:Option (Nat × Bool)} {t e:TypeId}
theorem run_loadR {s:Nat} (ht:arrTy P t s = true) {p:Value} {cs:List Value} (h:LD w.heap p cs) (hl:cs.length = s):(Instr.loadAt t p).run P w = .ok (.agg cs.toArray) w:=by
  obtain ⟨b,o,rfl,h⟩:=h
  unfold arrTy at ht
  simp only [Bool.and_eq_true] at ht
  obtain ⟨h1,h2⟩:=ht
  split at h1
  · rename_i m e' hfs
    split at h2
    · rename_i inf hin
      have hs:inf.size = s:=by simpa using h2
      have hag:(isAgg t).run P w = .ok true w:=by
        unfold isAgg
        simp only [Sem.run_bind,run_underlying hfs,Result.andThen_ok]
        rfl
      have hlc:=run_loadCells_list (P:=P) w ⟨b,o,none⟩ cs (fun j v hj=>by
        rw [add_mk,cell_cellH]
        have hjl:j < cs.length:=(List.getElem?_eq_some_iff.1 hj).1
        rw [h j hjl]
        simp [List.getD,hj])
      rw [hl,← hs] at hlc
      simp [Instr.loadAt,Instr.sureAddr,loadVar,hag,sizeOf,typeInfo,hin,hlc]
    · cases h2
  · cases h1
theorem q_loadR {k s:Nat} (hk:k = 1∨k = 2) {x:Operand} {p:Value} (cs:List Value) (ht:arrTy P t s = true) (hx:evF N ρ x = p) (hc:∀ w',Ext (if k = 1 then w0 else w) w'→LD w'.heap p cs) (hl:cs.length = s)
    (hu:Up ops N ρ ⟨some d,.load t x,ty,pos,aft,g⟩)
    (h:LW P ops w0 Q os ks (mk N (upd ρ d (.agg cs.toArray))) w):LW P ops w0 Q (⟨some d,.load t x,ty,pos,aft,g⟩ :: os) (k :: ks) (mk N ρ) w :=
  lw_q (by omega) rfl hu _ (fun w' hcl=>by
    have hld:LD w'.heap p cs:=by
      rcases hk with rfl | rfl
      · exact hc w' hcl
      · exact hc w' hcl
    simp [execOp,hx,run_loadR ht hld hl]) h
theorem e_setR {x y:Operand} {b s:Nat} {vs cs:List Value} (ht:arrTy P t s = true) (hx:evF N ρ x = .pointer (some ⟨b,0,none⟩)) (hy:evF N ρ y = .agg vs.toArray) (h1:∀ u∈vs,u.cells = #[u]∧u.oneCell' = true)
    (hb:BX w.heap b cs) (hl:vs.length = s) (hl2:cs.length = s) (hu:Up ops N ρ ⟨none,.store t x y,ty,pos,aft,g⟩)
    (h:∀ w1,Chg [b] w w1→w1.heap.size = w.heap.size→BX w1.heap b vs→LW P ops w0 Q os ks (mk N ρ) w1) :
    LW P ops w0 Q (⟨none,.store t x y,ty,pos,aft,g⟩ :: os) (4 :: ks) (mk N ρ) w:=by
  obtain ⟨e,hb⟩:=hb
  unfold arrTy at ht
  simp only [Bool.and_eq_true] at ht
  obtain ⟨q1,q2⟩:=ht
  split at q2
  · rename_i inf hin
    have hs:inf.size = s:=by simpa using q2
    have hst:=run_storeCells_at (P:=P) b 0 e vs 0 cs.toArray w hb (by simp; omega) (fun v hv=>(h1 v hv).2)
    have hcs:(cs.toArray.toList.take (0 + 0)++vs++cs.toArray.toList.drop (0 + 0 + vs.length)) = vs:=by
      simp [List.drop_of_length_le (show cs.length≤vs.length by omega)]
    rw [hcs] at hst
    have hr:(Instr.storeAt t (.pointer (some ⟨b,0,none⟩)) (.agg vs.toArray)).run P w = .ok () (w.setRow b vs.toArray):=by
      simp [Instr.storeAt,Instr.sureAddr,storeVar,sizeOf,typeInfo,hin,Value.cells,hl,hs,hst]
    refine lw_s rfl hu _ (exec_store hx hy hr) (h _ ⟨rfl,rfl,rfl,by simp,fun k _ hk=>setRow_other w b k _ (by simpa using hk)⟩ (by simp) ⟨e,setRow_heap w b _ _ _ _ hb⟩)
  · cases q2
theorem run_build3 {e:TypeId} {m:Nat} (hu:P.underlying t = some (.array m e)) (he:(P.info? e).map (·.size) = some 1) (hz:(P.info? t).map (·.zero) = some (some (.agg #[.int .i64 0,.int .i64 0,.int .i64 0]))) (x y q:Int) (w':World) :
    (Instr.build t #[(0,.int .i64 x),(1,.int .i64 y),(2,.int .i64 q)]).run P w' = .ok (.agg #[.int .i64 x,.int .i64 y,.int .i64 q]) w':=by
  obtain ⟨i,hi1,hi2⟩:=Option.map_eq_some_iff.1 hz
  obtain ⟨j,hj1,hj2⟩:=Option.map_eq_some_iff.1 he
  simp [Instr.build,zeroValue,typeInfo,hi1,hi2,run_underlying hu,sizeOf,hj1,hj2,Instr.fill,Value.cells,Result.andThen]
end ops
namespace Jx
variable [J:JR]
section
variable {P:Program} {ops:Array Oper} {w0:World} {Q:Act→World→Prop} {os:List Oper} {ks:List Nat} {N:Nat} {ρ:Nat→Value} {w:World}
  {d:Nat} {ty:TypeId} {pos:String} {aft:Array Edge} {g:Option (Nat × Bool)} {t e:TypeId}
theorem q_loadRJ {s:Nat} {x:Operand} {p:Value} (cs:List Value) (ht:arrTy P t s = true) (hx:evF N ρ x = p) (hc:∀ w',Ext w0 w'→LD w'.heap p cs) (hl:cs.length = s)
    (hu:Up ops N ρ ⟨some d,.load t x,ty,pos,aft,g⟩)
    (h:LW P ops w0 Q os ks (mk N (upd ρ d (.agg cs.toArray))) w):LW P ops w0 Q (⟨some d,.load t x,ty,pos,aft,g⟩ :: os) (1 :: ks) (mk N ρ) w :=
  lw_q (by decide) rfl hu _ (fun w' hcl=>by simp [execOp,hx,run_loadR ht (hc w' hcl) hl]) h
end
end Jx
theorem ones3 {a b c:Int}:∀ u∈[Value.int .i64 a,.int .i64 b,.int .i64 c],u.cells = #[u]∧u.oneCell' = true:=by
  intro u hu
  simp only [List.mem_cons,List.not_mem_nil,or_false] at hu
  rcases hu with rfl | rfl | rfl <;> exact ⟨rfl,rfl⟩
end Go.Proofs.Ytoacbkmejjhceaa
namespace Go.Proofs.Ytoacbkmejjhceaa
open Go Go.RowKit
set_option linter.unusedVariables false
set_option linter.unusedSimpArgs false
set_option maxHeartbeats 4000000
set_option maxRecDepth 100000
attribute [local irreducible] LW
theorem K3k:Maps.Keyed Try.prog 76:=Maps.Keyed.of_law (Go.deep_law (m:=2) (by omega) (by kernel_rfl) (by kernel_rfl) (by kernel_rfl))
theorem kt_a3:Try.prog.keyType 76 = true:=by kernel_rfl
theorem kc_a3:Try.prog.cellsOf 76 = 3:=by kernel_rfl
theorem kc_i3:Try.prog.cellsOf 2 = 1:=by kernel_rfl
theorem ku_a3:Try.prog.underlying 76 = some (.array 3 2):=by kernel_rfl
theorem kl_i3 {d:Nat} {a:Int} (h:i64 a):Try.prog.keyLits (d + 1) 2 [.int .i64 a] = some [.int .i64 a]:=by
  unfold Program.keyLits
  rw [u2]
  show (if _ then _ else _) = _
  rw [if_pos ⟨rfl,wfI64 h⟩]
theorem keyk3 {q:K3} (h:k3R q):∃ l,keyOf Try.prog 76 (k3V q) = some l:=by
  have hf:Value.formed Try.prog 76 (k3V q) = true:=by
    unfold Value.formed k3V
    rw [ku_a3]
    show (_ == Try.prog.cellsOf 76) = true
    rw [kc_a3]; rfl
  have hl:∃ ls,Try.prog.keyLits (Try.prog.types.size + 1) 76 [.int .i64 q.a,.int .i64 q.b,.int .i64 q.c] = some ls:=by
    obtain ⟨m,hm⟩:∃ m,Try.prog.types.size = m + 1:=⟨_,rfl⟩
    rw [hm]
    unfold Program.keyLits
    rw [ku_a3]
    simp only
    rw [if_pos (by rw [kc_a3]; rfl)]
    refine ⟨[.int .i64 q.a,.int .i64 q.b,.int .i64 q.c],?_⟩
    rw [show List.range 3 = [0,1,2] from rfl]
    simp only [List.mapM_cons,List.mapM_nil,kc_i3,List.drop,List.take]
    rw [kl_i3 h.1,kl_i3 h.2.1,kl_i3 h.2.2]
    rfl
  obtain ⟨ls,hls⟩:=hl
  refine ⟨.string (keyBytes ls),?_⟩
  unfold keyOf
  rw [ku_a3]
  simp only
  rw [if_pos (by rw [kt_a3,hf]; rfl)]
  show Option.map _ (Try.prog.keyLits _ 76 (k3V q).cells.toList) = _
  rw [show (k3V q).cells.toList = [.int .i64 q.a,.int .i64 q.b,.int .i64 q.c] from rfl,hls]; rfl
theorem ar76:arrTy Try.prog 76 3 = true:=by kernel_rfl
theorem bl76:∀ (x y q:Int) (w':World),(Instr.build 76 #[(0,.int .i64 x),(1,.int .i64 y),(2,.int .i64 q)]).run Try.prog w' = .ok (.agg #[.int .i64 x,.int .i64 y,.int .i64 q]) w':=run_build3 (m:=3) (e:=2) (by kernel_rfl) (by kernel_rfl) (by kernel_rfl)
theorem c_impl_newPlanner (w:World) (va:Value) (ws:List Int) (k:Nat) (hws:Rd (rdL rI) w.heap va ws) (_hk:k≤1000000000000) (hk9:k≤8) :
  Calls Try.prog 21 #[va,.int .i64 ((k :Nat):Int)] w (fun e w'=>∃ (gp g1 g2:Nat),e = .returned (.pointer (some ⟨gp,0,none⟩))∧Ext w w'∧PlnK 2 w'.heap gp g1 g2 w.heap.size va ws k [] []):=by
 refine calls_mk [va,.int .i64 ((k :Nat):Int)] 11 Try.func21 rfl rfl sM ?_
 have hE0:Ext w w:=Ext.refl w
 have hl_va:=hws.lenle
 refine wp_seq (wp_plain _ [0] rfl (lw_tvn 1 rfl (wp_seq (wp_plain _ [0,0,3,3,0,3,0] rfl (lw_tv 2 rfl (r_map3 (fi1 ws) zN fun w1 hX1 hz1 hM1=>?_))))))
 have hzs1:w.heap.size≤w1.heap.size:=hX1.size
 have hE1:Ext w w1:=hE0.trans hX1
 have hgl1:=hM1.lt
 refine r_map3 (fi2 ws) zN fun w2 hX2 hz2 hM2=>?_
 have hzs2:w1.heap.size≤w2.heap.size:=hX2.size
 have hE2:Ext w w2:=hE1.trans hX2
 have hMx3:=hM1.ext hX2
 have hgl2:=hM2.lt
 have hbd4:∀ (va:Value) (m4_0:Nat) (h4_0:isSl va m4_0) (wq:World),(Instr.build 75 #[(0,va),(1,(.int .i64 ((k :Nat):Int))),(2,(.map (some w.heap.size))),(3,(.map (some w1.heap.size)))]).run Try.prog wq = .ok (.agg #[va,(.int .i64 ((k :Nat):Int)),(.map (some w.heap.size)),(.map (some w1.heap.size))]) wq:=by intro va m4_0 h4_0 wq; obtain ⟨a4_0,c4_0,rfl,_⟩:=h4_0; kernel_rfl
 refine q_build (ps:=#[(0,va),(1,(.int .i64 ((k :Nat):Int))),(2,(.map (some w.heap.size))),(3,(.map (some w1.heap.size)))]) (.agg #[va,(.int .i64 ((k :Nat):Int)),(.map (some w.heap.size)),(.map (some w1.heap.size))]) (by simp only [List.map_toArray,List.map_cons,List.map_nil]; rfl) (fun wq=>hbd4 va _ hws.isSl wq) zN (r_boxA (cs:=#[va,(.int .i64 ((k :Nat):Int)),(.map (some w.heap.size)),(.map (some w1.heap.size))]) rfl zN fun w5 hX5 hz5 hB5=>?_)
 have hzs5:w2.heap.size≤w5.heap.size:=hX5.size
 have hE5:Ext w w5:=hE2.trans hX5
 have hMx6:=hMx3.ext hX5
 have hMx7:=hM2.ext hX5
 replace hB5:BX w5.heap w2.heap.size [va,(.int .i64 ((k :Nat):Int)),(.map (some w.heap.size)),(.map (some w1.heap.size))]:=hB5
 exact lw_tvn 1 rfl (wp_ret (post_ret [4] rfl (.pointer (some ⟨w2.heap.size,0,none⟩)) rfl ⟨_,_,_,rfl,hE5,⟨hB5,((RN.of hws).rt g1).ext g1 hE5,hMx6,hMx7,fun q h=>h,oM,oM,oM,oM,oM,oM⟩⟩))
theorem z22_0 {p:Prop} (h:p:=by first | (rw [spR_n hrr hll oM]; exact hsp) | (rw [spR_y hrr hll ⟨by omega,by omega,by omega⟩]; refine Prod.ext ?_ ?_ <;> (dsimp only; omega))):p:=h
theorem z22_1 {p:Prop} (h:p:=by intro b hb; simp only [List.mem_cons,List.not_mem_nil,or_false] at hb ⊢; omega):p:=h
theorem z22_2 {p:Prop} (h:p:=by refine ⟨?_,?_,?_⟩ <;> (unfold i64; dsimp only; omega)):p:=h
theorem c_impl_planner_least (w:World) (gp g1 g2 T9 kq:Nat) (vw:Value) (ws:List Int) (S1 S2:List K3) (a:Nat) (b:Nat) (c:Nat) (hP:PlnK 2 w.heap gp g1 g2 T9 vw ws kq S1 S2) (_ha:a≤1000000000000) (_hb:b≤1000000000000) (_hc:c≤1000000000000) (hwl:ws.length≤40) (hw9:∀ i,0≤ws.getD i 0∧ws.getD i 0≤1000) (hab:a≤b∧b≤ws.length) (hc8:c≤8) (IH:∀ (w1:World) (Sa Sb:List K3) (x y z:Nat),PlnK 2 w1.heap gp g1 g2 T9 vw ws kq Sa Sb→y - x < b - a→x≤y∧y≤ws.length→z≤8→Calls Try.prog 22 #[.pointer (some ⟨gp,0,none⟩),.int .i64 ((x :Nat):Int),.int .i64 ((y :Nat):Int),.int .i64 ((z :Nat):Int)] w1 fun e w'=>∃ (S1' S2':List K3),e = .returned (.int .i64 (lc ws z x (y - x)).1)∧Chg [g1,g2] w1 w'∧PlnK 2 w'.heap gp g1 g2 T9 vw ws kq S1' S2'∧(2≤y - x→1≤z→(⟨((x :Nat):Int),((y :Nat):Int),((z :Nat):Int)⟩:K3)∈S2')) :
  Calls Try.prog 22 #[.pointer (some ⟨gp,0,none⟩),.int .i64 ((a :Nat):Int),.int .i64 ((b :Nat):Int),.int .i64 ((c :Nat):Int)] w (fun e w'=>∃ (S1' S2':List K3),e = .returned (.int .i64 (lc ws c a (b - a)).1)∧Chg [g1,g2] w w'∧PlnK 2 w'.heap gp g1 g2 T9 vw ws kq S1' S2'∧(2≤b - a→1≤c→(⟨((a :Nat):Int),((b :Nat):Int),((c :Nat):Int)⟩:K3)∈S2')):=by
 refine calls_mk [.pointer (some ⟨gp,0,none⟩),.int .i64 ((a :Nat):Int),.int .i64 ((b :Nat):Int),.int .i64 ((c :Nat):Int)] 111 Try.func22 rfl rfl sM ?_
 have hE0:Chg [g1,g2] w w:=Chg.refl [g1,g2] w
 have hPl:=hP.lt
 refine wp_seq (wp_plain _ [0] rfl (lw_tvn 1 rfl (wp_seq (wp_block (wp_seq (wp_plain _ [0,0,0,0,0] rfl (lw_tv 2 rfl ?_)))))))
 refine q_sub (((b :Nat):Int) - ((a :Nat):Int)) rfl rfl (w64 sD sD) zN ?_
 by_cases hc1:((b :Nat):Int) - ((a :Nat):Int)≤((1 :Nat):Int)
 ·
  exact q_leq true rfl rfl (decide_eq_true hc1) zN (lw_tvn 1 rfl (c_cond_t rfl (wp_seq (wp_plain _ [0] rfl (lw_tvn 1 rfl (wp_ret (b_ret (t_ret (post_ret [8] rfl (.int .i64 ((0 :Nat):Int)) rfl ⟨_,_,(by rw [lc_1 oM]; rfl),hE0,hP,(by intro h9; omega)⟩)))))))))
 ·
  refine q_leq false rfl rfl (decide_eq_false hc1) zN (lw_tvn 1 rfl (c_cond_f rfl (wp_seq (wp_plain _ [0,0,0] rfl (lw_tv 1 rfl ?_)))))
  by_cases hc2:((c :Nat):Int) < ((1 :Nat):Int)
  ·
   exact q_lss true rfl rfl (decide_eq_true hc2) zN (lw_tvn 1 rfl (c_cond_t rfl (wp_seq (wp_plain _ [0] rfl (lw_tvn 1 rfl (wp_ret (b_ret (t_ret (post_ret [8] rfl (.int .i64 (-1)) rfl ⟨_,_,(by (have e0:c = 0:=by omega); subst e0; rw [lc_0 oM]),hE0,hP,(by intro _ h9; omega)⟩)))))))))
  ·
   refine q_lss false rfl rfl (decide_eq_false hc2) zN (lw_tvn 1 rfl (c_cond_f rfl (wp_skip (wp_seq (wp_plain _ [0,0,0,0,3,4] rfl (lw_tv 3 rfl (q_build (ps:=#[(0,(.int .i64 ((a :Nat):Int))),(1,(.int .i64 ((b :Nat):Int))),(2,(.int .i64 ((c :Nat):Int)))]) (k3V (⟨((a :Nat):Int),((b :Nat):Int),((c :Nat):Int)⟩:K3)) (by simp only [List.map_toArray,List.map_cons,List.map_nil]; rfl) (fun wq=>bl76 _ _ _ wq) zN (r_allocA (z:=.agg #[.int .i64 0,.int .i64 0,.int .i64 0]) (by kernel_rfl) zN fun w3 hX3 hz3 hB3=>?_))))))))
   have hzs3:w.heap.size≤w3.heap.size:=hX3.size
   have hE3:Chg [g1,g2] w w3:=hE0.ext hX3
   have hPx4:=hP.ext hX3
   replace hB3:BX w3.heap w.heap.size [.int .i64 0,.int .i64 0,.int .i64 0]:=hB3
   refine e_setR (vs:=[(.int .i64 ((a :Nat):Int)),(.int .i64 ((b :Nat):Int)),(.int .i64 ((c :Nat):Int))]) ar76 rfl rfl ones3 hB3 rfl rfl zN fun w5 hC5 hz5 hB5=>?_
   have hzs5:w3.heap.size≤w5.heap.size:=hC5.size
   have hE5:Chg [g1,g2] w w5:=hE3.fresh hC5 (fun c hc=>by have:=List.mem_singleton.1 hc; omega)
   have hlp5:=hPx4.lt
   have hPx5:=hPx4.chg hC5 (fun b hb=>by have:=List.mem_singleton.1 hb; have:=hPx4.t0; omega)
   have hkg5:w.heap.size < w5.heap.size:=hB5.lt
   refine lw_nil (wp_seq (wp_seq (wp_draw _ [0,0,0,1,1,2,0,0,0,0,0] mixed (by kernel_rfl) (lw_tv 1 rfl (q_nil rfl zN (q_fldP (p:=(.pointer (some ⟨gp,0,none⟩))) (b:=gp) (o:=0) 2 fd75_2 rfl rfl zN (q_load (p:=(padd (.pointer (some ⟨gp,0,none⟩)) 2)) (.inl rfl) (.map (some g1)) one73 rfl (hPx5.bx.ldp (i:=2) sM) zN (q_loadR (p:=(.pointer (some ⟨w.heap.size,0,none⟩))) (.inl rfl) [(.int .i64 ((a :Nat):Int)),(.int .i64 ((b :Nat):Int)),(.int .i64 ((c :Nat):Int))] ar76 rfl (fun wj hj=>LD.of_box (BX.ext (w:=w5.drew) hB5 hj)) rfl zN ?_))))))))
   refine q_look3 (q:=(⟨((a :Nat):Int),((b :Nat):Int),((c :Nat):Int)⟩:K3)) (show Try.prog.underlying 73 = some (.map 76 2) by kernel_rfl) K3k (fun _ h=>keyk3 h) (zv_ti ti2) rfl rfl hPx5.m1 z22_2 zN ?_
   intro r6 b6 hr6 hy6 hn6
   refine lw_tv 1 rfl (q_extract (vs:=[(.int .i64 r6),(.bool b6)]) (.int .i64 r6) rfl rfl zN (q_extract (vs:=[(.int .i64 r6),(.bool b6)]) (.bool b6) rfl rfl zN (lw_tvn 2 rfl (wp_seq (wp_plain _ [0] rfl (lw_tvn 1 rfl ?_))))))
   cases hb7:b6
   ·
    refine c_cond_f (by first | rfl | (show Value.bool _ = _; rw [hb7])) (wp_skip (wp_seq (wp_plain _ [0,0,0] rfl (lw_tvn 3 rfl (wp_seq (wp_seq (wp_plain _ [0,0,0] rfl (lw_tv 1 rfl (q_add ((a + 1 :Nat):Int) rfl rfl (w64n oM oM) zN (lw_tvn 1 rfl (wp_block ?_)))))))))))
    refine c_loop (S:=Nat × Int × Nat × Int × List K3 × List K3) (fun (⟨k,bs,sp,wy,Sa,Sb⟩:Nat × Int × Nat × Int × List K3 × List K3)=>([(12,(.int .i64 bs)),(13,(.int .i64 ((sp :Nat):Int))),(14,(.int .i64 wy)),(15,(.int .i64 ((a + 1 + k :Nat):Int))),(0,(.pointer (some ⟨gp,0,none⟩))),(1,(.int .i64 ((a :Nat):Int))),(2,(.int .i64 ((b :Nat):Int))),(3,(.int .i64 ((c :Nat):Int))),(9,(.pointer (some ⟨w.heap.size,0,none⟩)))]:List (Nat × Value))) (fun (⟨k,bs,sp,wy,Sa,Sb⟩:Nat × Int × Nat × Int × List K3 × List K3) (W:World)=>Chg [g1,g2] w W∧PlnK 2 W.heap gp g1 g2 T9 vw ws kq Sa Sb∧k + 1≤b - a∧(bs,sp) = spR ws c a (b - a) k∧wy = sumW ws a k∧BX W.heap (w.heap.size) [(.int .i64 ((a :Nat):Int)),(.int .i64 ((b :Nat):Int)),(.int .i64 ((c :Nat):Int))]) (fun (⟨k,bs,sp,wy,Sa,Sb⟩:Nat × Int × Nat × Int × List K3 × List K3)=>b - a - k) (0,-1,0,0,S1,S2) ⟨rfl,rfl,rfl,rfl,rfl,rfl,rfl,rfl,rfl,trivial⟩ ⟨hE5.drew,(by exact hPx5),oM,(by exact spR_0.symm),(by rfl),(by exact hB5)⟩ ?_
    clear hE0 hz3 hX3 hzs3 hE3 hz5 hC5 hzs5 hE5
    rintro ⟨k,bs,sp,wy,Sa,Sb⟩ ρ8 w8 ⟨hE8,hPl,hp8_1,hsp,hwy,hKl⟩
    have hzs8:w.heap.size≤w8.heap.size:=hE8.size
    refine wp_seq (wp_seq (wp_plain _ [0,0,0] rfl (lw_tv 2 rfl ?_)))
    by_cases hc9:((a + 1 + k :Nat):Int) < ((b :Nat):Int)
    ·
     refine q_lss true rfl rfl (decide_eq_true hc9) zN (lw_nil (c_cond_t rfl (wp_skip (wp_seq (wp_block (wp_seq (wp_plain _ [0,0,0,0,2,0,0,0,2,0,0] rfl ?_)))))))
     have hsw:sumW ws a (k + 1) = sumW ws a k + ws.getD (a + k) 0:=rfl
     have hsb:=sumW_bd hw9 a (k + 1) oM
     have hbb:=spR_bd (c:=c) (a:=a) (d:=b - a) (k:=k) hw9 oM oM
     have hs1:(spR ws c a (b - a) k).1 = bs:=by rw [← hsp]
     have hs2:(spR ws c a (b - a) k).2 = sp:=by rw [← hsp]
     have hgk:=hw9 (a + k)
     refine lw_tv 2 rfl (q_nil rfl zN (q_fldP (p:=(.pointer (some ⟨gp,0,none⟩))) (b:=gp) (o:=0) 0 fd75_0 rfl rfl zN (q_load (p:=(padd (.pointer (some ⟨gp,0,none⟩)) 0)) (.inr rfl) vw one25 rfl (hPl.bx.ldp (i:=0) sM) zN (lw_tv 1 rfl (q_sub ((a + k :Nat):Int) rfl rfl (w64n oM oM) zN (q_idx (v:=vw) (a + k) u25 ti2 rfl rfl hPl.rd.slL rfl sD zN ?_))))))
     have hg10:=RT.getI (k:=a + k) hPl.rd sD
     refine q_load (p:=eptr vw (a + k) 1) (.inr rfl) (.int .i64 (ws.getD (a + k) 0)) one2 rfl hg10.1 zN ?_
     refine q_add (wy + (ws.getD (a + k) 0)) rfl rfl (w64 sD sD) zN (lw_tvn 1 rfl (wp_seq ?_))
     refine wp_plain _ [0,0,0,0,0,4,0,0,0,0,4,0,0] rfl (lw_tv 4 rfl (q_sub ((c - 1 :Nat):Int) rfl rfl (w64n oM oM) zN (lw_callE 22 [] [] [(.pointer (some ⟨gp,0,none⟩)),(.int .i64 ((a + 1 + k :Nat):Int)),(.int .i64 ((b :Nat):Int)),(.int .i64 ((c - 1 :Nat):Int))] rfl rfl cf22 zN (IH _ Sa Sb (a + 1 + k) b (c - 1) hPl oM oM oM) ?_)))
     rintro e11 w11 ⟨Sa11,Sb11,rfl,hC11,hPx11,hmem11⟩
     refine ⟨_,rfl,?_⟩
     have hzs11:w8.heap.size≤w11.heap.size:=hC11.size
     have hE11:Chg [g1,g2] w w11:=hE8.trans (hC11.sub z22_1)
     have hKb11:=hKl.chg hC11 (fun hm=>by simp only [List.mem_cons,List.not_mem_nil,or_false] at hm; have:=hP.lt; omega)
     have hlc11:=lc_bd4 (w:=ws) hw9 (c - 1) (a + 1 + k) (b - (a + 1 + k)) oM
     refine lw_tv 4 rfl (lw_callE 22 [] [] [(.pointer (some ⟨gp,0,none⟩)),(.int .i64 ((a :Nat):Int)),(.int .i64 ((a + 1 + k :Nat):Int)),(.int .i64 ((c :Nat):Int))] rfl rfl cf22 zN (IH _ Sa11 Sb11 a (a + 1 + k) c hPx11 oM oM oM) ?_)
     rintro e12 w12 ⟨Sa12,Sb12,rfl,hC12,hPx12,hmem12⟩
     refine ⟨_,rfl,?_⟩
     have hzs12:w11.heap.size≤w12.heap.size:=hC12.size
     have hE12:Chg [g1,g2] w w12:=hE11.trans (hC12.sub z22_1)
     have hKb12:=hKb11.chg hC12 (fun hm=>by simp only [List.mem_cons,List.not_mem_nil,or_false] at hm; have:=hP.lt; omega)
     have hlc12:=lc_bd4 (w:=ws) hw9 c a ((a + 1 + k) - a) oM
     refine lw_tvn 2 rfl (wp_seq (wp_plain _ [0,0,0,0,0,0,0,0,0,0,0,0,0,0,0,0,0,0,0] rfl ?_))
     have hrr:(lc ws (c - 1) (a + 1 + k) (b - (a + 1 + k))).1 = (lc ws (c - 1) (a + (k + 1)) (b - a - (k + 1))).1:=by rw [show a + 1 + k = a + (k + 1) from by omega,show b - (a + (k + 1)) = b - a - (k + 1) from by omega]
     have hll:(lc ws c a (a + 1 + k - a)).1 = (lc ws c a (k + 1)).1:=by rw [show a + 1 + k - a = k + 1 from by omega]
     refine lw_tv 1 rfl ?_
     by_cases hc13:((0 :Nat):Int)≤(lc ws (c - 1) (a + 1 + k) (b - (a + 1 + k))).1
     ·
      refine q_geq true rfl rfl (decide_eq_true hc13) zN (lw_tv 2 rfl ?_)
      by_cases hc14:((0 :Nat):Int)≤(lc ws c a ((a + 1 + k) - a)).1
      ·
       refine q_geq true rfl rfl (decide_eq_true hc14) (zS (e:=71) rfl rfl rfl) (lw_tv 3 rfl ?_)
       by_cases hc15:bs < ((0 :Nat):Int)
       ·
        refine q_lss true rfl rfl (decide_eq_true hc15) (zS (e:=75) rfl rfl rfl) (lw_tvn 10 rfl (c_cond_t rfl (wp_plain _ [0,0,0,0,0,0,0,0] rfl (lw_tv 2 rfl ?_))))
        refine q_add ((wy + (ws.getD (a + k) 0)) + ((lc ws (c - 1) (a + 1 + k) (b - (a + 1 + k))).1)) rfl rfl (w64 sD sD) zN (lw_tv 1 rfl ?_)
        refine q_add (((wy + (ws.getD (a + k) 0)) + ((lc ws (c - 1) (a + 1 + k) (b - (a + 1 + k))).1)) + ((lc ws c a ((a + 1 + k) - a)).1)) rfl rfl (w64 sD sD) zN ?_
        refine lw_tvn 3 rfl (wp_plain _ [0,0,0] rfl (lw_tv 1 rfl (q_add ((a + 1 + (k + 1) :Nat):Int) rfl rfl (w64n oM oM) zN (lw_tvn 1 rfl ?_))))
        have hKe:=hKb12
        have hPe:=hPx12
        exact ⟨((k + 1),(((wy + (ws.getD (a + k) 0)) + ((lc ws (c - 1) (a + 1 + k) (b - (a + 1 + k))).1)) + ((lc ws c a ((a + 1 + k) - a)).1)),(a + 1 + k),(wy + (ws.getD (a + k) 0)),Sa12,Sb12),_,rfl,⟨rfl,rfl,rfl,rfl,rfl,rfl,rfl,rfl,rfl,trivial⟩,⟨hE12,(by exact hPe),oM,z22_0,(by rw [hsw]; omega),(by exact hKe)⟩,by first | omega | (dsimp only; omega)⟩
       ·
        refine q_lss false rfl rfl (decide_eq_false hc15) (zS (e:=75) rfl rfl rfl) (lw_tv 3 rfl ?_)
        refine q_add ((wy + (ws.getD (a + k) 0)) + ((lc ws (c - 1) (a + 1 + k) (b - (a + 1 + k))).1)) rfl rfl (w64 sD sD) (zS (e:=78) rfl rfl rfl) ?_
        refine lw_tv 1 rfl ?_
        refine q_add (((wy + (ws.getD (a + k) 0)) + ((lc ws (c - 1) (a + 1 + k) (b - (a + 1 + k))).1)) + ((lc ws c a ((a + 1 + k) - a)).1)) rfl rfl (w64 sD sD) (zS (e:=78) rfl rfl rfl) ?_
        refine lw_tv 1 rfl ?_
        by_cases hc16:((wy + (ws.getD (a + k) 0)) + ((lc ws (c - 1) (a + 1 + k) (b - (a + 1 + k))).1)) + ((lc ws c a ((a + 1 + k) - a)).1) < bs
        ·
         refine q_lss true rfl rfl (decide_eq_true hc16) (zS (e:=78) rfl rfl rfl) (lw_tvn 2 rfl (c_cond_t rfl (wp_plain _ [0,0,0,0,0,0,0,0] rfl (lw_tv 2 rfl ?_))))
         refine q_add ((wy + (ws.getD (a + k) 0)) + ((lc ws (c - 1) (a + 1 + k) (b - (a + 1 + k))).1)) rfl rfl (w64 sD sD) zN (lw_tv 1 rfl ?_)
         refine q_add (((wy + (ws.getD (a + k) 0)) + ((lc ws (c - 1) (a + 1 + k) (b - (a + 1 + k))).1)) + ((lc ws c a ((a + 1 + k) - a)).1)) rfl rfl (w64 sD sD) zN ?_
         refine lw_tvn 3 rfl (wp_plain _ [0,0,0] rfl (lw_tv 1 rfl (q_add ((a + 1 + (k + 1) :Nat):Int) rfl rfl (w64n oM oM) zN (lw_tvn 1 rfl ?_))))
         have hKe:=hKb12
         have hPe:=hPx12
         exact ⟨((k + 1),(((wy + (ws.getD (a + k) 0)) + ((lc ws (c - 1) (a + 1 + k) (b - (a + 1 + k))).1)) + ((lc ws c a ((a + 1 + k) - a)).1)),(a + 1 + k),(wy + (ws.getD (a + k) 0)),Sa12,Sb12),_,rfl,⟨rfl,rfl,rfl,rfl,rfl,rfl,rfl,rfl,rfl,trivial⟩,⟨hE12,(by exact hPe),oM,z22_0,(by rw [hsw]; omega),(by exact hKe)⟩,by first | omega | (dsimp only; omega)⟩
        ·
         refine q_lss false rfl rfl (decide_eq_false hc16) (zS (e:=78) rfl rfl rfl) (lw_tvn 2 rfl (c_cond_f rfl (wp_skip (wp_plain _ [0,0,0] rfl (lw_tv 1 rfl (q_add ((a + 1 + (k + 1) :Nat):Int) rfl rfl (w64n oM oM) zN (lw_tvn 1 rfl ?_)))))))
         have hKe:=hKb12
         have hPe:=hPx12
         exact ⟨((k + 1),bs,sp,(wy + (ws.getD (a + k) 0)),Sa12,Sb12),_,rfl,⟨rfl,rfl,rfl,rfl,rfl,rfl,rfl,rfl,rfl,trivial⟩,⟨hE12,(by exact hPe),oM,z22_0,(by rw [hsw]; omega),(by exact hKe)⟩,by first | omega | (dsimp only; omega)⟩
      ·
       refine q_geq false rfl rfl (decide_eq_false hc14) (zS (e:=71) rfl rfl rfl) (lw_tvn 14 rfl (c_cond_f rfl (wp_skip (wp_plain _ [0,0,0] rfl (lw_tv 1 rfl (q_add ((a + 1 + (k + 1) :Nat):Int) rfl rfl (w64n oM oM) zN (lw_tvn 1 rfl ?_)))))))
       have hKe:=hKb12
       have hPe:=hPx12
       exact ⟨((k + 1),bs,sp,(wy + (ws.getD (a + k) 0)),Sa12,Sb12),_,rfl,⟨rfl,rfl,rfl,rfl,rfl,rfl,rfl,rfl,rfl,trivial⟩,⟨hE12,(by exact hPe),oM,z22_0,(by rw [hsw]; omega),(by exact hKe)⟩,by first | omega | (dsimp only; omega)⟩
     ·
      refine q_geq false rfl rfl (decide_eq_false hc13) zN (lw_tvn 17 rfl (c_cond_f rfl (wp_skip (wp_plain _ [0,0,0] rfl (lw_tv 1 rfl (q_add ((a + 1 + (k + 1) :Nat):Int) rfl rfl (w64n oM oM) zN (lw_tvn 1 rfl ?_)))))))
      have hKe:=hKb12
      have hPe:=hPx12
      exact ⟨((k + 1),bs,sp,(wy + (ws.getD (a + k) 0)),Sa12,Sb12),_,rfl,⟨rfl,rfl,rfl,rfl,rfl,rfl,rfl,rfl,rfl,trivial⟩,⟨hE12,(by exact hPe),oM,z22_0,(by rw [hsw]; omega),(by exact hKe)⟩,by first | omega | (dsimp only; omega)⟩
    ·
     refine q_lss false rfl rfl (decide_eq_false hc9) zN (lw_nil (c_cond_f rfl (wp_exit (t_exit (t_exit (c_exit_here (wp_seq ?_)))))))
     have hke:k = b - a - 1:=by omega
     have hlq:lc ws c a (b - a) = (bs,sp):=by rw [lc_sp oM oM,hsp,hke]
     have hbd:=lc_bd4 (w:=ws) hw9 c a (b - a) oM
     rw [hlq] at hbd
     dsimp only at hbd
     letI:JR:=jrC [g1,g2]
     refine Jx.wp_draw _ [0,0,0,1,1,0,0,0,1,1,0,0,3,0,3,3,0,3] mixed (by kernel_rfl) ?_
     have hkn17:w.heap.size∉[g1,g2]:=fun hm=>by simp only [List.mem_cons,List.not_mem_nil,or_false] at hm; omega
     have hgn17:gp∉[g1,g2]:=fun hm=>by simp only [List.mem_cons,List.not_mem_nil,or_false] at hm; have:=hP.n1; have:=hP.n2; omega
     refine Jx.q_move (.pointer (some ⟨gp,0,none⟩)) rfl zN (Jx.j1 (q_nil rfl zN (lw_nil (Jx.j1 (q_fldP (p:=(.pointer (some ⟨gp,0,none⟩))) (b:=gp) (o:=0) 2 fd75_2 rfl rfl zN (lw_nil (Jx.q_loadJ (p:=(padd (.pointer (some ⟨gp,0,none⟩)) 2)) (.map (some g1)) one73 rfl (fun wj hj=>(BX.chg (w:=w8.drew) (F:=[g1,g2]) hPl.bx hj hgn17).ldp (i:=2) sM) zN (Jx.q_loadRJ (p:=(.pointer (some ⟨w.heap.size,0,none⟩))) [(.int .i64 ((a :Nat):Int)),(.int .i64 ((b :Nat):Int)),(.int .i64 ((c :Nat):Int))] ar76 rfl (fun wj hj=>LD.of_box (BX.chg (w:=w8.drew) (F:=[g1,g2]) hKl hj hkn17)) rfl zN (Jx.q_move (.pointer (some ⟨gp,0,none⟩)) rfl zN (Jx.j1 (q_nil rfl zN (lw_nil (Jx.j1 ?_)))))))))))))
     refine q_fldP (p:=(.pointer (some ⟨gp,0,none⟩))) (b:=gp) (o:=0) 3 fd75_3 rfl rfl zN (lw_nil (Jx.q_loadJ (p:=(padd (.pointer (some ⟨gp,0,none⟩)) 3)) (.map (some g2)) one73 rfl (fun wj hj=>(BX.chg (w:=w8.drew) (F:=[g1,g2]) hPl.bx hj hgn17).ldp (i:=3) sM) zN (Jx.q_loadRJ (p:=(.pointer (some ⟨w.heap.size,0,none⟩))) [(.int .i64 ((a :Nat):Int)),(.int .i64 ((b :Nat):Int)),(.int .i64 ((c :Nat):Int))] ar76 rfl (fun wj hj=>LD.of_box (BX.chg (w:=w8.drew) (F:=[g1,g2]) hKl hj hkn17)) rfl zN (Jx.q_move (.int .i64 bs) rfl zN (Jx.q_move (.int .i64 ((sp :Nat):Int)) rfl zN (Jx.lift3 ?_))))))
     refine e_ent3 (g:=g1) (q:=(⟨((a :Nat):Int),((b :Nat):Int),((c :Nat):Int)⟩:K3)) (show Try.prog.underlying 73 = some (.map 76 2) by kernel_rfl) K3k (fun _ h=>keyk3 h) (zv_ti ti2) rfl rfl hPl.m1 z22_2 zN ?_
     intro v018 st18 w18 hC18 hz18 hM18
     have hS18:Chg [g1,g2] w8.drew w18:=hC18.sub z22_1
     have hA18:=hS18
     have hN18:=Map3.chg (w:=w8.drew) hPl.m2 hC18 (fun h9=>by have:=List.mem_singleton.1 h9; have:=hP.n3; omega)
     refine lw_nil ⟨⟨hS18.os,hS18.tape,hS18.output,hS18.size,hS18.block⟩,?_⟩
     refine Jx.j1 (q_extract (vs:=[v018,(.int .i64 ((st18 :Nat):Int))]) (.int .i64 ((st18 :Nat):Int)) rfl rfl zN (lw_nil (Jx.lift3 (e_ens3 (g:=g1) (q:=(⟨((a :Nat):Int),((b :Nat):Int),((c :Nat):Int)⟩:K3)) rfl rfl rfl hM18 (by unfold i64; omega) (by exact fi1_mk (congrArg Prod.fst hlq).symm oM) zN fun w19 hC19 hz19 hM19=>?_))))
     have hS19:Chg [g1,g2] w18 w19:=hC19.sub z22_1
     have hA19:=hA18.trans hS19
     have hN19:=Map3.chg (w:=w18) hN18 hC19 (fun h9=>by have:=List.mem_singleton.1 h9; have:=hP.n3; omega)
     refine lw_nil ⟨⟨hS19.os,hS19.tape,hS19.output,hS19.size,hS19.block⟩,?_⟩
     refine Jx.lift3 (e_ent3 (g:=g2) (q:=(⟨((a :Nat):Int),((b :Nat):Int),((c :Nat):Int)⟩:K3)) (show Try.prog.underlying 73 = some (.map 76 2) by kernel_rfl) K3k (fun _ h=>keyk3 h) (zv_ti ti2) rfl rfl hN19 z22_2 zN ?_)
     intro v020 st20 w20 hC20 hz20 hM20
     have hS20:Chg [g1,g2] w19 w20:=hC20.sub z22_1
     have hA20:=hA19.trans hS20
     have hN20:=Map3.chg (w:=w19) hM19 hC20 (fun h9=>by have:=List.mem_singleton.1 h9; have:=hP.n3; omega)
     refine lw_nil ⟨⟨hS20.os,hS20.tape,hS20.output,hS20.size,hS20.block⟩,?_⟩
     refine Jx.j1 (q_extract (vs:=[v020,(.int .i64 ((st20 :Nat):Int))]) (.int .i64 ((st20 :Nat):Int)) rfl rfl zN (lw_nil (Jx.lift3 (e_ens3 (g:=g2) (q:=(⟨((a :Nat):Int),((b :Nat):Int),((c :Nat):Int)⟩:K3)) rfl rfl rfl hM20 (by unfold i64; omega) (by exact fi2_mk (congrArg (fun z=>((z.2 :Nat):Int)) hlq).symm oM) zN fun w21 hC21 hz21 hM21=>?_))))
     have hS21:Chg [g1,g2] w20 w21:=hC21.sub z22_1
     have hA21:=hA20.trans hS21
     have hN21:=Map3.chg (w:=w20) hN20 hC21 (fun h9=>by have:=List.mem_singleton.1 h9; have:=hP.n3; omega)
     refine lw_nil ⟨⟨hS21.os,hS21.tape,hS21.output,hS21.size,hS21.block⟩,?_⟩
     have hPx22:PlnK 2 w21.heap gp g1 g2 T9 vw ws kq (insK (⟨((a :Nat):Int),((b :Nat):Int),((c :Nat):Int)⟩:K3) Sa) (insK (⟨((a :Nat):Int),((b :Nat):Int),((c :Nat):Int)⟩:K3) Sb):=⟨BX.chg (w:=w8.drew) hPl.bx hA21 hgn17,RT.chg (w:=w8.drew) (good_rdL good_rI) hPl.rd hA21 (fun b hb=>by simp only [List.mem_cons,List.not_mem_nil,or_false] at hb; have:=hP.t1; have:=hP.t2; omega),hN21,hM21,fun _ h9=>insK_sub hPl.sub h9,hP.n1,hP.n2,hP.n3,hP.t0,hP.t1,hP.t2⟩
     have hE22:Chg [g1,g2] w w21:=hE8.drew.trans hA21
     exact Jx.lw_nil (wp_seq (wp_plain _ [0,0] rfl (lw_tvn 2 rfl (wp_ret (post_ret [8] rfl (.int .i64 bs) rfl ⟨_,_,(by (have h9:=congrArg Prod.fst hlq; dsimp only at h9; rw [h9])),hE22,hPx22,(by intro _ _; exact insK_mem)⟩)))))
   ·
    exact c_cond_t (by first | rfl | (show Value.bool _ = _; rw [hb7])) (wp_seq (wp_plain _ [0,0] rfl (lw_tvn 2 rfl (wp_ret (t_ret (post_ret [8] rfl (.int .i64 r6) rfl ⟨_,_,(by rw [fi1_of (hy6 (by simpa using (by assumption:b6 = true))).2 oM]),hE5.drew,hPx5,(by intro _ _; exact hPx5.sub _ (hy6 (by simpa using (by assumption:b6 = true))).1)⟩))))))
theorem c_leastA (gp g1 g2 T9 kq:Nat) (vw:Value) (ws:List Int) (hwl:ws.length≤40) (hw9:∀ i,0≤ws.getD i 0∧ws.getD i 0≤1000) (w1:World) (Sa Sb:List K3) (x y z:Nat) (hP:PlnK 2 w1.heap gp g1 g2 T9 vw ws kq Sa Sb) (hxy:x≤y∧y≤ws.length) (hz:z≤8) :
  Calls Try.prog 22 #[.pointer (some ⟨gp,0,none⟩),.int .i64 ((x :Nat):Int),.int .i64 ((y :Nat):Int),.int .i64 ((z :Nat):Int)] w1 fun e w'=>∃ (S1' S2':List K3),e = .returned (.int .i64 (lc ws z x (y - x)).1)∧Chg [g1,g2] w1 w'∧PlnK 2 w'.heap gp g1 g2 T9 vw ws kq S1' S2'∧(2≤y - x→1≤z→(⟨((x :Nat):Int),((y :Nat):Int),((z :Nat):Int)⟩:K3)∈S2'):=by
 have H:∀ (n:Nat) (w1:World) (Sa Sb:List K3) (x y z:Nat),PlnK 2 w1.heap gp g1 g2 T9 vw ws kq Sa Sb→y - x < n→x≤y∧y≤ws.length→z≤8 →
   Calls Try.prog 22 #[.pointer (some ⟨gp,0,none⟩),.int .i64 ((x :Nat):Int),.int .i64 ((y :Nat):Int),.int .i64 ((z :Nat):Int)] w1 fun e w'=>∃ (S1' S2':List K3),e = .returned (.int .i64 (lc ws z x (y - x)).1)∧Chg [g1,g2] w1 w'∧PlnK 2 w'.heap gp g1 g2 T9 vw ws kq S1' S2'∧(2≤y - x→1≤z→(⟨((x :Nat):Int),((y :Nat):Int),((z :Nat):Int)⟩:K3)∈S2'):=by
  intro n
  induction n with
  | zero=>intro w1 Sa Sb x y z _ h; omega
  | succ n ih =>
   intro w1 Sa Sb x y z hP hn hxy hz
   exact c_impl_planner_least w1 gp g1 g2 T9 kq vw ws Sa Sb x y z hP (by omega) (by omega) (by omega) hwl hw9 hxy hz (fun w2 Sc Sd x2 y2 z2 hP2 hlt h3 h4=>ih w2 Sc Sd x2 y2 z2 hP2 (by omega) h3 h4)
 exact H (y - x + 1) w1 Sa Sb x y z hP (by omega) hxy hz
end Go.Proofs.Ytoacbkmejjhceaa
namespace Go.Proofs.Ytoacbkmejjhceaa
open Go Go.RowKit
set_option linter.unusedVariables false
set_option linter.unusedSimpArgs false
set_option maxHeartbeats 4000000
set_option maxRecDepth 100000
attribute [local irreducible] LW
theorem z28_0 {p:Prop} (h:p:=by first | omega | (simp only [List.length_append,List.length_cons,List.length_nil]; omega)):p:=h
theorem z28_1 {p:Prop} (h:p:=by simp only [maxLen,List.length_append,List.length_cons,List.length_nil]; omega):p:=h
theorem z28_2 {p:Prop} (h:p:=by simp only [List.length_append,List.length_cons,List.length_nil]; omega):p:=h
theorem z28_3 {p:Prop} (h:p:=by simp only [List.map_toArray,List.map_cons,List.map_nil]; rfl):p:=h
theorem z28_4 {p:Prop} (h:p:=by refine ⟨?_,?_⟩ <;> (try unfold i64) <;> (dsimp only; omega)):p:=h
theorem z28_5 {p:Prop} (h:p:=by rw [show b - (a + m) = b - a - m from by omega]; exact hm.rt):p:=h
theorem c_impl_planner_plan (w:World) (gp g1 g2 T9 kq:Nat) (vw:Value) (ws:List Int) (S1 S2:List K3) (a:Nat) (b:Nat) (c:Nat) (held:Bool) (vo:Value) (l:List Av) (B U:Nat) (hP:PlnK 2 w.heap gp g1 g2 T9 vw ws kq S1 S2) (_ha:a≤1000000000000) (_hb:b≤1000000000000) (_hc:c≤1000000000000) (hl:Fr (owS 2 rAv 56) B U w.heap vo l) (hBU:B≤U∧U≤w.heap.size) (hzB:gp < B∧g1 < B∧g2 < B∧T9≤B) (hwl:ws.length≤40) (hw9:∀ i,0≤ws.getD i 0∧ws.getD i 0≤1000) (hab:a≤b∧b≤ws.length) (hck:c≤kq∧kq≤8) (h0:0≤(lc ws c a (b - a)).1) (hll:l.length + 4 * (b - a)≤100000) (IH:∀ (w1:World) (Sa Sb:List K3) (x y z:Nat) (hd:Bool) (v:Value) (xs:List Av) (B U:Nat),PlnK 2 w1.heap gp g1 g2 T9 vw ws kq Sa Sb→Fr (owS 2 rAv 56) B U w1.heap v xs→(B≤U∧U≤w1.heap.size)→(gp < B∧g1 < B∧g2 < B∧T9≤B)→y - x < b - a→(x≤y∧y≤ws.length)→z≤kq→0≤(lc ws z x (y - x)).1→xs.length + 4 * (y - x)≤100000→Calls Try.prog 28 #[.pointer (some ⟨gp,0,none⟩),.int .i64 ((x :Nat):Int),.int .i64 ((y :Nat):Int),.int .i64 ((z :Nat):Int),.bool hd,v] w1 fun e w'=>∃ (v2:Value) (S1' S2':List K3),e = .returned v2∧Chg (PZ g1 g2 B w1) w1 w'∧PlnK 2 w'.heap gp g1 g2 T9 vw ws kq S1' S2'∧Fr (owS 2 rAv 56) B w'.heap.size w'.heap v2 (xs++pl ws z x (y - x) (kq - z) hd)) :
  Calls Try.prog 28 #[.pointer (some ⟨gp,0,none⟩),.int .i64 ((a :Nat):Int),.int .i64 ((b :Nat):Int),.int .i64 ((c :Nat):Int),.bool held,vo] w (fun e w'=>∃ (v2:Value) (S1' S2':List K3),e = .returned v2∧Chg (PZ g1 g2 B w) w w'∧PlnK 2 w'.heap gp g1 g2 T9 vw ws kq S1' S2'∧Fr (owS 2 rAv 56) B w'.heap.size w'.heap v2 (l++pl ws c a (b - a) (kq - c) held)):=by
 refine calls_mk [.pointer (some ⟨gp,0,none⟩),.int .i64 ((a :Nat):Int),.int .i64 ((b :Nat):Int),.int .i64 ((c :Nat):Int),.bool held,vo] 79 Try.func28 rfl rfl sM ?_
 have hE0:Chg (PZ g1 g2 B w) w w:=Chg.refl (PZ g1 g2 B w) w
 have hPl:=hP.lt
 refine wp_seq (wp_plain _ [0] rfl (lw_tvn 1 rfl (wp_seq (wp_seq (wp_plain _ [0,0,0] rfl (lw_tv 2 rfl ?_))))))
 refine q_sub (((b :Nat):Int) - ((a :Nat):Int)) rfl rfl (w64 sD sD) zN (lw_nil (wp_block (wp_seq ?_)))
 refine wp_plain _ [0,0] rfl ?_
 by_cases hc1:((b :Nat):Int) - ((a :Nat):Int) = ((0 :Nat):Int)
 ·
  refine q_eql true rfl rfl (decide_eq_true hc1) zN (lw_tvn 1 rfl (c_cond_t rfl (wp_seq (wp_plain _ [0,0] rfl (lw_tvn 2 rfl (wp_ret (b_ret (t_ret ?_))))))))
  have hFr:Fr (owS 2 rAv 56) B w.heap.size w.heap vo (l++pl ws c a (b - a) (kq - c) held):=by rw [show b - a = 0 from by omega,pl_0,List.append_nil]; exact (hl.up (good_owS good_rAv))
  exact post_ret [12] rfl vo rfl ⟨_,_,_,rfl,hE0,hP,hFr⟩
 ·
  refine q_eql false rfl rfl (decide_eq_false hc1) zN (lw_tvn 1 rfl (c_cond_f rfl (wp_seq (wp_plain _ [0,0] rfl ?_))))
  by_cases hc2:((b :Nat):Int) - ((a :Nat):Int) = ((1 :Nat):Int)
  ·
   refine q_eql true rfl rfl (decide_eq_true hc2) zN (lw_tvn 1 rfl (c_cond_t rfl (wp_seq (wp_plain _ [0,0,3,4,0] rfl (lw_tv 1 rfl ?_)))))
   have hbd3:∀ (wq:World),(Instr.build 56 #[(0,(.int .i64 ((4 :Nat):Int)))]).run Try.prog wq = .ok (.agg #[(.int .i64 ((4 :Nat):Int)),(.int .i64 0)]) wq:=by intro wq; kernel_rfl
   refine q_build (ps:=#[(0,(.int .i64 ((4 :Nat):Int)))]) (.agg #[(.int .i64 ((4 :Nat):Int)),(.int .i64 0)]) z28_3 (fun wq=>hbd3  wq) zN (r_oneS (cs:=[(.int .i64 ((4 :Nat):Int)),(.int .i64 0)]) (y:=(⟨((4 :Nat):Int),0⟩:Av)) (B:=w.heap.size) (U:=w.heap.size) good_rAv u24 tiS56 rfl (by decide) rfl (frN_av (a:=(⟨((4 :Nat):Int),0⟩:Av)) z28_4) oM zN ?_)
   intro v4 w4 hX4 hz4 hO4
   have hzs4:w.heap.size≤w4.heap.size:=hX4.size
   have hE4:Chg (PZ g1 g2 B w) w w4:=hE0.ext hX4
   have hPx5:=hP.ext hX4
   have hF6:=hl.ext (good_owS good_rAv) hX4
   refine e_appS (v:=vo) (a:=v4) good_rAv u24 tiS56 rfl (by decide) rfl rfl hF6 oM hO4 oM oM z28_0 z28_1 zN fun v7 w7 F7 hC7 hF7 hO7=>?_
   have hzs7:w4.heap.size≤w7.heap.size:=hC7.size
   have hE7:Chg (PZ g1 g2 B w) w w7:=pz_any hE4 hC7 (fun b hb=>.inr (.inr (hF7 b hb).1))
   have hPx7:=hPx5.chg hC7 (fun b hb=>by have h91:=(hF7 b hb).1; omega)
   refine lw_tvn 1 rfl (wp_ret (b_ret (t_ret ?_)))
   have hFr:Fr (owS 2 rAv 56) B w7.heap.size w7.heap v7 (l++pl ws c a (b - a) (kq - c) held):=by rw [show b - a = 1 from by omega,pl_1]; exact hO7
   exact post_ret [12] rfl v7 rfl ⟨_,_,_,rfl,hE7,hPx7,hFr⟩
  ·
   refine q_eql false rfl rfl (decide_eq_false hc2) zN (lw_tvn 1 rfl (c_cond_f rfl (wp_skip (wp_seq (wp_plain _ [0,0,0,0,4] rfl ?_)))))
   obtain ⟨m,hm⟩:=spk (d:=b - a) oM h0
   have hm1:=hm.m1
   have hm2:=hm.md
   have hc1:=hm.c1
   refine lw_tv 4 rfl (lw_callE 22 [] [] [(.pointer (some ⟨gp,0,none⟩)),(.int .i64 ((a :Nat):Int)),(.int .i64 ((b :Nat):Int)),(.int .i64 ((c :Nat):Int))] rfl rfl cf22 zN (c_leastA gp g1 g2 T9 kq vw ws hwl hw9 _ S1 S2 a b c hP oM oM) ?_)
   rintro e8 w8 ⟨Sa8,Sb8,rfl,hC8,hPx8,hmem8⟩
   refine ⟨_,rfl,?_⟩
   have hzs8:w.heap.size≤w8.heap.size:=hC8.size
   have hE8:Chg (PZ g1 g2 B w) w w8:=pz_any hE0 hC8 (by intro b hb; simp only [List.mem_cons,List.not_mem_nil,or_false] at hb; omega)
   have hF9:=hl.chg (good_owS good_rAv) hC8 (fun c hc=>by simp only [List.mem_cons,List.not_mem_nil,or_false] at hc; omega)
   have hlc8:=lc_bd4 (w:=ws) hw9 c a (b - a) oM
   refine lw_nil (wp_seq (wp_draw _ [0,0,0,1,0,0,0,0,2,0,0,0,1,0,0,0,0] mixed (by kernel_rfl) (lw_tv 1 rfl (q_nil rfl zN (q_fldP (p:=(.pointer (some ⟨gp,0,none⟩))) (b:=gp) (o:=0) 3 fd75_3 rfl rfl zN (q_load (p:=(padd (.pointer (some ⟨gp,0,none⟩)) 3)) (.inl rfl) (.map (some g2)) one73 rfl (hPx8.bx.ldp (i:=3) sM) zN (lw_tv 3 rfl (q_build (ps:=#[(0,(.int .i64 ((a :Nat):Int))),(1,(.int .i64 ((b :Nat):Int))),(2,(.int .i64 ((c :Nat):Int)))]) (k3V (⟨((a :Nat):Int),((b :Nat):Int),((c :Nat):Int)⟩:K3)) z28_3 (fun wq=>bl76 _ _ _ wq) zN ?_))))))))
   refine q_get3 (q:=(⟨((a :Nat):Int),((b :Nat):Int),((c :Nat):Int)⟩:K3)) (show Try.prog.underlying 73 = some (.map 76 2) by kernel_rfl) K3k (fun _ h=>keyk3 h) (zv_ti ti2) rfl rfl hPx8.m2 (by refine ⟨?_,?_,?_⟩ <;> (unfold i64; dsimp only; omega)) (hmem8 oM oM) zN ?_
   intro r10 hr10 hy10
   have hrm10:r10 = ((a + m :Nat):Int):=by rw [fi2_of hy10 oM,hm.at_]
   subst hrm10
   refine lw_tv 1 rfl (q_nil rfl zN (q_fldP (p:=(.pointer (some ⟨gp,0,none⟩))) (b:=gp) (o:=0) 1 fd75_1 rfl rfl zN (q_load (p:=(padd (.pointer (some ⟨gp,0,none⟩)) 1)) (.inl rfl) (.int .i64 ((kq :Nat):Int)) one2 rfl (hPx8.bx.ldp (i:=1) sM) zN (lw_tv 1 rfl (q_sub ((kq - c :Nat):Int) rfl rfl (w64n oM oM) zN (lw_tvn 2 rfl (wp_seq (wp_seq (wp_plain _ [0,0] rfl (lw_tv 1 rfl (q_not (!held) rfl rfl zN (lw_nil ?_))))))))))))
   cases hb11:(!held)
   ·
    refine c_cond_f (by first | rfl | (show Value.bool _ = _; rw [hb11])) (wp_skip (wp_seq (wp_plain _ [0,0,0,0,0,3,4,0] rfl (lw_tv 3 rfl (q_sub ((m :Nat):Int) rfl rfl (w64n oM oM) zN ?_)))))
    have hbd12:∀ (wq:World),(Instr.build 56 #[(0,(.int .i64 ((1 :Nat):Int))),(1,(.int .i64 ((m :Nat):Int)))]).run Try.prog wq = .ok (.agg #[(.int .i64 ((1 :Nat):Int)),(.int .i64 ((m :Nat):Int))]) wq:=by intro wq; kernel_rfl
    refine q_build (ps:=#[(0,(.int .i64 ((1 :Nat):Int))),(1,(.int .i64 ((m :Nat):Int)))]) (.agg #[(.int .i64 ((1 :Nat):Int)),(.int .i64 ((m :Nat):Int))]) z28_3 (fun wq=>hbd12  wq) zN ?_
    have hdr13:w8.drew.heap.size = w8.heap.size:=rfl
    refine r_oneS (cs:=[(.int .i64 ((1 :Nat):Int)),(.int .i64 ((m :Nat):Int))]) (y:=(⟨((1 :Nat):Int),((m :Nat):Int)⟩:Av)) (B:=w8.heap.size) (U:=w8.heap.size) good_rAv u24 tiS56 rfl (by decide) rfl (frN_av (a:=(⟨((1 :Nat):Int),((m :Nat):Int)⟩:Av)) z28_4) oM zN ?_
    intro v14 w14 hX14 hz14 hO14
    replace hX14:=hX14.of_drew
    have hzs14:w8.heap.size≤w14.heap.size:=hX14.size
    have hE14:Chg (PZ g1 g2 B w) w w14:=hE8.ext hX14
    have hPx15:=hPx8.ext hX14
    have hF16:=hF9.ext (good_owS good_rAv) hX14
    refine e_appS (v:=vo) (a:=v14) good_rAv u24 tiS56 rfl (by decide) rfl rfl hF16 oM hO14 oM oM z28_0 z28_1 zN fun v17 w17 F17 hC17 hF17 hO17=>?_
    have hzs17:w14.heap.size≤w17.heap.size:=hC17.size
    have hE17:Chg (PZ g1 g2 B w) w w17:=pz_any hE14 hC17 (fun b hb=>.inr (.inr (hF17 b hb).1))
    have hPx17:=hPx15.chg hC17 (fun b hb=>by have h91:=(hF17 b hb).1; omega)
    refine lw_tvn 1 rfl (wp_seq (wp_plain _ [0,0,0,0,0,0,4,0] rfl (lw_tv 4 rfl (q_sub ((c - 1 :Nat):Int) rfl rfl (w64n oM oM) zN (lw_tv 1 rfl (lw_callE 28 [] [] [(.pointer (some ⟨gp,0,none⟩)),(.int .i64 ((a + m :Nat):Int)),(.int .i64 ((b :Nat):Int)),(.int .i64 ((c - 1 :Nat):Int)),(.bool false),v17] rfl rfl cf28 zN (IH _ Sa8 Sb8 (a + m) b (c - 1) false v17 (l++[(⟨((1 :Nat):Int),((m :Nat):Int)⟩:Av)]) B w17.heap.size hPx17 hO17 ⟨oM,oM⟩ hzB oM oM oM z28_5 z28_2) ?_))))))
    rintro e18 w18 ⟨v18,Sa18,Sb18,rfl,hC18,hPx18,hO18⟩
    refine ⟨_,rfl,?_⟩
    have hzs18:w17.heap.size≤w18.heap.size:=hC18.size
    have hE18:Chg (PZ g1 g2 B w) w w18:=pz_PZ hE17 hC18
    have hpm18:=(pl_mem (b - (a + m)) (w:=ws) (c:=c - 1) (a:=a + m) (ds:=kq - (c - 1)) (held:=false) oM oM z28_5).1.2 oM
    refine lw_tvn 1 rfl (wp_seq (wp_plain _ [0,0,0,3,4,0] rfl (lw_tv 2 rfl ?_)))
    have hbd19:∀ (wq:World),(Instr.build 56 #[(0,(.int .i64 ((3 :Nat):Int))),(1,(.int .i64 ((kq - c :Nat):Int)))]).run Try.prog wq = .ok (.agg #[(.int .i64 ((3 :Nat):Int)),(.int .i64 ((kq - c :Nat):Int))]) wq:=by intro wq; kernel_rfl
    refine q_build (ps:=#[(0,(.int .i64 ((3 :Nat):Int))),(1,(.int .i64 ((kq - c :Nat):Int)))]) (.agg #[(.int .i64 ((3 :Nat):Int)),(.int .i64 ((kq - c :Nat):Int))]) z28_3 (fun wq=>hbd19  wq) zN (r_oneS (cs:=[(.int .i64 ((3 :Nat):Int)),(.int .i64 ((kq - c :Nat):Int))]) (y:=(⟨((3 :Nat):Int),((kq - c :Nat):Int)⟩:Av)) (B:=w18.heap.size) (U:=w18.heap.size) good_rAv u24 tiS56 rfl (by decide) rfl (frN_av (a:=(⟨((3 :Nat):Int),((kq - c :Nat):Int)⟩:Av)) z28_4) oM zN ?_)
    intro v20 w20 hX20 hz20 hO20
    have hzs20:w18.heap.size≤w20.heap.size:=hX20.size
    have hE20:Chg (PZ g1 g2 B w) w w20:=hE18.ext hX20
    have hPx21:=hPx18.ext hX20
    have hF22:=hO18.ext (good_owS good_rAv) hX20
    refine e_appS (v:=v18) (a:=v20) good_rAv u24 tiS56 rfl (by decide) rfl rfl hF22 oM hO20 oM oM z28_0 z28_1 zN fun v23 w23 F23 hC23 hF23 hO23=>?_
    have hzs23:w20.heap.size≤w23.heap.size:=hC23.size
    have hE23:Chg (PZ g1 g2 B w) w w23:=pz_any hE20 hC23 (fun b hb=>.inr (.inr (hF23 b hb).1))
    have hPx23:=hPx21.chg hC23 (fun b hb=>by have h91:=(hF23 b hb).1; omega)
    refine lw_tvn 1 rfl (wp_seq (wp_plain _ [0,0,0,0,0,4,0] rfl (lw_tv 5 rfl (lw_callE 28 [] [] [(.pointer (some ⟨gp,0,none⟩)),(.int .i64 ((a :Nat):Int)),(.int .i64 ((a + m :Nat):Int)),(.int .i64 ((c :Nat):Int)),(.bool true),v23] rfl rfl cf28 zN (IH _ Sa18 Sb18 a (a + m) c true v23 (((l++[(⟨((1 :Nat):Int),((m :Nat):Int)⟩:Av)])++pl ws (c - 1) (a + m) (b - (a + m)) (kq - (c - 1)) false)++[(⟨((3 :Nat):Int),((kq - c :Nat):Int)⟩:Av)]) B w23.heap.size hPx23 hO23 ⟨oM,oM⟩ hzB oM oM oM (by rw [show a + m - a = m from by omega]; exact hm.lf) z28_2) ?_))))
    rintro e24 w24 ⟨v24,Sa24,Sb24,rfl,hC24,hPx24,hO24⟩
    refine ⟨_,rfl,?_⟩
    have hzs24:w23.heap.size≤w24.heap.size:=hC24.size
    have hE24:Chg (PZ g1 g2 B w) w w24:=pz_PZ hE23 hC24
    refine lw_tvn 1 rfl (wp_ret ?_)
    have hFr:Fr (owS 2 rAv 56) B w24.heap.size w24.heap v24 (l++pl ws c a (b - a) (kq - c) held):=by (have e1:b - (a + m) = b - a - m:=by omega); (have e2:kq - (c - 1) = kq - c + 1:=by omega); (have e3:a + m - a = m:=by omega); (have h9:=hO24); rw [e1,e2,e3] at h9; rw [pl_s oM h0 hm]; first | ((have hh:held = true:=(by first | assumption | simpa using (by assumption:(!held) = false))); rw [if_pos hh]; simpa [List.append_assoc] using h9) | ((have hh:held = false:=(by simpa using (by assumption:(!held) = true))); rw [if_neg (by rw [hh]; decide)]; simpa [List.append_assoc] using h9)
    exact post_ret [12] rfl v24 rfl ⟨_,_,_,rfl,hE24,hPx24,hFr⟩
   ·
    refine c_cond_t (by first | rfl | (show Value.bool _ = _; rw [hb11])) (wp_plain _ [0,0,0,3,4,0] rfl (lw_tv 2 rfl ?_))
    have hbd25:∀ (wq:World),(Instr.build 56 #[(0,(.int .i64 ((2 :Nat):Int))),(1,(.int .i64 ((kq - c :Nat):Int)))]).run Try.prog wq = .ok (.agg #[(.int .i64 ((2 :Nat):Int)),(.int .i64 ((kq - c :Nat):Int))]) wq:=by intro wq; kernel_rfl
    refine q_build (ps:=#[(0,(.int .i64 ((2 :Nat):Int))),(1,(.int .i64 ((kq - c :Nat):Int)))]) (.agg #[(.int .i64 ((2 :Nat):Int)),(.int .i64 ((kq - c :Nat):Int))]) z28_3 (fun wq=>hbd25  wq) zN ?_
    have hdr26:w8.drew.heap.size = w8.heap.size:=rfl
    refine r_oneS (cs:=[(.int .i64 ((2 :Nat):Int)),(.int .i64 ((kq - c :Nat):Int))]) (y:=(⟨((2 :Nat):Int),((kq - c :Nat):Int)⟩:Av)) (B:=w8.heap.size) (U:=w8.heap.size) good_rAv u24 tiS56 rfl (by decide) rfl (frN_av (a:=(⟨((2 :Nat):Int),((kq - c :Nat):Int)⟩:Av)) z28_4) oM zN ?_
    intro v27 w27 hX27 hz27 hO27
    replace hX27:=hX27.of_drew
    have hzs27:w8.heap.size≤w27.heap.size:=hX27.size
    have hE27:Chg (PZ g1 g2 B w) w w27:=hE8.ext hX27
    have hPx28:=hPx8.ext hX27
    have hF29:=hF9.ext (good_owS good_rAv) hX27
    refine e_appS (v:=vo) (a:=v27) good_rAv u24 tiS56 rfl (by decide) rfl rfl hF29 oM hO27 oM oM z28_0 z28_1 zN fun v30 w30 F30 hC30 hF30 hO30=>?_
    have hzs30:w27.heap.size≤w30.heap.size:=hC30.size
    have hE30:Chg (PZ g1 g2 B w) w w30:=pz_any hE27 hC30 (fun b hb=>.inr (.inr (hF30 b hb).1))
    have hPx30:=hPx28.chg hC30 (fun b hb=>by have h91:=(hF30 b hb).1; omega)
    refine lw_tvn 1 rfl (wp_seq (wp_plain _ [0,0,0,0,0,3,4,0] rfl (lw_tv 3 rfl (q_sub ((m :Nat):Int) rfl rfl (w64n oM oM) zN ?_))))
    have hbd31:∀ (wq:World),(Instr.build 56 #[(0,(.int .i64 ((1 :Nat):Int))),(1,(.int .i64 ((m :Nat):Int)))]).run Try.prog wq = .ok (.agg #[(.int .i64 ((1 :Nat):Int)),(.int .i64 ((m :Nat):Int))]) wq:=by intro wq; kernel_rfl
    refine q_build (ps:=#[(0,(.int .i64 ((1 :Nat):Int))),(1,(.int .i64 ((m :Nat):Int)))]) (.agg #[(.int .i64 ((1 :Nat):Int)),(.int .i64 ((m :Nat):Int))]) z28_3 (fun wq=>hbd31  wq) zN (r_oneS (cs:=[(.int .i64 ((1 :Nat):Int)),(.int .i64 ((m :Nat):Int))]) (y:=(⟨((1 :Nat):Int),((m :Nat):Int)⟩:Av)) (B:=w30.heap.size) (U:=w30.heap.size) good_rAv u24 tiS56 rfl (by decide) rfl (frN_av (a:=(⟨((1 :Nat):Int),((m :Nat):Int)⟩:Av)) z28_4) oM zN ?_)
    intro v32 w32 hX32 hz32 hO32
    have hzs32:w30.heap.size≤w32.heap.size:=hX32.size
    have hE32:Chg (PZ g1 g2 B w) w w32:=hE30.ext hX32
    have hPx33:=hPx30.ext hX32
    have hF34:=hO30.ext (good_owS good_rAv) hX32
    refine e_appS (v:=v30) (a:=v32) good_rAv u24 tiS56 rfl (by decide) rfl rfl hF34 oM hO32 oM oM z28_0 z28_1 zN fun v35 w35 F35 hC35 hF35 hO35=>?_
    have hzs35:w32.heap.size≤w35.heap.size:=hC35.size
    have hE35:Chg (PZ g1 g2 B w) w w35:=pz_any hE32 hC35 (fun b hb=>.inr (.inr (hF35 b hb).1))
    have hPx35:=hPx33.chg hC35 (fun b hb=>by have h91:=(hF35 b hb).1; omega)
    refine lw_tvn 1 rfl (wp_seq (wp_plain _ [0,0,0,0,0,0,4,0] rfl (lw_tv 4 rfl (q_sub ((c - 1 :Nat):Int) rfl rfl (w64n oM oM) zN (lw_tv 1 rfl (lw_callE 28 [] [] [(.pointer (some ⟨gp,0,none⟩)),(.int .i64 ((a + m :Nat):Int)),(.int .i64 ((b :Nat):Int)),(.int .i64 ((c - 1 :Nat):Int)),(.bool false),v35] rfl rfl cf28 zN (IH _ Sa8 Sb8 (a + m) b (c - 1) false v35 ((l++[(⟨((2 :Nat):Int),((kq - c :Nat):Int)⟩:Av)])++[(⟨((1 :Nat):Int),((m :Nat):Int)⟩:Av)]) B w35.heap.size hPx35 hO35 ⟨oM,oM⟩ hzB oM oM oM z28_5 z28_2) ?_))))))
    rintro e36 w36 ⟨v36,Sa36,Sb36,rfl,hC36,hPx36,hO36⟩
    refine ⟨_,rfl,?_⟩
    have hzs36:w35.heap.size≤w36.heap.size:=hC36.size
    have hE36:Chg (PZ g1 g2 B w) w w36:=pz_PZ hE35 hC36
    have hpm36:=(pl_mem (b - (a + m)) (w:=ws) (c:=c - 1) (a:=a + m) (ds:=kq - (c - 1)) (held:=false) oM oM z28_5).1.2 oM
    refine lw_tvn 1 rfl (wp_seq (wp_plain _ [0,0,0,3,4,0] rfl (lw_tv 2 rfl ?_)))
    have hbd37:∀ (wq:World),(Instr.build 56 #[(0,(.int .i64 ((3 :Nat):Int))),(1,(.int .i64 ((kq - c :Nat):Int)))]).run Try.prog wq = .ok (.agg #[(.int .i64 ((3 :Nat):Int)),(.int .i64 ((kq - c :Nat):Int))]) wq:=by intro wq; kernel_rfl
    refine q_build (ps:=#[(0,(.int .i64 ((3 :Nat):Int))),(1,(.int .i64 ((kq - c :Nat):Int)))]) (.agg #[(.int .i64 ((3 :Nat):Int)),(.int .i64 ((kq - c :Nat):Int))]) z28_3 (fun wq=>hbd37  wq) zN (r_oneS (cs:=[(.int .i64 ((3 :Nat):Int)),(.int .i64 ((kq - c :Nat):Int))]) (y:=(⟨((3 :Nat):Int),((kq - c :Nat):Int)⟩:Av)) (B:=w36.heap.size) (U:=w36.heap.size) good_rAv u24 tiS56 rfl (by decide) rfl (frN_av (a:=(⟨((3 :Nat):Int),((kq - c :Nat):Int)⟩:Av)) z28_4) oM zN ?_)
    intro v38 w38 hX38 hz38 hO38
    have hzs38:w36.heap.size≤w38.heap.size:=hX38.size
    have hE38:Chg (PZ g1 g2 B w) w w38:=hE36.ext hX38
    have hPx39:=hPx36.ext hX38
    have hF40:=hO36.ext (good_owS good_rAv) hX38
    refine e_appS (v:=v36) (a:=v38) good_rAv u24 tiS56 rfl (by decide) rfl rfl hF40 oM hO38 oM oM z28_0 z28_1 zN fun v41 w41 F41 hC41 hF41 hO41=>?_
    have hzs41:w38.heap.size≤w41.heap.size:=hC41.size
    have hE41:Chg (PZ g1 g2 B w) w w41:=pz_any hE38 hC41 (fun b hb=>.inr (.inr (hF41 b hb).1))
    have hPx41:=hPx39.chg hC41 (fun b hb=>by have h91:=(hF41 b hb).1; omega)
    refine lw_tvn 1 rfl (wp_seq (wp_plain _ [0,0,0,0,0,4,0] rfl (lw_tv 5 rfl (lw_callE 28 [] [] [(.pointer (some ⟨gp,0,none⟩)),(.int .i64 ((a :Nat):Int)),(.int .i64 ((a + m :Nat):Int)),(.int .i64 ((c :Nat):Int)),(.bool true),v41] rfl rfl cf28 zN (IH _ Sa36 Sb36 a (a + m) c true v41 ((((l++[(⟨((2 :Nat):Int),((kq - c :Nat):Int)⟩:Av)])++[(⟨((1 :Nat):Int),((m :Nat):Int)⟩:Av)])++pl ws (c - 1) (a + m) (b - (a + m)) (kq - (c - 1)) false)++[(⟨((3 :Nat):Int),((kq - c :Nat):Int)⟩:Av)]) B w41.heap.size hPx41 hO41 ⟨oM,oM⟩ hzB oM oM oM (by rw [show a + m - a = m from by omega]; exact hm.lf) z28_2) ?_))))
    rintro e42 w42 ⟨v42,Sa42,Sb42,rfl,hC42,hPx42,hO42⟩
    refine ⟨_,rfl,?_⟩
    have hzs42:w41.heap.size≤w42.heap.size:=hC42.size
    have hE42:Chg (PZ g1 g2 B w) w w42:=pz_PZ hE41 hC42
    refine lw_tvn 1 rfl (wp_ret ?_)
    have hFr:Fr (owS 2 rAv 56) B w42.heap.size w42.heap v42 (l++pl ws c a (b - a) (kq - c) held):=by (have e1:b - (a + m) = b - a - m:=by omega); (have e2:kq - (c - 1) = kq - c + 1:=by omega); (have e3:a + m - a = m:=by omega); (have h9:=hO42); rw [e1,e2,e3] at h9; rw [pl_s oM h0 hm]; first | ((have hh:held = true:=(by first | assumption | simpa using (by assumption:(!held) = false))); rw [if_pos hh]; simpa [List.append_assoc] using h9) | ((have hh:held = false:=(by simpa using (by assumption:(!held) = true))); rw [if_neg (by rw [hh]; decide)]; simpa [List.append_assoc] using h9)
    exact post_ret [12] rfl v42 rfl ⟨_,_,_,rfl,hE42,hPx42,hFr⟩
theorem c_planA (gp g1 g2 T9 kq:Nat) (vw:Value) (ws:List Int) (hwl:ws.length≤40) (hw9:∀ i,0≤ws.getD i 0∧ws.getD i 0≤1000) (hk8:kq≤8):∀ (w1:World) (Sa Sb:List K3) (x y z:Nat) (hd:Bool) (v:Value) (xs:List Av) (B U:Nat),PlnK 2 w1.heap gp g1 g2 T9 vw ws kq Sa Sb→Fr (owS 2 rAv 56) B U w1.heap v xs→(B≤U∧U≤w1.heap.size)→(gp < B∧g1 < B∧g2 < B∧T9≤B)→ (x≤y∧y≤ws.length)→z≤kq→0≤(lc ws z x (y - x)).1→xs.length + 4 * (y - x)≤100000→Calls Try.prog 28 #[.pointer (some ⟨gp,0,none⟩),.int .i64 ((x :Nat):Int),.int .i64 ((y :Nat):Int),.int .i64 ((z :Nat):Int),.bool hd,v] w1 fun e w'=>∃ (v2:Value) (S1' S2':List K3),e = .returned v2∧Chg (PZ g1 g2 B w1) w1 w'∧PlnK 2 w'.heap gp g1 g2 T9 vw ws kq S1' S2'∧Fr (owS 2 rAv 56) B w'.heap.size w'.heap v2 (xs++pl ws z x (y - x) (kq - z) hd):=by
 have H:∀ n:Nat,∀ (w1:World) (Sa Sb:List K3) (x y z:Nat) (hd:Bool) (v:Value) (xs:List Av) (B U:Nat),PlnK 2 w1.heap gp g1 g2 T9 vw ws kq Sa Sb→Fr (owS 2 rAv 56) B U w1.heap v xs→(B≤U∧U≤w1.heap.size)→(gp < B∧g1 < B∧g2 < B∧T9≤B)→ y - x < n→(x≤y∧y≤ws.length)→z≤kq→0≤(lc ws z x (y - x)).1→xs.length + 4 * (y - x)≤100000→Calls Try.prog 28 #[.pointer (some ⟨gp,0,none⟩),.int .i64 ((x :Nat):Int),.int .i64 ((y :Nat):Int),.int .i64 ((z :Nat):Int),.bool hd,v] w1 fun e w'=>∃ (v2:Value) (S1' S2':List K3),e = .returned v2∧Chg (PZ g1 g2 B w1) w1 w'∧PlnK 2 w'.heap gp g1 g2 T9 vw ws kq S1' S2'∧Fr (owS 2 rAv 56) B w'.heap.size w'.heap v2 (xs++pl ws z x (y - x) (kq - z) hd):=by
  intro n
  induction n with
  | zero=>intro w1 Sa Sb x y z hd v xs B U _ _ _ _ h; omega
  | succ n ih =>
   intro w1 Sa Sb x y z hd v xs B U hP hl hBU hzB hn hxy hz h0 hll
   exact c_impl_planner_plan w1 gp g1 g2 T9 kq vw ws Sa Sb x y z hd v xs B U hP (by omega) (by omega) (by omega) hl hBU hzB hwl hw9 hxy ⟨hz,hk8⟩ h0 hll (fun w2 Sc Sd x2 y2 z2 hd2 v2 xs2 B2 U2 a1 a2 a3 a4 a5 a6 a7 a8 a9=>ih w2 Sc Sd x2 y2 z2 hd2 v2 xs2 B2 U2 a1 a2 a3 a4 (by omega) a6 a7 a8 a9)
 exact fun w1 Sa Sb x y z hd v xs B U a1 a2 a3 a4 a6 a7 a8 a9=>H (y - x + 1) w1 Sa Sb x y z hd v xs B U a1 a2 a3 a4 (by omega) a6 a7 a8 a9
theorem z20_0 {p:Prop} (h:p:=by first | rfl | (exfalso; simp_all; done) | (exfalso; simp_all; omega)):p:=h
theorem c_impl_isCosted (w:World) (va:Value) (ws:List Int) (k:Int) (hws:Rd (rdL rI) w.heap va ws) (_hk:-9223372036854775808≤k∧k≤9223372036854775807) (hwg:wgB ws = true) (hk:0≤k∧k≤8) :
  Calls Try.prog 20 #[va,.int .i64 k] w (fun e w'=>e = .returned (.int .i64 0)∧Ext w w'):=by
 refine calls_mk [va,.int .i64 k] 13 Try.func20 rfl rfl sM ?_
 have hE0:Ext w w:=Ext.refl w
 have hl_va:=hws.lenle
 refine wp_seq (wp_plain _ [0] rfl (lw_tvn 1 rfl (wp_seq (wp_block (wp_seq (wp_plain _ [0,3,0,0] rfl (lw_tv 1 rfl (lw_call 25 [] [] [va] rfl rfl cf25 zN (c_impl_ValidWeights _ _ _ (hws.ext g1 hE0)) ?_))))))))
 rintro e1 w1 ⟨rfl,hX1⟩
 refine ⟨_,rfl,hX1,?_⟩
 have hzs1:w.heap.size≤w1.heap.size:=hX1.size
 have hE1:Ext w w1:=hE0.trans hX1
 refine q_not (!(wgB ws)) rfl rfl zN (lw_tvn 1 rfl ?_)
 cases hb2:(!(wgB ws))
 ·
  refine c_cond_f (by first | rfl | (show Value.bool _ = _; rw [hb2])) (wp_seq (wp_plain _ [0,3,0,0] rfl (lw_tv 1 rfl (lw_call 26 [] [] [(.int .i64 k)] rfl rfl cf26 zN (c_impl_areSlots _ _ _hk) ?_))))
  rintro e3 w3 ⟨rfl,hX3⟩
  refine ⟨_,rfl,hX3,?_⟩
  have hzs3:w1.heap.size≤w3.heap.size:=hX3.size
  have hE3:Ext w w3:=hE1.trans hX3
  refine q_not (!(decide (0≤k) && decide (k≤8))) rfl rfl zN (lw_tvn 1 rfl ?_)
  cases hb4:(!(decide (0≤k) && decide (k≤8)))
  ·
   exact c_cond_f (by first | rfl | (show Value.bool _ = _; rw [hb4])) (wp_skip (wp_seq (wp_plain _ [0] rfl (lw_tvn 1 rfl (wp_ret (post_ret [4] rfl (.int .i64 ((0 :Nat):Int)) rfl ⟨z20_0,hE3⟩))))))
  ·
   exact c_cond_t (by first | rfl | (show Value.bool _ = _; rw [hb4])) (wp_seq (wp_plain _ [0] rfl (lw_tvn 1 rfl (wp_ret (b_ret (t_ret (post_ret [4] rfl (.int .i64 ((2 :Nat):Int)) rfl ⟨z20_0,hE3⟩)))))))
 ·
  exact c_cond_t (by first | rfl | (show Value.bool _ = _; rw [hb2])) (wp_seq (wp_plain _ [0] rfl (lw_tvn 1 rfl (wp_ret (b_ret (t_ret (post_ret [4] rfl (.int .i64 ((1 :Nat):Int)) rfl ⟨z20_0,hE1⟩)))))))
theorem c_impl_LeastCost (w:World) (va:Value) (ws:List Int) (k:Int) (hws:Rd (rdL rI) w.heap va ws) (_hk:-9223372036854775808≤k∧k≤9223372036854775807) (hwg:wgB ws = true) (hk:0≤k∧k≤8) :
  Calls Try.prog 6 #[va,.int .i64 k] w (fun e w'=>e = .returned (.tuple #[.int .i64 (lcV ws k),.int .i64 (lcE ws k)])∧Ext w w'):=by
 refine calls_mk [va,.int .i64 k] 24 Try.func6 rfl rfl sM ?_
 have hE0:Ext w w:=Ext.refl w
 have hl_va:=hws.lenle
 refine wp_seq (wp_plain _ [0,0] rfl (lw_tvn 2 rfl (wp_seq (wp_seq (wp_plain _ [0,0,3,0] rfl (lw_tv 2 rfl (lw_call 20 [] [] [va,(.int .i64 k)] rfl rfl cf20 zN (c_impl_isCosted _ _ _ _ (hws.ext g1 hE0) _hk (by exact hwg) oM) ?_)))))))
 rintro e1 w1 ⟨rfl,hX1⟩
 refine ⟨_,rfl,hX1,?_⟩
 have hzs1:w.heap.size≤w1.heap.size:=hX1.size
 have hE1:Ext w w1:=hE0.trans hX1
 refine lw_tvn 1 rfl (wp_seq (wp_plain _ [0,0] rfl (lw_tv 1 rfl ?_)))
 by_cases hc2:0≠((0 :Nat):Int)
 ·
  exact q_neq true rfl rfl (decide_eq_true hc2) zN (lw_nil (c_cond_t rfl (wp_seq (wp_plain _ [0,0,0] rfl (lw_tvn 3 rfl (wp_ret (t_ret (post_ret [4,5] rfl (.tuple #[(.int .i64 ((0 :Nat):Int)),(.int .i64 0)]) rfl ⟨(by exfalso; omega),hE1⟩))))))))
 ·
  refine q_neq false rfl rfl (decide_eq_false hc2) zN (lw_nil (c_cond_f rfl (wp_skip (wp_seq (wp_plain _ [0,0,3,0,0,0,4,0] rfl ?_)))))
  have hwl9:=wgB_iff.1 hwg
  have hwl:=hwl9.1
  have hw9:=hwl9.2
  generalize hg_kq:k = kqI at *
  obtain ⟨kq,rfl⟩:∃ n:Nat,kqI = ((n :Nat):Int):=⟨kqI.toNat,by omega⟩
  refine lw_tv 2 rfl (lw_call 21 [] [] [va,(.int .i64 ((kq :Nat):Int))] rfl rfl cf21 zN (c_impl_newPlanner _ va ws kq (hws.ext g1 hE1) oM oM) ?_)
  rintro e3 w3 ⟨gp,g1,g2,rfl,hX3,hPn⟩
  refine ⟨_,rfl,hX3,?_⟩
  have hzs3:w1.heap.size≤w3.heap.size:=hX3.size
  have hE3:Ext w w3:=hE1.trans hX3
  have hPl:=hPn.lt
  have hPt0:=hPn.t0
  have hPt1:=hPn.t1
  have hPt2:=hPn.t2
  refine lw_tv 1 rfl (q_len (v:=va) u25 rfl hws.isSl zN (lw_tv 1 rfl (lw_callE 22 [] [] [(.pointer (some ⟨gp,0,none⟩)),(.int .i64 ((0 :Nat):Int)),(.int .i64 ((ws.length :Nat):Int)),(.int .i64 ((kq :Nat):Int))] rfl rfl cf22 zN (c_leastA gp g1 g2 w1.heap.size kq va ws hwl hw9 _ [] [] 0 ws.length kq hPn oM oM) ?_)))
  rintro e4 w4 ⟨Sa4,Sb4,rfl,hC4,hPx4,hmem4⟩
  refine ⟨_,rfl,?_⟩
  have hzs4:w3.heap.size≤w4.heap.size:=hC4.size
  have hE4:Ext w w4:=hC4.below hE3 (fun b hb=>by simp only [List.mem_cons,List.not_mem_nil,or_false] at hb; have:=hPn.t1; have:=hPn.t2; omega) hE3.size
  have hlc4:=lc_bd4 (w:=ws) hw9 kq 0 (ws.length - 0) oM
  refine lw_tvn 1 rfl (wp_seq (wp_seq (wp_plain _ [0,0] rfl ?_)))
  have hT:lcT ws ((kq :Nat):Int) = (lc ws kq 0 (ws.length - 0)).1:=by unfold lcT; rw [Int.toNat_natCast,Nat.sub_zero]
  refine lw_tv 1 rfl ?_
  by_cases hc5:(lc ws kq 0 (ws.length - 0)).1 < ((0 :Nat):Int)
  ·
   exact q_lss true rfl rfl (decide_eq_true hc5) zN (lw_nil (c_cond_t rfl (wp_seq (wp_plain _ [0,0] rfl (lw_tvn 2 rfl (wp_ret (t_ret (post_ret [4,5] rfl (.tuple #[(.int .i64 ((0 :Nat):Int)),(.int .i64 ((4 :Nat):Int))]) rfl ⟨(by rw [lcV_n oM,lcE_n oM]; rfl),hE4⟩))))))))
  ·
   exact q_lss false rfl rfl (decide_eq_false hc5) zN (lw_nil (c_cond_f rfl (wp_skip (wp_seq (wp_plain _ [0,0,0] rfl (lw_tvn 3 rfl (wp_ret (post_ret [4,5] rfl (.tuple #[(.int .i64 ((lc ws kq 0 (ws.length - 0)).1)),(.int .i64 ((0 :Nat):Int))]) rfl ⟨(by rw [lcV_0 oM,lcE_0 oM,hT]; rfl),hE4⟩))))))))
theorem c_impl_BestSchedule (w:World) (va:Value) (ws:List Int) (k:Int) (hws:Rd (rdL rI) w.heap va ws) (_hk:-9223372036854775808≤k∧k≤9223372036854775807) (hwg:wgB ws = true) (hk:0≤k∧k≤8) :
  Calls Try.prog 9 #[va,.int .i64 k] w (fun e w'=>∃ v2:Value,e = .returned (.tuple #[v2,.int .i64 (lcE ws k)])∧Ext w w'∧Fr (owS 2 rAv 56) w.heap.size w'.heap.size w'.heap v2 (plT ws k)):=by
 refine calls_mk [va,.int .i64 k] 25 Try.func9 rfl rfl sM ?_
 have hE0:Ext w w:=Ext.refl w
 have hl_va:=hws.lenle
 refine wp_seq (wp_plain _ [0,0] rfl (lw_tvn 2 rfl (wp_seq (wp_seq (wp_plain _ [0,0,3,0,0,0,0,0] rfl (lw_tv 2 rfl (lw_call 6 [] [] [va,(.int .i64 k)] rfl rfl cf6 zN (c_impl_LeastCost _ _ _ _ (hws.ext g1 hE0) _hk (by exact hwg) oM) ?_)))))))
 rintro e1 w1 ⟨rfl,hX1⟩
 refine ⟨_,rfl,hX1,?_⟩
 have hzs1:w.heap.size≤w1.heap.size:=hX1.size
 have hE1:Ext w w1:=hE0.trans hX1
 refine lw_tv 1 rfl (q_extract (vs:=[(.int .i64 (lcV ws k)),(.int .i64 (lcE ws k))]) (.int .i64 (lcV ws k)) rfl rfl zN (q_extract (vs:=[(.int .i64 (lcV ws k)),(.int .i64 (lcE ws k))]) (.int .i64 (lcE ws k)) rfl rfl zN (lw_tvn 2 rfl (wp_seq (wp_plain _ [0,0] rfl (lw_tv 1 rfl ?_))))))
 by_cases hc2:lcE ws k≠((0 :Nat):Int)
 ·
  exact q_neq true rfl rfl (decide_eq_true hc2) zN (lw_nil (c_cond_t rfl (wp_seq (wp_plain _ [0,0,0] rfl (lw_tvn 3 rfl (wp_ret (t_ret (post_ret [4,5] rfl (.tuple #[(.slice none 0 0),(.int .i64 (lcE ws k))]) rfl ⟨_,(by rfl),hE1,(by (have h9:lcT ws k < 0:=by (have:=@lcE_0 ws k); (by_cases h8:lcT ws k < 0; exact h8; exact absurd (this h8) oM)); rw [show plT ws k = [] from if_pos h9]; exact frNilS _ _ _)⟩))))))))
 ·
  refine q_neq false rfl rfl (decide_eq_false hc2) zN (lw_nil (c_cond_f rfl (wp_skip (wp_seq (wp_plain _ [0,0,3,0,0,0,3,4,0,0] rfl ?_)))))
  have hwl9:=wgB_iff.1 hwg
  have hwl:=hwl9.1
  have hw9:=hwl9.2
  have hT:¬ lcT ws k < 0:=fun h9=>by rw [lcE_n h9] at *; omega
  have hpT:plT ws k = pl ws k.toNat 0 ws.length 0 false:=if_neg hT
  have hE0q:lcE ws k = 0:=lcE_0 hT
  have hlq:0≤(lc ws k.toNat 0 ws.length).1:=by unfold lcT at hT; omega
  generalize hg_kq:k = kqI at *
  obtain ⟨kq,rfl⟩:∃ n:Nat,kqI = ((n :Nat):Int):=⟨kqI.toNat,by omega⟩
  rw [Int.toNat_natCast] at hpT hlq
  refine lw_tv 2 rfl (lw_call 21 [] [] [va,(.int .i64 ((kq :Nat):Int))] rfl rfl cf21 zN (c_impl_newPlanner _ va ws kq (hws.ext g1 hE1) oM oM) ?_)
  rintro e3 w3 ⟨gp,g1,g2,rfl,hX3,hPn⟩
  refine ⟨_,rfl,hX3,?_⟩
  have hzs3:w1.heap.size≤w3.heap.size:=hX3.size
  have hE3:Ext w w3:=hE1.trans hX3
  have hPl:=hPn.lt
  have hPt0:=hPn.t0
  have hPt1:=hPn.t1
  have hPt2:=hPn.t2
  refine lw_tv 1 rfl (q_len (v:=va) u25 rfl hws.isSl zN (lw_tv 1 rfl (r_nilS (α:=Av) good_rAv u24 tiS56 zN fun v4 w4 hX4 hz4 hO4=>?_)))
  have hzs4:w3.heap.size≤w4.heap.size:=hX4.size
  have hE4:Ext w w4:=hE3.trans hX4
  have hPx5:=hPn.ext hX4
  refine lw_callE 28 [] [] [(.pointer (some ⟨gp,0,none⟩)),(.int .i64 ((0 :Nat):Int)),(.int .i64 ((ws.length :Nat):Int)),(.int .i64 ((kq :Nat):Int)),(.bool false),v4] rfl rfl cf28 zN (c_planA gp g1 g2 w1.heap.size kq va ws hwl hw9 oM _ [] [] 0 ws.length kq false v4 ([]:List Av) w3.heap.size w4.heap.size hPx5 hO4 ⟨oM,oM⟩ ⟨by omega,by omega,by omega,by omega⟩ oM oM (by rw [Nat.sub_zero]; exact hlq) (by simp only [List.length_nil]; omega)) ?_
  rintro e6 w6 ⟨v6,Sa6,Sb6,rfl,hC6,hPx6,hO6⟩
  refine ⟨_,rfl,?_⟩
  have hzs6:w4.heap.size≤w6.heap.size:=hC6.size
  have hE6:Ext w w6:=hC6.below hE4 (fun b hb=>by rcases mem_PZ.1 hb with e | e | e <;> omega) hE4.size
  exact lw_tvn 2 rfl (wp_ret (post_ret [4,5] rfl (.tuple #[v6,(.int .i64 ((0 :Nat):Int))]) rfl ⟨_,(by rw [hE0q]; rfl),hE6,(by rw [hpT]; (have h9:=((hO6.up (good_owS good_rAv)).low (B':=w.heap.size) oM)); rw [Nat.sub_zero,Nat.sub_self,List.nil_append] at h9; exact h9)⟩))
end Go.Proofs.Ytoacbkmejjhceaa
namespace Go.Proofs.Ytoacbkmejjhceaa
open Go Go.RowKit
set_option linter.unusedVariables false
set_option linter.unusedSimpArgs false
def rEv {α:Type} (E:Stand α):Stand (Value × α):=fun H v x F=>v = x.1∧E H v x.2 F
theorem good_rEv {α:Type} {E:Stand α} (hE:Good E):Good (rEv E) where
  cells:=by rintro H v x F ⟨_,h⟩; exact hE.cells h
  one:=by rintro H v x F ⟨_,h⟩; exact hE.one h
  lt:=by rintro H v x F ⟨_,h⟩; exact hE.lt h
  stable:=by rintro H H' v x F ⟨h1,h⟩ hb; exact ⟨h1,hE.stable h hb⟩
section
variable {α:Type} {E:Stand α} {e:TypeId}
theorem els_ev {E':Stand α} (hi:∀ {H v x F},E H v x F→E' H v x F) {H:Array Obj}:∀ {us:List Value} {xs:List (Value × α)} {F:List Nat},els (rEv E) H us xs F→els E' H us (xs.map (·.2)) F
  | [],[],_,h=>h
  | u :: us,x :: xs,_,⟨F1,F2,hF,h1,h2⟩=>⟨F1,F2,hF,hi h1.2,els_ev hi h2⟩
  | [],_ :: _,_,h=>h.elim
  | _ :: _,[],_,h=>h.elim
theorem rd_ev {E':Stand α} (hi:∀ {H v x F},E H v x F→E' H v x F) {B U:Nat} {H:Array Obj} {v:Value} {xs:List (Value × α)} (h:Fr (owL (rEv E) e) B U H v xs):Rd (rdL E') H v (xs.map (·.2)):=by
  obtain ⟨F,h,_⟩:=h
  rcases h with ⟨rfl,rfl,rfl⟩ | ⟨us,g,cap,cur,F',hels,rfl,hg,r1,r2,r3,r4,rfl⟩
  · exact ⟨[],.inl ⟨none,0,rfl,rfl,rfl⟩⟩
  · exact ⟨g :: F',.inr ⟨us,g,0,cap,cur,e,(0,0),F',els_ev hi hels,by simp,hg,by simpa using r4,by simp only [List.length_map]; exact Nat.le_trans r1 r2,rfl⟩⟩
theorem owL_at (hE:Good E) {w:World} {v:Value} {xs:List α} {F:List Nat} (d:α) (h:owL E e w.heap v xs F) (hn:F.Nodup) {r:Nat} (hr:r < xs.length) {u:Value} (hu:ldH w.heap (eptr v r 1) = some u) :
    ∃ G,E w.heap u (xs.getD r d) G∧G.Nodup∧(∀ b∈G,b∈F)∧∀ {w':World} {y:α},Chg G w w'→E w'.heap u y G→owL E e w'.heap v (xs.set r y) F:=by
  rcases h with ⟨rfl,rfl,rfl⟩ | ⟨us,g,cap,cur,F',hels,rfl,hg,r1,r2,r3,r4,rfl⟩
  · simp at hr
  · have hn':=List.nodup_cons.1 hn
    obtain ⟨u',G,hu',hx,hgn,hsub,hput⟩:=hels.at_ d hr hn'.2
    have e1:u' = u:=by
      rw [eptr_mk] at hu
      simp only [ldH,cellH,hg,Nat.zero_add] at hu
      rw [← r4,List.getElem?_take,if_pos hr] at hu'
      have h9:cur[r]? = some u':=by simpa using hu'
      rw [h9] at hu
      exact Option.some.inj hu
    subst e1
    refine ⟨G,hx,hgn,fun b hb=>List.mem_cons_of_mem _ (hsub b hb),?_⟩
    intro w' y hc hy
    refine .inr ⟨us,g,cap,cur,F',?_,by simp,?_,by simpa using r1,r2,r3,by simpa using r4,rfl⟩
    · exact hput (fun q hs=>hE.stable q fun b hb=>hc.block b (hels.lt hE b (hs b hb).1) (hs b hb).2) hy
    · rw [hc.block g (getElem?_lt hg) fun hm=>hn'.1 (hsub g hm)]; exact hg
end
def rTb (e1 e2:TypeId):Stand (Value × List (List Int)):=rEv (owL (owL rI e1) e2)
def tbS (TT:List (Value × List (List Int))):List (List (List Int)):=TT.map (·.2)
theorem tbS_len {TT:List (Value × List (List Int))}:(tbS TT).length = TT.length:=by unfold tbS; simp
theorem tbS_app {TT:List (Value × List (List Int))} {v:Value} {L:List (List Int)}:tbS (TT++[(v,L)]) = tbS TT++[L]:=by unfold tbS; simp
theorem good_rTb {e1 e2:TypeId}:Good (rTb e1 e2):=good_rEv (good_owL o1)
section
variable {e1 e2 e3:TypeId} {B U:Nat} {H:Array Obj} {v vl:Value} {TT:List (Value × List (List Int))} {c a:Nat}
theorem tb_rd (h:Fr (owL (rTb e1 e2) e3) B U H v TT):Rd (rdL (rdL (rdL rI))) H v (tbS TT):=rd_ev (E':=rdL (rdL rI)) (fun h=>owL.rd (fun h=>owL.rd (fun h=>h) h) h) h
theorem tb_hd (h:Fr (owL (rTb e1 e2) e3) B U H v TT) (hc:c < TT.length) (d:Value × List (List Int)):ldH H (eptr v c 1) = some (TT.getD c d).1∧Fr (owL (owL rI e1) e2) B U H (TT.getD c d).1 (TT.getD c d).2:=by
  obtain ⟨u,G,h1,⟨h2,h3⟩,h4,h5,_⟩:=Fr.row (w:={ (default:World) with heap:=H }) good_rTb d h hc
  subst h2
  exact ⟨h1,G,h3,h4,h5⟩
theorem tb_last {L:List (List Int)} (h:Fr (owL (rTb e1 e2) e3) B U H v (TT++[(vl,L)])):Fr (owL (owL rI e1) e2) B U H vl L:=by
  have h1:=(tb_hd h (c:=TT.length) (by simp) (vl,L)).2
  rwa [show (TT++[(vl,L)]).getD TT.length (vl,L) = (vl,L) from by simp [List.getD_eq_getElem?_getD]] at h1
theorem tb_row {L:List (List Int)} (h:Fr (owL (rTb e1 e2) e3) B U H v (TT++[(vl,L)])) (ha:a < L.length):∃ u,ldH H (eptr vl a 1) = some u∧Go.Proofs.Ytoacbkmejjhceaa.isSl u (L.getD a []).length:=by
  obtain ⟨u,G,h1,h2,h3,h4,_⟩:=Fr.row (w:={ (default:World) with heap:=H }) o1 [] (tb_last h) ha
  exact ⟨u,h1,Fr.isSl ⟨G,h2,h3,h4⟩⟩
theorem tb_of {L:List (List Int)} (h:Fr (owL (owL rI e1) e2) B U H vl L):Fr (rTb e1 e2) B U H vl (vl,L):=by
  obtain ⟨F,h1,h2,h3⟩:=h
  exact ⟨F,⟨rfl,h1⟩,h2,h3⟩
end
section ops
variable {P:Program} {ops:Array Oper} {w0:World} {Q:Act→World→Prop} {os:List Oper} {ks:List Nat} {N:Nat} {ρ:Nat→Value} {w:World}
  {d:Nat} {ty:TypeId} {pos:String} {aft:Array Edge} {g:Option (Nat × Bool)} {e1 e2 e3:TypeId} {B U c a j:Nat} {v vl ur:Value} {TT:List (Value × List (List Int))} {L:List (List Int)} {n:Int}
theorem e_set3 {st:TypeId} {x y:Operand} (hst:(P.info? st).map (·.size) = some 1) (hx:evF N ρ x = eptr ur j 1) (hy:evF N ρ y = .int .i64 n) (hn:-9223372036854775808≤n∧n≤9223372036854775807)
    (hv:Fr (owL (rTb e1 e2) e3) B U w.heap v (TT++[(vl,L)])) (ha:a < L.length) (hl:ldH w.heap (eptr vl a 1) = some ur) (hj:j < (L.getD a []).length) (hu:Up ops N ρ ⟨none,.store st x y,ty,pos,aft,g⟩)
    (h:∀ w1 F,Chg F w w1→w1.heap.size = w.heap.size→(∀ c∈F,B≤c∧c < U)→Fr (owL (rTb e1 e2) e3) B U w1.heap v (TT++[(vl,L.set a ((L.getD a []).set j n))])→LW P ops w0 Q os ks (mk N ρ) w1) :
    LW P ops w0 Q (⟨none,.store st x y,ty,pos,aft,g⟩ :: os) (4 :: ks) (mk N ρ) w:=by
  have hc:TT.length < (TT++[(vl,L)]).length:=by simp
  have hgd:(TT++[(vl,L)]).getD TT.length (vl,L) = (vl,L):=by simp [List.getD_eq_getElem?_getD]
  obtain ⟨u,G,h1,⟨h2,h3⟩,h4,h5,h6⟩:=Fr.row good_rTb (vl,L) hv hc
  rw [hgd] at h2 h3
  have h2:u = vl:=h2
  subst h2
  have h3:owL (owL rI e1) e2 w.heap u L G:=h3
  obtain ⟨G1,q1,q2,q3,q4⟩:=owL_at o1 [] h3 h4 ha hl
  obtain ⟨w1,p1,p2,p3,p4⟩:=run_setI (P:=P) hst q1 q2 hj hn
  have hLn:=q4 p3 p2
  have p3':Chg G w w1:=p3.sub q3
  have hf:=h6 (y:=(u,L.set a ((L.getD a []).set j n))) p3' ⟨rfl,hLn⟩
  rw [show (TT++[(u,L)]).set TT.length (u,L.set a ((L.getD a []).set j n)) = TT++[(u,L.set a ((L.getD a []).set j n))] from by simp] at hf
  exact lw_s rfl hu w1 (exec_store hx hy p1) (h w1 G p3' p4 h5 hf)
end ops
end Go.Proofs.Ytoacbkmejjhceaa
namespace Go.Proofs.Ytoacbkmejjhceaa
open Go Go.RowKit
set_option linter.unusedVariables false
set_option linter.unusedSimpArgs false
set_option maxHeartbeats 4000000
set_option maxRecDepth 100000
attribute [local irreducible] LW
theorem z39_0 {p:Prop} (h:p:=by first | exact decide_eq_true oM | (exfalso; have h9:(!(decide (0≤ws.getD k 0) && decide (ws.getD k 0≤1000))) = true:=(by assumption); rw [decide_eq_true oM,decide_eq_true oM] at h9; cases h9)):p:=h
theorem c_spec_l06Weights (w:World) (va:Value) (ws:List Int) (hws:Rd (rdL rI) w.heap va ws) (hwl:ws.length≤40) (hw9:∀ i,0≤ws.getD i 0∧ws.getD i 0≤1000) :
  Calls Try.prog 39 #[va] w (fun e w'=>e = .returned (.bool true)∧Ext w w'):=by
 refine calls_mk [va] 19 Try.func39 rfl rfl sM ?_
 have hE0:Ext w w:=Ext.refl w
 have hl_va:=hws.lenle
 refine wp_seq (wp_plain _ [0] rfl (lw_tvn 1 rfl (wp_seq (wp_seq (wp_plain _ [0] rfl (lw_tvn 1 rfl (wp_block (c_loop (S:=Nat) (fun (k:Nat)=>([(3,(.int .i64 ((k :Nat):Int))),(0,va)]:List (Nat × Value))) (fun (k:Nat) (W:World)=>Ext w W∧k≤ws.length) (fun (k:Nat)=>ws.length - k) 0 ⟨rfl,rfl,trivial⟩ ⟨hE0,oM⟩ ?_))))))))
 clear hE0
 rintro k ρ1 w1 ⟨hE1,hp1_0⟩
 have hzs1:w.heap.size≤w1.heap.size:=hE1.size
 refine wp_seq (wp_seq (wp_plain _ [0,0,0,0] rfl (lw_tv 2 rfl (q_len (v:=va) u25 rfl hws.isSl zN ?_))))
 by_cases hc2:((k :Nat):Int) < ((ws.length :Nat):Int)
 ·
  refine q_lss true rfl rfl (decide_eq_true hc2) zN (lw_nil (c_cond_t rfl (wp_skip (wp_seq (wp_block (wp_seq (wp_plain _ [0,0,0,2,0,0] rfl ?_)))))))
  have hwk:=hw9 k
  refine lw_tv 2 rfl (q_idx (v:=va) k u25 ti2 rfl rfl hws.isSl rfl sD zN ?_)
  refine q_load (p:=eptr va k 1) (.inr rfl) (.int .i64 (ws.getD k 0)) one2 rfl (ldH_ext hE1 (hws.getI sD).1) zN ?_
  refine lw_callq 40 [] [] [(.int .i64 (ws.getD k 0)),(.int .i64 ((0 :Nat):Int)),(.int .i64 ((1000 :Nat):Int))] rfl rfl cf40 zN (.bool (decide (((0 :Nat):Int)≤(ws.getD k 0)) && decide ((ws.getD k 0)≤((1000 :Nat):Int)))) (fun wq=>c_spec_l00In wq _ _ _ (hws.getI sD).2 oM oM) (q_not (!(decide (((0 :Nat):Int)≤(ws.getD k 0)) && decide ((ws.getD k 0)≤((1000 :Nat):Int)))) rfl rfl zN (lw_nil ?_))
  cases hb4:(!(decide (((0 :Nat):Int)≤(ws.getD k 0)) && decide ((ws.getD k 0)≤((1000 :Nat):Int))))
  ·
   exact c_cond_f (by first | rfl | (show Value.bool _ = _; rw [hb4])) (wp_skip (wp_plain _ [0,0,0] rfl (lw_tv 1 rfl (q_add ((k + 1 :Nat):Int) rfl rfl (w64n oM sD) zN (lw_tvn 1 rfl ⟨(k + 1),_,rfl,⟨rfl,rfl,trivial⟩,⟨hE1,oM⟩,by first | omega | (dsimp only; omega)⟩)))))
  ·
   exact c_cond_t (by first | rfl | (show Value.bool _ = _; rw [hb4])) (wp_seq (wp_plain _ [0] rfl (lw_tvn 1 rfl (wp_ret (b_ret (t_ret (t_ret (b_ret (t_ret (post_ret [2] rfl (.bool false) rfl ⟨(ret_bool z39_0),hE1⟩))))))))))
 ·
  exact q_lss false rfl rfl (decide_eq_false hc2) zN (lw_nil (c_cond_f rfl (wp_exit (t_exit (t_exit (c_exit_here (wp_seq (wp_plain _ [0,0,0,0] rfl (lw_tv 1 rfl (q_len (v:=va) u25 rfl hws.isSl zN (q_leq (decide (((ws.length :Nat):Int)≤((40 :Nat):Int))) rfl rfl rfl zN (lw_tvn 1 rfl (wp_ret (post_ret [2] rfl (.bool (decide (((ws.length :Nat):Int)≤((40 :Nat):Int)))) rfl ⟨(ret_bool z39_0),hE1⟩))))))))))))))
theorem z47_0 {p:Prop} (h:p:=by first | (rw [spR_n rfl rfl oM]; exact hsp) | (rw [spR_y rfl rfl ⟨by omega,by omega,by omega⟩]; refine Prod.ext ?_ ?_ <;> (dsimp only; omega))):p:=h
theorem z47_1 {p:Prop} (h:p:=by rw [hsw]; omega):p:=h
theorem c_spec_l06Split (w:World) (va:Value) (ws:List Int) (vt:Value) (TT:List (List (List Int))) (a:Nat) (b:Nat) (c:Nat) (hws:Rd (rdL rI) w.heap va ws) (hTT:Rd (rdL (rdL (rdL rI))) w.heap vt TT) (_ha:a≤1000000000000) (_hb:b≤1000000000000) (_hc:c≤1000000000000) (hwl:ws.length≤40) (hw9:∀ i,0≤ws.getD i 0∧ws.getD i 0≤1000) (hst:SpT ws ws.length c a b TT) :
  Calls Try.prog 47 #[va,vt,.int .i64 ((a :Nat):Int),.int .i64 ((b :Nat):Int),.int .i64 ((c :Nat):Int)] w (fun e w'=>e = .returned (.tuple #[.int .i64 (((lc ws c a (b - a)).2 :Nat):Int),.int .i64 ((lc ws c a (b - a)).1)])∧Ext w w'):=by
 refine calls_mk [va,vt,.int .i64 ((a :Nat):Int),.int .i64 ((b :Nat):Int),.int .i64 ((c :Nat):Int)] 84 Try.func47 rfl rfl sM ?_
 have hE0:Ext w w:=Ext.refl w
 have hl_va:=hws.lenle
 have hl_vt:=hTT.lenle
 refine wp_seq (wp_plain _ [0,0] rfl ?_)
 have hab:=hst.ab
 have hbn:=hst.bn
 have hcl:=hst.cl
 refine lw_tvn 2 rfl (wp_seq (wp_plain _ [0] rfl (lw_tvn 1 rfl (wp_seq (wp_plain _ [0] rfl (lw_tvn 1 rfl (wp_seq (wp_seq (wp_plain _ [0,0] rfl (lw_tv 1 rfl ?_))))))))))
 by_cases hc1:((c :Nat):Int) = ((0 :Nat):Int)
 ·
  exact q_eql true rfl rfl (decide_eq_true hc1) zN (lw_nil (c_cond_t rfl (wp_seq (wp_plain _ [0,0,0,0] rfl (lw_tvn 4 rfl (wp_ret (t_ret (post_ret [10,11] rfl (.tuple #[(.int .i64 ((0 :Nat):Int)),(.int .i64 (-1))]) rfl ⟨(by (have e0:c = 0:=by omega); subst e0; rw [lc_0 oM]),hE0⟩))))))))
 ·
  refine q_eql false rfl rfl (decide_eq_false hc1) zN (lw_nil (c_cond_f rfl (wp_skip (wp_seq (wp_plain _ [0] rfl (lw_tvn 1 rfl (wp_seq (wp_seq (wp_plain _ [0,0,0] rfl (lw_tv 1 rfl (q_add ((a + 1 :Nat):Int) rfl rfl (w64n oM oM) zN (lw_tvn 1 rfl (wp_block ?_)))))))))))))
  refine c_loop (S:=Nat × Int × Nat × Int) (fun (⟨k,bs,sp,wy⟩:Nat × Int × Nat × Int)=>([(12,(.int .i64 ((sp :Nat):Int))),(13,(.int .i64 bs)),(14,(.int .i64 wy)),(15,(.int .i64 ((a + 1 + k :Nat):Int))),(0,va),(1,vt),(2,(.int .i64 ((a :Nat):Int))),(3,(.int .i64 ((b :Nat):Int))),(4,(.int .i64 ((c :Nat):Int)))]:List (Nat × Value))) (fun (⟨k,bs,sp,wy⟩:Nat × Int × Nat × Int) (W:World)=>Ext w W∧k + 1≤b - a∧(bs,sp) = spR ws c a (b - a) k∧wy = sumW ws a k) (fun (⟨k,bs,sp,wy⟩:Nat × Int × Nat × Int)=>b - a - k) (0,-1,0,0) ⟨rfl,rfl,rfl,rfl,rfl,rfl,rfl,rfl,rfl,trivial⟩ ⟨hE0,oM,(by exact spR_0.symm),(by rfl)⟩ ?_
  clear hE0
  rintro ⟨k,bs,sp,wy⟩ ρ2 w2 ⟨hE2,hp2_0,hsp,hwy⟩
  have hzs2:w.heap.size≤w2.heap.size:=hE2.size
  refine wp_seq (wp_seq (wp_plain _ [0,0,0] rfl (lw_tv 2 rfl ?_)))
  by_cases hc3:((a + 1 + k :Nat):Int) < ((b :Nat):Int)
  ·
   refine q_lss true rfl rfl (decide_eq_true hc3) zN (lw_nil (c_cond_t rfl (wp_skip (wp_seq (wp_block (wp_seq (wp_plain _ [0,0,0,0,0,2,0,0] rfl ?_)))))))
   have hsw:sumW ws a (k + 1) = sumW ws a k + ws.getD (a + k) 0:=rfl
   have hsb:=sumW_bd hw9 a (k + 1) oM
   have hbb:=spR_bd (c:=c) (a:=a) (d:=b - a) (k:=k) hw9 oM oM
   have hs1:(spR ws c a (b - a) k).1 = bs:=by rw [← hsp]
   have hs2:(spR ws c a (b - a) k).2 = sp:=by rw [← hsp]
   have hgk:=hw9 (a + k)
   have hr1:=hst.len (c - 1) oM
   have hr2:=hst.row (c - 1) (a + 1 + k) oM oM
   have hl1:=hst.len c oM
   have hl2:=hst.row c a oM oM
   have hr3:((TT.getD (c - 1) []).getD (a + 1 + k) []).getD b 0 = (lc ws (c - 1) (a + (k + 1)) (b - a - (k + 1))).1:=by rw [hst.rt (a + 1 + k) oM oM oM,show a + 1 + k = a + (k + 1) from by omega,show b - (a + (k + 1)) = b - a - (k + 1) from by omega]
   have hl3:((TT.getD c []).getD a []).getD (a + 1 + k) 0 = (lc ws c a (k + 1)).1:=by rw [hst.lf (a + 1 + k) oM oM,show a + 1 + k - a = k + 1 from by omega]
   have hb1:=lc_bd4 (w:=ws) hw9 (c - 1) (a + (k + 1)) (b - a - (k + 1)) oM
   have hb2:=lc_bd4 (w:=ws) hw9 c a (k + 1) oM
   refine lw_tv 3 rfl (q_sub ((a + k :Nat):Int) rfl rfl (w64n oM oM) zN (q_idx (v:=va) (a + k) u25 ti2 rfl rfl hws.isSl rfl sD zN ?_))
   refine q_load (p:=eptr va (a + k) 1) (.inr rfl) (.int .i64 (ws.getD (a + k) 0)) one2 rfl (ldH_ext hE2 (hws.getI sD).1) zN ?_
   refine q_add (wy + (ws.getD (a + k) 0)) rfl rfl (w64 sD sD) zN (lw_tvn 1 rfl (wp_seq ?_))
   refine wp_plain _ [0,0,0,0,2,0,0,2,0,0,2,0] rfl (lw_tv 2 rfl (q_sub ((c - 1 :Nat):Int) rfl rfl (w64n oM oM) zN (q_idx (v:=vt) (c - 1) u53 ti79 rfl rfl hTT.isSl rfl sD zN ?_)))
   obtain ⟨ue4,hl4,hd4⟩:=hTT.get (k:=c - 1) [] sD
   have hln4:=hd4.lenle
   refine q_load (p:=eptr vt (c - 1) 1) (.inr rfl) ue4 one79 rfl (ldH_ext hE2 hl4) zN (lw_tv 1 rfl (q_idx (v:=ue4) (a + 1 + k) u79 ti25 rfl rfl hd4.isSl rfl sD zN ?_))
   obtain ⟨ue5,hl5,hd5⟩:=hd4.get (k:=a + 1 + k) [] sD
   have hln5:=hd5.lenle
   refine q_load (p:=eptr ue4 (a + 1 + k) 1) (.inr rfl) ue5 one25 rfl (ldH_ext hE2 hl5) zN (lw_tv 1 rfl (q_idx (v:=ue5) b u25 ti2 rfl rfl hd5.isSl rfl sD zN ?_))
   refine q_load (p:=eptr ue5 b 1) (.inr rfl) (.int .i64 (((TT.getD (c - 1) []).getD (a + 1 + k) []).getD b 0)) one2 rfl (ldH_ext hE2 (hd5.getI sD).1) zN (lw_tvn 1 rfl (wp_seq (wp_seq (wp_plain _ [0,0,0,0] rfl (lw_tv 2 rfl ?_)))))
   refine q_sub (((b :Nat):Int) - ((a + 1 + k :Nat):Int)) rfl rfl (w64 sD sD) zN ?_
   by_cases hc6:((b :Nat):Int) - ((a + 1 + k :Nat):Int)≤((1 :Nat):Int)
   ·
    refine q_leq true rfl rfl (decide_eq_true hc6) zN (lw_nil (c_cond_t rfl (wp_plain _ [0] rfl ?_)))
    have hz1:(lc ws (c - 1) (a + (k + 1)) (b - a - (k + 1))).1 = 0:=by rw [lc_1 oM]
    refine lw_tvn 1 rfl (wp_seq (wp_plain _ [0,0,0,2,0,0,2,0,0,2,0] rfl (lw_tv 2 rfl (q_idx (v:=vt) c u53 ti79 rfl rfl hTT.isSl rfl sD zN ?_))))
    obtain ⟨ue7,hl7,hd7⟩:=hTT.get (k:=c) [] sD
    have hln7:=hd7.lenle
    refine q_load (p:=eptr vt c 1) (.inr rfl) ue7 one79 rfl (ldH_ext hE2 hl7) zN (lw_tv 1 rfl (q_idx (v:=ue7) a u79 ti25 rfl rfl hd7.isSl rfl sD zN ?_))
    obtain ⟨ue8,hl8,hd8⟩:=hd7.get (k:=a) [] sD
    have hln8:=hd8.lenle
    refine q_load (p:=eptr ue7 a 1) (.inr rfl) ue8 one25 rfl (ldH_ext hE2 hl8) zN (lw_tv 1 rfl (q_idx (v:=ue8) (a + 1 + k) u25 ti2 rfl rfl hd8.isSl rfl sD zN ?_))
    refine q_load (p:=eptr ue8 (a + 1 + k) 1) (.inr rfl) (.int .i64 (((TT.getD c []).getD a []).getD (a + 1 + k) 0)) one2 rfl (ldH_ext hE2 (hd8.getI sD).1) zN (lw_tvn 1 rfl (wp_seq (wp_seq (wp_plain _ [0,0,0,0,0,0] rfl (lw_tv 1 rfl (q_lss false rfl rfl (by decide) zN (lw_tv 2 rfl ?_)))))))
    by_cases hc9:((TT.getD c []).getD a []).getD (a + 1 + k) 0 < ((0 :Nat):Int)
    ·
     exact q_lss true rfl rfl (decide_eq_true hc9) (zS (e:=64) rfl rfl rfl) (lw_tvn 1 rfl (c_cond_t rfl (wp_exit (t_exit (c_exit_here (wp_plain _ [0,0,0] rfl (lw_tv 1 rfl (q_add ((a + 1 + (k + 1) :Nat):Int) rfl rfl (w64n oM oM) zN (lw_tvn 1 rfl ⟨((k + 1),bs,sp,(wy + (ws.getD (a + k) 0))),_,rfl,⟨rfl,rfl,rfl,rfl,rfl,rfl,rfl,rfl,rfl,trivial⟩,⟨hE2,oM,z47_0,z47_1⟩,by first | omega | (dsimp only; omega)⟩)))))))))
    ·
     refine q_lss false rfl rfl (decide_eq_false hc9) (zS (e:=64) rfl rfl rfl) (lw_tvn 1 rfl (c_cond_f rfl (wp_skip (wp_seq (wp_plain _ [0,0,0,0,0,0] rfl (lw_tv 2 rfl ?_))))))
     refine q_add ((wy + (ws.getD (a + k) 0)) + ((0 :Nat):Int)) rfl rfl (w64 sD sD) zN (lw_tv 1 rfl ?_)
     refine q_add (((wy + (ws.getD (a + k) 0)) + ((0 :Nat):Int)) + (((TT.getD c []).getD a []).getD (a + 1 + k) 0)) rfl rfl (w64 sD sD) zN ?_
     refine lw_tvn 1 rfl (wp_seq (wp_plain _ [0,0,0,0,0,0,0] rfl (lw_tv 1 rfl ?_)))
     by_cases hc10:bs < ((0 :Nat):Int)
     ·
      exact q_lss true rfl rfl (decide_eq_true hc10) zN (lw_tvn 5 rfl (c_cond_t rfl (wp_seq (wp_plain _ [0,0] rfl (lw_tvn 2 rfl (wp_plain _ [0,0] rfl (lw_tvn 2 rfl (wp_plain _ [0,0,0] rfl (lw_tv 1 rfl (q_add ((a + 1 + (k + 1) :Nat):Int) rfl rfl (w64n oM oM) zN (lw_tvn 1 rfl ⟨((k + 1),(((wy + (ws.getD (a + k) 0)) + ((0 :Nat):Int)) + (((TT.getD c []).getD a []).getD (a + 1 + k) 0)),(a + 1 + k),(wy + (ws.getD (a + k) 0))),_,rfl,⟨rfl,rfl,rfl,rfl,rfl,rfl,rfl,rfl,rfl,trivial⟩,⟨hE2,oM,z47_0,z47_1⟩,by first | omega | (dsimp only; omega)⟩)))))))))))
     ·
      refine q_lss false rfl rfl (decide_eq_false hc10) zN (lw_tv 3 rfl ?_)
      by_cases hc11:((wy + (ws.getD (a + k) 0)) + ((0 :Nat):Int)) + (((TT.getD c []).getD a []).getD (a + 1 + k) 0) < bs
      ·
       exact q_lss true rfl rfl (decide_eq_true hc11) (zS (e:=75) rfl rfl rfl) (lw_tvn 1 rfl (c_cond_t rfl (wp_seq (wp_plain _ [0,0] rfl (lw_tvn 2 rfl (wp_plain _ [0,0] rfl (lw_tvn 2 rfl (wp_plain _ [0,0,0] rfl (lw_tv 1 rfl (q_add ((a + 1 + (k + 1) :Nat):Int) rfl rfl (w64n oM oM) zN (lw_tvn 1 rfl ⟨((k + 1),(((wy + (ws.getD (a + k) 0)) + ((0 :Nat):Int)) + (((TT.getD c []).getD a []).getD (a + 1 + k) 0)),(a + 1 + k),(wy + (ws.getD (a + k) 0))),_,rfl,⟨rfl,rfl,rfl,rfl,rfl,rfl,rfl,rfl,rfl,trivial⟩,⟨hE2,oM,z47_0,z47_1⟩,by first | omega | (dsimp only; omega)⟩)))))))))))
      ·
       exact q_lss false rfl rfl (decide_eq_false hc11) (zS (e:=75) rfl rfl rfl) (lw_tvn 1 rfl (c_cond_f rfl (wp_skip (wp_plain _ [0,0,0] rfl (lw_tv 1 rfl (q_add ((a + 1 + (k + 1) :Nat):Int) rfl rfl (w64n oM oM) zN (lw_tvn 1 rfl ⟨((k + 1),bs,sp,(wy + (ws.getD (a + k) 0))),_,rfl,⟨rfl,rfl,rfl,rfl,rfl,rfl,rfl,rfl,rfl,trivial⟩,⟨hE2,oM,z47_0,z47_1⟩,by first | omega | (dsimp only; omega)⟩)))))))
   ·
    refine q_leq false rfl rfl (decide_eq_false hc6) zN (lw_nil (c_cond_f rfl (wp_skip (wp_seq (wp_plain _ [0,0,0,2,0,0,2,0,0,2,0] rfl (lw_tv 2 rfl (q_idx (v:=vt) c u53 ti79 rfl rfl hTT.isSl rfl sD zN ?_)))))))
    obtain ⟨ue12,hl12,hd12⟩:=hTT.get (k:=c) [] sD
    have hln12:=hd12.lenle
    refine q_load (p:=eptr vt c 1) (.inr rfl) ue12 one79 rfl (ldH_ext hE2 hl12) zN (lw_tv 1 rfl (q_idx (v:=ue12) a u79 ti25 rfl rfl hd12.isSl rfl sD zN ?_))
    obtain ⟨ue13,hl13,hd13⟩:=hd12.get (k:=a) [] sD
    have hln13:=hd13.lenle
    refine q_load (p:=eptr ue12 a 1) (.inr rfl) ue13 one25 rfl (ldH_ext hE2 hl13) zN (lw_tv 1 rfl (q_idx (v:=ue13) (a + 1 + k) u25 ti2 rfl rfl hd13.isSl rfl sD zN ?_))
    refine q_load (p:=eptr ue13 (a + 1 + k) 1) (.inr rfl) (.int .i64 (((TT.getD c []).getD a []).getD (a + 1 + k) 0)) one2 rfl (ldH_ext hE2 (hd13.getI sD).1) zN (lw_tvn 1 rfl (wp_seq (wp_seq (wp_plain _ [0,0,0,0,0,0] rfl (lw_tv 1 rfl ?_)))))
    by_cases hc14:((TT.getD (c - 1) []).getD (a + 1 + k) []).getD b 0 < ((0 :Nat):Int)
    ·
     exact q_lss true rfl rfl (decide_eq_true hc14) zN (lw_tvn 4 rfl (c_cond_t rfl (wp_exit (t_exit (c_exit_here (wp_plain _ [0,0,0] rfl (lw_tv 1 rfl (q_add ((a + 1 + (k + 1) :Nat):Int) rfl rfl (w64n oM oM) zN (lw_tvn 1 rfl ⟨((k + 1),bs,sp,(wy + (ws.getD (a + k) 0))),_,rfl,⟨rfl,rfl,rfl,rfl,rfl,rfl,rfl,rfl,rfl,trivial⟩,⟨hE2,oM,z47_0,z47_1⟩,by first | omega | (dsimp only; omega)⟩)))))))))
    ·
     refine q_lss false rfl rfl (decide_eq_false hc14) zN (lw_tv 2 rfl ?_)
     by_cases hc15:((TT.getD c []).getD a []).getD (a + 1 + k) 0 < ((0 :Nat):Int)
     ·
      exact q_lss true rfl rfl (decide_eq_true hc15) (zS (e:=64) rfl rfl rfl) (lw_tvn 1 rfl (c_cond_t rfl (wp_exit (t_exit (c_exit_here (wp_plain _ [0,0,0] rfl (lw_tv 1 rfl (q_add ((a + 1 + (k + 1) :Nat):Int) rfl rfl (w64n oM oM) zN (lw_tvn 1 rfl ⟨((k + 1),bs,sp,(wy + (ws.getD (a + k) 0))),_,rfl,⟨rfl,rfl,rfl,rfl,rfl,rfl,rfl,rfl,rfl,trivial⟩,⟨hE2,oM,z47_0,z47_1⟩,by first | omega | (dsimp only; omega)⟩)))))))))
     ·
      refine q_lss false rfl rfl (decide_eq_false hc15) (zS (e:=64) rfl rfl rfl) (lw_tvn 1 rfl (c_cond_f rfl (wp_skip (wp_seq (wp_plain _ [0,0,0,0,0,0] rfl (lw_tv 2 rfl ?_))))))
      refine q_add ((wy + (ws.getD (a + k) 0)) + (((TT.getD (c - 1) []).getD (a + 1 + k) []).getD b 0)) rfl rfl (w64 sD sD) zN (lw_tv 1 rfl ?_)
      refine q_add (((wy + (ws.getD (a + k) 0)) + (((TT.getD (c - 1) []).getD (a + 1 + k) []).getD b 0)) + (((TT.getD c []).getD a []).getD (a + 1 + k) 0)) rfl rfl (w64 sD sD) zN ?_
      refine lw_tvn 1 rfl (wp_seq (wp_plain _ [0,0,0,0,0,0,0] rfl (lw_tv 1 rfl ?_)))
      by_cases hc16:bs < ((0 :Nat):Int)
      ·
       exact q_lss true rfl rfl (decide_eq_true hc16) zN (lw_tvn 5 rfl (c_cond_t rfl (wp_seq (wp_plain _ [0,0] rfl (lw_tvn 2 rfl (wp_plain _ [0,0] rfl (lw_tvn 2 rfl (wp_plain _ [0,0,0] rfl (lw_tv 1 rfl (q_add ((a + 1 + (k + 1) :Nat):Int) rfl rfl (w64n oM oM) zN (lw_tvn 1 rfl ⟨((k + 1),(((wy + (ws.getD (a + k) 0)) + (((TT.getD (c - 1) []).getD (a + 1 + k) []).getD b 0)) + (((TT.getD c []).getD a []).getD (a + 1 + k) 0)),(a + 1 + k),(wy + (ws.getD (a + k) 0))),_,rfl,⟨rfl,rfl,rfl,rfl,rfl,rfl,rfl,rfl,rfl,trivial⟩,⟨hE2,oM,z47_0,z47_1⟩,by first | omega | (dsimp only; omega)⟩)))))))))))
      ·
       refine q_lss false rfl rfl (decide_eq_false hc16) zN (lw_tv 3 rfl ?_)
       by_cases hc17:((wy + (ws.getD (a + k) 0)) + (((TT.getD (c - 1) []).getD (a + 1 + k) []).getD b 0)) + (((TT.getD c []).getD a []).getD (a + 1 + k) 0) < bs
       ·
        refine q_lss true rfl rfl (decide_eq_true hc17) (zS (e:=75) rfl rfl rfl) (lw_tvn 1 rfl (c_cond_t rfl (wp_seq (wp_plain _ [0,0] rfl (lw_tvn 2 rfl (wp_plain _ [0,0] rfl (lw_tvn 2 rfl (wp_plain _ [0,0,0] rfl (lw_tv 1 rfl (q_add ((a + 1 + (k + 1) :Nat):Int) rfl rfl (w64n oM oM) zN (lw_tvn 1 rfl ?_)))))))))))
        exact ⟨((k + 1),(((wy + (ws.getD (a + k) 0)) + (((TT.getD (c - 1) []).getD (a + 1 + k) []).getD b 0)) + (((TT.getD c []).getD a []).getD (a + 1 + k) 0)),(a + 1 + k),(wy + (ws.getD (a + k) 0))),_,rfl,⟨rfl,rfl,rfl,rfl,rfl,rfl,rfl,rfl,rfl,trivial⟩,⟨hE2,oM,z47_0,z47_1⟩,by first | omega | (dsimp only; omega)⟩
       ·
        exact q_lss false rfl rfl (decide_eq_false hc17) (zS (e:=75) rfl rfl rfl) (lw_tvn 1 rfl (c_cond_f rfl (wp_skip (wp_plain _ [0,0,0] rfl (lw_tv 1 rfl (q_add ((a + 1 + (k + 1) :Nat):Int) rfl rfl (w64n oM oM) zN (lw_tvn 1 rfl ⟨((k + 1),bs,sp,(wy + (ws.getD (a + k) 0))),_,rfl,⟨rfl,rfl,rfl,rfl,rfl,rfl,rfl,rfl,rfl,trivial⟩,⟨hE2,oM,z47_0,z47_1⟩,by first | omega | (dsimp only; omega)⟩)))))))
  ·
   refine q_lss false rfl rfl (decide_eq_false hc3) zN (lw_nil (c_cond_f rfl (wp_exit (t_exit (t_exit (c_exit_here (wp_seq (wp_plain _ [0,0,0,0] rfl ?_))))))))
   have hke:k = b - a - 1:=by omega
   have hlq:lc ws c a (b - a) = (bs,sp):=by rw [lc_sp oM oM,hsp,hke]
   have hq1:(lc ws c a (b - a)).1 = bs:=congrArg Prod.fst hlq
   have hq2:(lc ws c a (b - a)).2 = sp:=congrArg Prod.snd hlq
   exact lw_tvn 4 rfl (wp_ret (post_ret [10,11] rfl (.tuple #[(.int .i64 ((sp :Nat):Int)),(.int .i64 bs)]) rfl ⟨(by rw [hq1,hq2]),hE2⟩))
theorem c_spec_l06Table (w:World) (va:Value) (ws:List Int) (k:Nat) (hws:Rd (rdL rI) w.heap va ws) (_hk:k≤1000000000000) (hwl:ws.length≤40) (hw9:∀ i,0≤ws.getD i 0∧ws.getD i 0≤1000) (hk8:k≤8) :
  Calls Try.prog 30 #[va,.int .i64 ((k :Nat):Int)] w (fun e w'=>∃ (v2:Value) (TT:List (Value × List (List Int))),e = .returned v2∧Ext w w'∧Fr (owL (rTb 2 25) 79) w.heap.size w'.heap.size w'.heap v2 TT∧TbK ws ws.length (tbS TT)∧TT.length = k + 1):=by
 refine calls_mk [va,.int .i64 ((k :Nat):Int)] 68 Try.func30 rfl rfl sM ?_
 have hE0:Ext w w:=Ext.refl w
 have hl_va:=hws.lenle
 refine wp_seq (wp_plain _ [0] rfl (lw_tvn 1 rfl (wp_seq (wp_plain _ [0,0,0] rfl (lw_tv 1 rfl (q_len (v:=va) u25 rfl hws.isSl zN (lw_tvn 1 rfl (wp_seq (wp_plain _ [3,0] rfl (r_nil (rTb 2 25) good_rTb u53 ti79 zN fun v1 w1 hX1 hz1 hO1=>?_))))))))))
 have hzs1:w.heap.size≤w1.heap.size:=hX1.size
 have hE1:Ext w w1:=hE0.trans hX1
 refine lw_tvn 1 rfl (wp_seq (wp_seq (wp_plain _ [0] rfl (lw_tvn 1 rfl (wp_block (c_loop (S:=Nat × Value × List (Value × List (List Int))) (fun (⟨j,vo,TT⟩:Nat × Value × List (Value × List (List Int)))=>([(6,vo),(7,(.int .i64 ((j :Nat):Int))),(0,va),(1,(.int .i64 ((k :Nat):Int))),(5,(.int .i64 ((ws.length :Nat):Int)))]:List (Nat × Value))) (fun (⟨j,vo,TT⟩:Nat × Value × List (Value × List (List Int))) (W:World)=>Ext w W∧Fr (owL (rTb 2 25) 79) w.heap.size W.heap.size W.heap vo TT∧j≤k + 1∧TT.length = j∧TbK ws ws.length (tbS TT)) (fun (⟨j,vo,TT⟩:Nat × Value × List (Value × List (List Int)))=>k + 1 - j) (0,v1,([]:List (Value × List (List Int)))) ⟨rfl,rfl,rfl,rfl,rfl,trivial⟩ ⟨hE1,hO1.up (good_owL good_rTb),oM,(by rfl),(by exact TbK.nil)⟩ ?_))))))
 clear hE0 hO1 hz1 hX1 hzs1 hE1
 rintro ⟨j,vo,TT⟩ ρ2 w2 ⟨hE2,hL2_0,hp2_0,hTn,hTb⟩
 have hzs2:w.heap.size≤w2.heap.size:=hE2.size
 refine wp_seq (wp_seq (wp_plain _ [0,0,0] rfl (lw_tv 2 rfl ?_)))
 by_cases hc3:((j :Nat):Int)≤((k :Nat):Int)
 ·
  refine q_leq true rfl rfl (decide_eq_true hc3) zN (lw_nil (c_cond_t rfl (wp_skip (wp_seq (wp_block (wp_seq (wp_plain _ [3,0] rfl ?_)))))))
  have hTl:(tbS TT).length = j:=by rw [tbS_len]; exact hTn
  refine r_nil (owL rI 2) o1 u79 ti25 zN fun v4 w4 hX4 hz4 hO4=>?_
  have hzs4:w2.heap.size≤w4.heap.size:=hX4.size
  have hE4:Ext w w4:=hE2.trans hX4
  have hL2_0x4:=hL2_0.ext ((good_owL good_rTb)) hX4
  refine lw_tvn 1 rfl (wp_seq (wp_seq (wp_plain _ [0] rfl (lw_tvn 1 rfl (wp_block (c_loop (S:=Nat × Value) (fun (⟨i,vq⟩:Nat × Value)=>([(8,vq),(9,(.int .i64 ((i :Nat):Int))),(0,va),(1,(.int .i64 ((k :Nat):Int))),(5,(.int .i64 ((ws.length :Nat):Int))),(6,vo),(7,(.int .i64 ((j :Nat):Int)))]:List (Nat × Value))) (fun (⟨i,vq⟩:Nat × Value) (W:World)=>Ext w W∧Fr (owL (owL rI 2) 25) w2.heap.size W.heap.size W.heap vq (List.replicate i (List.replicate (ws.length + 1) 0))∧Fr (owL (rTb 2 25) 79) w.heap.size w2.heap.size W.heap vo TT∧i≤ws.length + 1∧w2.heap.size≤W.heap.size) (fun (⟨i,vq⟩:Nat × Value)=>ws.length + 1 - i) (0,v4) ⟨rfl,rfl,rfl,rfl,rfl,rfl,rfl,trivial⟩ ⟨hE4,hO4.up o2,hL2_0x4,oM,oM⟩ ?_))))))
  clear hL2_0 hO4 hz4 hX4 hzs4 hE4 hL2_0x4
  rintro ⟨i,vq⟩ ρ5 w5 ⟨hE5,hL5_0,hL5_1,hp5_0,hkB6⟩
  have hzs5:w.heap.size≤w5.heap.size:=hE5.size
  refine wp_seq (wp_seq (wp_plain _ [0,0,0] rfl (lw_tv 2 rfl ?_)))
  by_cases hc7:((i :Nat):Int)≤((ws.length :Nat):Int)
  ·
   refine q_leq true rfl rfl (decide_eq_true hc7) zN (lw_nil (c_cond_t rfl (wp_skip (wp_seq (wp_block (wp_plain _ [0,0,0,3,3,4,0] rfl (lw_tv 2 rfl (q_add ((ws.length + 1 :Nat):Int) rfl rfl (w64n oM oM) zN (r_make (n:=ws.length + 1) u25 ti2 rfl rfl rfl sD zN fun v8 w8 hX8 hz8 hO8=>?_)))))))))
   have hzs8:w5.heap.size≤w8.heap.size:=hX8.size
   have hE8:Ext w w8:=hE5.trans hX8
   have hL5_0x8:=hL5_0.ext (o2) hX8
   have hL5_1x8:=hL5_1.ext ((good_owL good_rTb)) hX8
   refine r_one (u:=v8) (B:=w5.heap.size) o1 u79 ti25 rfl rfl hO8 (by first | exact Nat.le_refl _ | omega) zN fun v9 w9 hX9 hz9 hO9=>?_
   have hzs9:w8.heap.size≤w9.heap.size:=hX9.size
   have hE9:Ext w w9:=hE8.trans hX9
   have hL5_0x9:=hL5_0x8.ext (o2) hX9
   have hL5_1x9:=hL5_1x8.ext ((good_owL good_rTb)) hX9
   refine e_appF o1 (v:=vq) (a:=v9) u79 ti25 rfl rfl rfl hL5_0x9 oM hO9 oM oM sD (by unfold maxLen; first | omega | assumption | (simp; done) | (simp; omega)) zN fun v10 w10 F10 hC10 hF10 hO10=>?_
   have hE10:Ext w w10:=hC10.below hE9 (fun c hc=>Nat.le_trans hE2.size (hF10 c hc).1) hE9.size
   have hzs10:w9.heap.size≤w10.heap.size:=hC10.size
   have hF11:=hL5_1x9.chg ((good_owL good_rTb)) hC10 (fun c hc=>by have:=hF10 c hc; omega)
   exact lw_tvn 1 rfl (wp_plain _ [0,0,0] rfl (lw_tv 1 rfl (q_add ((i + 1 :Nat):Int) rfl rfl (w64n oM oM) zN (lw_tvn 1 rfl ⟨((i + 1),v10),_,rfl,⟨rfl,rfl,rfl,rfl,rfl,rfl,rfl,trivial⟩,⟨hE10,(by rw [List.replicate_succ']; exact hO10.up o2),hF11,oM,oM⟩,by first | omega | (dsimp only; omega)⟩))))
  ·
   refine q_leq false rfl rfl (decide_eq_false hc7) zN (lw_nil (c_cond_f rfl (wp_exit (t_exit (t_exit (c_exit_here (wp_seq (wp_plain _ [0,0,3,4,0] rfl ?_))))))))
   have hi9:i = ws.length + 1:=by omega
   refine lw_tv 2 rfl (r_one (E:=rTb 2 25) (B:=w2.heap.size) (U:=w5.heap.size) (y:=(vq,List.replicate i (List.replicate (ws.length + 1) 0))) good_rTb u53 ti79 rfl rfl (tb_of hL5_0) oM zN fun v12 w12 hX12 hz12 hO12=>?_)
   have hzs12:w5.heap.size≤w12.heap.size:=hX12.size
   have hE12:Ext w w12:=hE5.trans hX12
   have hL5_1x12:=hL5_1.ext ((good_owL good_rTb)) hX12
   refine e_appF good_rTb (v:=vo) (a:=v12) u53 ti79 rfl rfl rfl hL5_1x12 oM hO12 oM oM (by simp only [List.length_cons,List.length_nil]; omega) (by simp only [maxLen,List.length_cons,List.length_nil]; omega) zN fun v13 w13 F13 hC13 hF13 hO13=>?_
   have hzs13:w12.heap.size≤w13.heap.size:=hC13.size
   have hE13:Ext w w13:=hC13.below hE12 (fun c hc=>by have:=hF13 _ hc; omega) hE12.size
   refine lw_tvn 1 rfl (wp_seq (wp_plain _ [0] rfl (lw_tvn 1 rfl (wp_block (c_loop (S:=Nat × List (List Int)) (fun (⟨s,L⟩:Nat × List (List Int))=>([(10,(.int .i64 ((s :Nat):Int))),(0,va),(1,(.int .i64 ((k :Nat):Int))),(5,(.int .i64 ((ws.length :Nat):Int))),(6,v13),(7,(.int .i64 ((j :Nat):Int))),(8,vq)]:List (Nat × Value))) (fun (⟨s,L⟩:Nat × List (List Int)) (W:World)=>Ext w W∧Fr (owL (rTb 2 25) 79) w.heap.size w13.heap.size W.heap v13 (TT++[(vq,L)])∧(2≤s∧s≤ws.length + 2)∧LvK ws ws.length j s 0 L) (fun (⟨s,L⟩:Nat × List (List Int))=>ws.length + 1 - s) (2,List.replicate i (List.replicate (ws.length + 1) 0)) ⟨rfl,rfl,rfl,rfl,rfl,rfl,rfl,trivial⟩ ⟨hE13,hO13,oM,(by exact lv_len (by rw [hi9]))⟩ ?_)))))
   clear hE2 hzs2 hL5_1 hL5_0 hE5 hzs5 hO12 hz12 hX12 hzs12 hE12 hL5_1x12 hO13 hF13 hC13
   rintro ⟨s,L⟩ ρ14 w14 ⟨hE14,hL14_0,hp14_0,hLv⟩
   have hzs14:w.heap.size≤w14.heap.size:=hE14.size
   refine wp_seq (wp_seq (wp_plain _ [0,0,0] rfl (lw_tv 2 rfl ?_)))
   by_cases hc15:((s :Nat):Int)≤((ws.length :Nat):Int)
   ·
    refine q_leq true rfl rfl (decide_eq_true hc15) zN (lw_nil (c_cond_t rfl (wp_skip (wp_seq (wp_block (wp_seq (wp_plain _ [0] rfl (lw_tvn 1 rfl (wp_block ?_)))))))))
    refine c_loop (S:=Nat × List (List Int)) (fun (⟨a,L⟩:Nat × List (List Int))=>([(11,(.int .i64 ((a :Nat):Int))),(0,va),(1,(.int .i64 ((k :Nat):Int))),(5,(.int .i64 ((ws.length :Nat):Int))),(6,v13),(7,(.int .i64 ((j :Nat):Int))),(8,vq),(10,(.int .i64 ((s :Nat):Int)))]:List (Nat × Value))) (fun (⟨a,L⟩:Nat × List (List Int)) (W:World)=>Ext w W∧Fr (owL (rTb 2 25) 79) w.heap.size w13.heap.size W.heap v13 (TT++[(vq,L)])∧a + s≤ws.length + 2∧LvK ws ws.length j s a L) (fun (⟨a,L⟩:Nat × List (List Int))=>ws.length + 1 - (a + s)) (0,L) ⟨rfl,rfl,rfl,rfl,rfl,rfl,rfl,rfl,trivial⟩ ⟨hE14,hL14_0,oM,(by exact hLv)⟩ ?_
    clear hL14_0 hE14 hzs14
    rintro ⟨a,L⟩ ρ16 w16 ⟨hE16,hL16_0,hp16_0,hLv⟩
    have hzs16:w.heap.size≤w16.heap.size:=hE16.size
    refine wp_seq (wp_seq (wp_plain _ [0,0,0,0,0] rfl (lw_tv 2 rfl (q_add ((a + s :Nat):Int) rfl rfl (w64n oM oM) zN (lw_tv 1 rfl ?_)))))
    by_cases hc17:((a + s :Nat):Int)≤((ws.length :Nat):Int)
    ·
     refine q_leq true rfl rfl (decide_eq_true hc17) zN (lw_nil (c_cond_t rfl (wp_skip (wp_seq (wp_block (wp_draw _ [0,0,0,1,0,0,0,0,0,0,0,0,0,0,3,0,0,0,0,4] mixed (by kernel_rfl) ?_))))))
     have hLl:=hLv.len
     have hLr:=hLv.row a oM
     have hbb:=lc_bd4 (w:=ws) hw9 j a (a + s - a) oM
     refine lw_tv 2 rfl (q_idx (v:=vq) a u79 ti25 rfl rfl (tb_last hL16_0).isSl rfl sD zN ?_)
     obtain ⟨ur18,hur18,hus18⟩:=tb_row (a:=a) hL16_0 sD
     refine q_load (p:=eptr vq a 1) (.inl rfl) ur18 one25 rfl hur18 zN (lw_tv 2 rfl (q_add ((a + s :Nat):Int) rfl rfl (w64n oM oM) zN (lw_tv 5 rfl (q_add ((a + s :Nat):Int) rfl rfl (w64n oM oM) zN (lw_tv 1 rfl ?_)))))
     refine lw_call 47 [] [] [va,v13,(.int .i64 ((a :Nat):Int)),(.int .i64 ((a + s :Nat):Int)),(.int .i64 ((j :Nat):Int))] rfl rfl cf47 zN (c_spec_l06Split _ _ _ _ _ (a) (a + s) (j) (hws.ext g1 hE16.drew) (tb_rd hL16_0) sD sD sD (by exact hwl) (by exact hw9) (by (have h9:=spT (T:=tbS TT) (a:=a) (s:=s) hTb (by rw [hTl]; exact hLv) oM oM); rw [hTl] at h9; rw [tbS_app]; exact h9)) ?_
     rintro e19 w19 ⟨rfl,hX19⟩
     refine ⟨_,rfl,hX19,?_⟩
     replace hX19:=hX19.of_drew
     have hzs19:w16.heap.size≤w19.heap.size:=hX19.size
     have hE19:Ext w w19:=hE16.trans hX19
     have hL16_0x19:=hL16_0.ext ((good_owL good_rTb)) hX19
     have hur20:=ldH_ext hX19 hur18
     refine lw_tv 1 rfl (q_extract (vs:=[(.int .i64 (((lc ws j a ((a + s) - a)).2 :Nat):Int)),(.int .i64 ((lc ws j a ((a + s) - a)).1))]) (.int .i64 (((lc ws j a ((a + s) - a)).2 :Nat):Int)) rfl rfl zN (q_extract (vs:=[(.int .i64 (((lc ws j a ((a + s) - a)).2 :Nat):Int)),(.int .i64 ((lc ws j a ((a + s) - a)).1))]) (.int .i64 ((lc ws j a ((a + s) - a)).1)) rfl rfl zN (q_idx (v:=ur18) (a + s) u25 ti2 rfl rfl hus18 rfl sD zN ?_)))
     refine e_set3 (vl:=vq) (ur:=ur18) (a:=a) (j:=(a + s)) sz2 rfl rfl oM hL16_0x19 sD hur20 sD zN fun w21 F21 hC21 hz21 hF21 hO21=>?_
     have hzs21:w19.heap.size≤w21.heap.size:=hC21.size
     have hE21:Ext w w21:=hC21.below hE19 (fun c hc=>by have:=hF21 _ hc; omega) hE19.size
     exact lw_nil (wp_plain _ [0,0,0] rfl (lw_tv 1 rfl (q_add ((a + 1 :Nat):Int) rfl rfl (w64n oM oM) zN (lw_tvn 1 rfl ⟨((a + 1),(L.set a ((L.getD a []).set (a + s) ((lc ws j a ((a + s) - a)).1)))),_,rfl,⟨rfl,rfl,rfl,rfl,rfl,rfl,rfl,rfl,trivial⟩,⟨hE21,hO21,oM,(by exact hLv.set oM oM (by rw [Nat.add_sub_cancel_left]))⟩,by first | omega | (dsimp only; omega)⟩))))
    ·
     exact q_leq false rfl rfl (decide_eq_false hc17) zN (lw_nil (c_cond_f rfl (wp_exit (t_exit (t_exit (c_exit_here (wp_plain _ [0,0,0] rfl (lw_tv 1 rfl (q_add ((s + 1 :Nat):Int) rfl rfl (w64n oM oM) zN (lw_tvn 1 rfl ⟨((s + 1),L),_,rfl,⟨rfl,rfl,rfl,rfl,rfl,rfl,rfl,trivial⟩,⟨hE16,hL16_0,oM,(by exact hLv.next oM)⟩,by first | omega | (dsimp only; omega)⟩))))))))))
   ·
    exact q_leq false rfl rfl (decide_eq_false hc15) zN (lw_nil (c_cond_f rfl (wp_exit (t_exit (t_exit (c_exit_here (wp_plain _ [0,0,0] rfl (lw_tv 1 rfl (q_add ((j + 1 :Nat):Int) rfl rfl (w64n oM oM) zN (lw_tvn 1 rfl ⟨((j + 1),v13,(TT++[(vq,L)])),_,rfl,⟨rfl,rfl,rfl,rfl,rfl,trivial⟩,⟨hE14,hL14_0.up (good_owL good_rTb),oM,(by (rw [List.length_append,hTn]; rfl)),(by (rw [tbS_app]; exact TbK.add hTb (by rw [hTl]; exact (hLv.fin oM))))⟩,by first | omega | (dsimp only; omega)⟩))))))))))
 ·
  exact q_leq false rfl rfl (decide_eq_false hc3) zN (lw_nil (c_cond_f rfl (wp_exit (t_exit (t_exit (c_exit_here (wp_seq (wp_plain _ [0,0] rfl (lw_tvn 2 rfl (wp_ret (post_ret [4] rfl vo rfl ⟨_,_,rfl,hE2,(hL2_0.up (good_owL good_rTb)).low oM,(by exact hTb),oM⟩)))))))))))
end Go.Proofs.Ytoacbkmejjhceaa
