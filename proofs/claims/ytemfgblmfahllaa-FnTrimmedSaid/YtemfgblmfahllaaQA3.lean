/- Uo, Iy, Ue, Up, Us: texts of this claim, joined; what the claim does not come to is left out. -/
import Derived.Test.YtemfgblmfahllaaQA2
import Derived.Test.YtemfgblmfahllaaProg
import Derived.Laws.CopyRow
set_option linter.unusedVariables false
set_option linter.unusedSimpArgs false
namespace Go.Proofs.Ytemfgblmfahllaa
open Go Go.RowKit
set_option linter.unusedVariables false
set_option linter.unusedSimpArgs false
set_option maxHeartbeats 4000000
set_option maxRecDepth 100000
attribute [local irreducible] LW
theorem zq29_0 {p:Prop} (h:p:=by rw [hyb]; first | omega | (simp only [List.length_nil,List.length_append,List.length_take,List.length_drop,List.length_set,List.length_cons]; omega)):p:=h
theorem zq29_1 {p:Prop} (h:p:=by unfold maxLen; simp only [List.length_nil,List.length_append,List.length_take,List.length_drop]; omega):p:=h
theorem zq29_2 {p:Prop} (h:p:=by simp only [List.length_nil,List.length_append,List.length_take,List.length_drop]; omega):p:=h
theorem zq29_3 {p:Prop} (h:p:=by simp only [List.map_toArray,List.map_cons,List.map_nil]; rfl):p:=h
theorem zq29_4 {p:Prop} (h:p:=by decide):p:=h
theorem c_spec_l06SpoilList (w:World) (g:Nat) (sv:Value) (cs:List UInt8) (n0:Nat) (va:Value) (l:List Av) (hs:SrQ w.heap g sv cs n0) (hn0:n0 + 1000≤1000000000000000000) (hl:RN [g] (rdS 2 rAv) w.heap va l) (hll:l.length≤400) :
    Calls Try.prog 29 #[.pointer (some ⟨g,0,none⟩),va] w (fun e w'=>∃ (v0:Value) (x0:List Av) (n1:Nat),e = .returned (v0)∧Chg [g] w w'∧SrQ w'.heap g sv cs n1∧(n0≤n1∧n1≤n0 + 1000)∧Fr (owS 2 rAv 75) w.heap.size w'.heap.size w'.heap v0 x0∧(x0.length≤1000)):=by
  refine calls_mk [.pointer (some ⟨g,0,none⟩),va] 89 Try.func29 rfl rfl sM ?_
  have hE0:Chg [g] w w:=Chg.refl [g] w
  have hgl:=hs.lt
  refine wp_seq (wp_plain _ [0] rfl (lw_tvn 1 rfl (wp_seq (wp_plain _ [3,0,4,0] rfl (r_nilS (α:=Av) good_hBv u24 tiS75 zN fun v1 w1 hX1 hz1 hO1=>?_)))))
  have hzs1:w.heap.size≤w1.heap.size:=hX1.size
  have hE1:Chg [g] w w1:=hE0.ext hX1
  have hsx1:=hs.ext hX1
  refine lw_tv 1 rfl (e_appA (v:=v1) (a:=va) (ys:=l) good_hBv flN_b u24 tiS75 rfl zq29_4 rfl rfl hO1 oM (RN.rb (hl.chg (good_rdS good_rAv) hE1)) zq29_2 zq29_1 zN fun v2 w2 F2 hC2 hF2 hO2=>?_)
  have hzs2:w1.heap.size≤w2.heap.size:=hC2.size
  have hE2:Chg [g] w w2:=hE1.fresh hC2 (fun c hc=>by have:=hF2 _ hc; omega)
  have hF3:=hsx1.chg hC2 (fun c hc=>by have:=hF2 _ hc; omega)
  refine lw_tvn 1 rfl (wp_seq (wp_seq (wp_plain _ [0,0,0,0,0,4,0] rfl ?_)))
  have hnl:(([]:List Av)++l).length = l.length:=rfl
  refine lw_tv 1 rfl (q_len (v:=v2) u24 rfl hO2.isSlS zN ?_)
  by_cases hc4:(((([]:List Av)++l).length:Nat):Int) = ((0:Nat):Int)
  ·
    refine q_eql true rfl rfl (decide_eq_true hc4) zN (lw_tvn 4 rfl (c_cond_t rfl (wp_seq (wp_plain _ [0,0,4,0,0,4,0,3,4,0] rfl (lw_tv 2 rfl (lw_callE 25 [] [] [(.pointer (some ⟨g,0,none⟩)),(.int .i64 ((4:Nat):Int))] rfl rfl cf25 zN (cq_spec_l00Src_pick _ g _ _ _ (((4:Nat):Int)) hF3 oM oM oM) ?_))))))
    rintro e5 w5 ⟨x5_0,n5,rfl,hC5,hs5,hb5,hp5_0⟩
    refine ⟨_,rfl,?_⟩
    have hzs5:w2.heap.size≤w5.heap.size:=hC5.size
    have hE5:Chg [g] w w5:=hE2.trans hC5
    have hF6:=hO2.chg ((good_owS good_hBv)) hC5 (fun c hc=>by have:=List.mem_singleton.1 hc; omega)
    have hpf5:=pk_fact hp5_0
    refine q_add (((1:Nat):Int) + x5_0) rfl rfl (w64 sD sD) zN (lw_tv 1 rfl ?_)
    refine lw_callE 25 [] [] [(.pointer (some ⟨g,0,none⟩)),(.int .i64 ((3:Nat):Int))] rfl rfl cf25 zN (cq_spec_l00Src_pick _ g _ _ _ (((3:Nat):Int)) hs5 oM oM oM) ?_
    rintro e7 w7 ⟨x7_0,n7,rfl,hC7,hs7,hb7,hp7_0⟩
    refine ⟨_,rfl,?_⟩
    have hzs7:w5.heap.size≤w7.heap.size:=hC7.size
    have hE7:Chg [g] w w7:=hE5.trans hC7
    have hF8:=hF6.chg ((good_owS good_hBv)) hC7 (fun c hc=>by have:=List.mem_singleton.1 hc; omega)
    have hpf7:=pk_fact hp7_0
    have hbd9:∀ (wq:World),(Instr.build 75 #[(0,(.int .i64 (((1:Nat):Int) + x5_0))),(1,(.int .i64 x7_0))]).run Try.prog wq = .ok (.agg #[(.int .i64 (((1:Nat):Int) + x5_0)),(.int .i64 x7_0)]) wq:=by intro wq; kernel_rfl
    refine q_build (ps:=#[(0,(.int .i64 (((1:Nat):Int) + x5_0))),(1,(.int .i64 x7_0))]) (.agg #[(.int .i64 (((1:Nat):Int) + x5_0)),(.int .i64 x7_0)]) zq29_3 (fun wq=>hbd9  wq) zN (r_oneS (cs:=[(.int .i64 (((1:Nat):Int) + x5_0)),(.int .i64 x7_0)]) (y:=Av.zero) (B:=w7.heap.size) (U:=w7.heap.size) good_hBv u24 tiS75 rfl zq29_4 rfl (hBv_mk oM oM) oM zN fun v10 w10 hX10 hz10 hO10=>?_)
    have hzs10:w7.heap.size≤w10.heap.size:=hX10.size
    have hE10:Chg [g] w w10:=hE7.ext hX10
    have hs7x10:=hs7.ext hX10
    have hF8x10:=hF8.ext ((good_owS good_hBv)) hX10
    refine e_appS (v:=v2) (a:=v10) good_hBv u24 tiS75 rfl zq29_4 rfl rfl hF8x10 oM hO10 oM oM oM (by unfold maxLen; omega) zN fun v11 w11 F11 hC11 hF11 hO11=>?_
    have hzs11:w10.heap.size≤w11.heap.size:=hC11.size
    have hE11:Chg [g] w w11:=hE10.fresh hC11 (fun c hc=>by have:=hF11 _ hc; omega)
    have hF12:=hs7x10.chg hC11 (fun c hc=>by have:=hF11 _ hc; omega)
    refine lw_tvn 1 rfl (wp_ret (t_ret ?_))
    obtain ⟨yb,hyb,hyf⟩:=hBv_out hO11
    exact post_ret [4] rfl v11 rfl ⟨v11,yb,n7,rfl,hE11,hF12,⟨by omega,by omega⟩,((hyf.up (good_owS good_rAv)).low (B':=w.heap.size) oM),zq29_0⟩
  ·
    refine q_eql false rfl rfl (decide_eq_false hc4) zN (lw_tv 2 rfl (lw_callE 26 [] [] [(.pointer (some ⟨g,0,none⟩)),(.int .i64 ((6:Nat):Int))] rfl rfl cf26 (zS (e:=13) rfl rfl rfl) (cq_spec_l00Src_one _ g _ _ _ (((6:Nat):Int)) hF3 oM oM oM) ?_))
    rintro e13 w13 ⟨x13_0,n13,rfl,hC13,hs13,hb13,hp13_0⟩
    refine ⟨_,rfl,?_⟩
    have hzs13:w2.heap.size≤w13.heap.size:=hC13.size
    have hE13:Chg [g] w w13:=hE2.trans hC13
    have hF14:=hO2.chg ((good_owS good_hBv)) hC13 (fun c hc=>by have:=List.mem_singleton.1 hc; omega)
    have hpf13:=pk_one hp13_0 ⟨by decide,by decide⟩
    refine lw_tvn 1 rfl ?_
    cases hb15:x13_0
    ·
      refine c_cond_f (by first | rfl | (show Value.bool _ = _; rw [hb15])) (wp_skip (wp_seq (wp_plain _ [0,0,0,4,0] rfl (lw_tv 2 rfl (q_len (v:=v2) u24 rfl hF14.isSlS zN (lw_callE 25 [] [] [(.pointer (some ⟨g,0,none⟩)),(.int .i64 (((([]:List Av)++l).length:Nat):Int))] rfl rfl cf25 zN (cq_spec_l00Src_pick _ g _ _ _ ((((([]:List Av)++l).length:Nat):Int)) hs13 oM oM oM) ?_))))))
      rintro e16 w16 ⟨x16_0,n16,rfl,hC16,hs16,hb16,hp16_0⟩
      refine ⟨_,rfl,?_⟩
      have hzs16:w13.heap.size≤w16.heap.size:=hC16.size
      have hE16:Chg [g] w w16:=hE13.trans hC16
      have hF17:=hF14.chg ((good_owS good_hBv)) hC16 (fun c hc=>by have:=List.mem_singleton.1 hc; omega)
      have hpf16:=pk_fact hp16_0
      refine lw_tvn 1 rfl (wp_seq (wp_seq (wp_plain _ [0,4] rfl (lw_tv 1 rfl (lw_callE 25 [] [] [(.pointer (some ⟨g,0,none⟩)),(.int .i64 ((6:Nat):Int))] rfl rfl cf25 zN (cq_spec_l00Src_pick _ g _ _ _ (((6:Nat):Int)) hs16 oM oM oM) ?_)))))
      rintro e18 w18 ⟨x18_0,n18,rfl,hC18,hs18,hb18,hp18_0⟩
      refine ⟨_,rfl,?_⟩
      have hzs18:w16.heap.size≤w18.heap.size:=hC18.size
      have hE18:Chg [g] w w18:=hE16.trans hC18
      have hF19:=hF17.chg ((good_owS good_hBv)) hC18 (fun c hc=>by have:=List.mem_singleton.1 hc; omega)
      have hpf18:=pk_fact hp18_0
      refine lw_nil (wp_block (wp_seq (wp_plain _ [0,0] rfl ?_)))
      by_cases hc20:x18_0 = ((0:Nat):Int)
      ·
        refine q_eql true rfl rfl (decide_eq_true hc20) zN (lw_tvn 1 rfl (c_cond_t rfl (wp_draw _ [3,0,0,0,4,0,0,0,0,4,0] mixed (by kernel_rfl) ?_)))
        have hdr21:w18.drew.heap.size = w18.heap.size:=rfl
        refine r_nilS (α:=Av) good_hBv u24 tiS75 zN fun v22 w22 hX22 hz22 hO22=>?_
        replace hX22:=hX22.of_drew
        have hzs22:w18.heap.size≤w22.heap.size:=hX22.size
        have hE22:Chg [g] w w22:=hE18.ext hX22
        have hs18x22:=hs18.ext hX22
        have hF19x22:=hF19.ext ((good_owS good_hBv)) hX22
        refine lw_tv 2 rfl ?_
        have hlt23:(x16_0).toNat≤(([]:List Av)++l).length:=by omega
        refine q_pref (v:=v2) (k:=(x16_0).toNat) u24 tiS75 rfl hF19x22.isSlS (RN.of_frB (S:=[]) hF19x22 (fun b hb=>by cases hb)).capS (i64_nn oM) hlt23 zN (e_appA (v:=v22) (a:=(prefV v2 ((x16_0).toNat))) (ys:=(([]:List Av)++l).take ((x16_0).toNat)) good_hBv flN_b u24 tiS75 rfl zq29_4 rfl rfl hO22 oM (RN.pref good_hBv (RN.of_frB (S:=[]) hF19x22 (fun b hb=>by cases hb)) hlt23) zq29_2 zq29_1 zN fun v24 w24 F24 hC24 hF24 hO24=>?_)
        have hzs24:w22.heap.size≤w24.heap.size:=hC24.size
        have hE24:Chg [g] w w24:=hE22.fresh hC24 (fun c hc=>by have:=hF24 _ hc; omega)
        have hF25:=hs18x22.chg hC24 (fun c hc=>by have:=hF24 _ hc; omega)
        have hF26:=hF19x22.chg ((good_owS good_hBv)) hC24 (fun c hc=>by have:=hF24 _ hc; omega)
        refine lw_tv 2 rfl (q_add (x16_0 + ((1:Nat):Int)) rfl rfl (w64 sD sD) zN ?_)
        have hlt27:(x16_0 + ((1:Nat):Int)).toNat≤(([]:List Av)++l).length:=by omega
        refine q_sufS (v:=v2) (k:=(x16_0 + ((1:Nat):Int)).toNat) u24 tiS75 zq29_4 rfl hF26.isSlS (RN.of_frB (S:=[]) hF26 (fun b hb=>by cases hb)).capS (i64_nn oM) hlt27 zN (e_appA (v:=v24) (a:=(sufS 2 v2 ((x16_0 + ((1:Nat):Int)).toNat))) (ys:=(([]:List Av)++l).drop ((x16_0 + ((1:Nat):Int)).toNat)) good_hBv flN_b u24 tiS75 rfl zq29_4 rfl rfl hO24 oM (rn_sufS good_hBv zq29_4 (RN.of_frB (S:=[]) hF26 (fun b hb=>by cases hb)) hlt27) zq29_2 zq29_1 zN fun v28 w28 F28 hC28 hF28 hO28=>?_)
        have hzs28:w24.heap.size≤w28.heap.size:=hC28.size
        have hE28:Chg [g] w w28:=hE24.fresh hC28 (fun c hc=>by have:=hF28 _ hc; omega)
        have hF29:=hF25.chg hC28 (fun c hc=>by have:=hF28 _ hc; omega)
        refine lw_tvn 1 rfl (wp_seq (wp_plain _ [0,0] rfl (lw_tvn 2 rfl (wp_ret ?_))))
        obtain ⟨yb,hyb,hyf⟩:=hBv_out hO28
        exact post_ret [4] rfl v28 rfl ⟨v28,yb,n18,rfl,hE28,hF29,⟨by omega,by omega⟩,((hyf.up (good_owS good_rAv)).low (B':=w.heap.size) oM),zq29_0⟩
      ·
        refine q_eql false rfl rfl (decide_eq_false hc20) zN (lw_tvn 1 rfl (c_cond_f rfl (wp_seq (wp_plain _ [0,0] rfl ?_))))
        by_cases hc31:x18_0 = ((1:Nat):Int)
        ·
          refine q_eql true rfl rfl (decide_eq_true hc31) zN (lw_tvn 1 rfl (c_cond_t rfl (wp_plain _ [0,0,0,3,4,0,0,4] rfl (lw_tv 3 rfl (r_ints (n:=8) (us:=[(-1),((0:Nat):Int),((1:Nat):Int),((2:Nat):Int),((7:Nat):Int),((8:Nat):Int),((40:Nat):Int),((41:Nat):Int)]) u25 ti2 zq29_3 rfl zq29_4 (by intro x hx; simp only [List.mem_cons,List.not_mem_nil,or_false] at hx; unfold i64; omega) (bs8 u25 ti2 rfl) zN fun v32 w32 hX32 hz32 hO32=>?_)))))
          have hzs32:w18.heap.size≤w32.heap.size:=hX32.size
          have hE32:Chg [g] w w32:=hE18.ext hX32
          have hs18x32:=hs18.ext hX32
          have hF19x32:=hF19.ext ((good_owS good_hBv)) hX32
          refine lw_callE 27 [] [] [(.pointer (some ⟨g,0,none⟩)),v32] rfl rfl cf27 zN (cq_spec_l00Src_among _ g _ _ _ v32 _ hs18x32 oM (fun w9 h9=>(hO32.chg o1 h9 (fun c hc=>by have:=List.mem_singleton.1 hc; omega)).rd1) (by exact ⟨by decide,by decide⟩)) ?_
          rintro e33 w33 ⟨x33_0,n33,rfl,hC33,hs33,hb33,hp33_0⟩
          refine ⟨_,rfl,?_⟩
          have hzs33:w32.heap.size≤w33.heap.size:=hC33.size
          have hE33:Chg [g] w w33:=hE32.trans hC33
          have hF34:=hF19x32.chg ((good_owS good_hBv)) hC33 (fun c hc=>by have:=List.mem_singleton.1 hc; omega)
          have hmi33:=mem_i8 hp33_0.1
          refine q_idx (v:=v2) ((x16_0).toNat) u24 tiS75 rfl rfl hF34.isSlS oM sD zN ?_
          obtain ⟨gb36,ob36,hpb36⟩:=owS.isPtr (k:=(x16_0).toNat) hF34.choose_spec.1 sD
          refine q_fldP (p:=eptr v2 ((x16_0).toNat) 2) (b:=gb36) (o:=ob36) 1 fd75_1 rfl hpb36 zN (e_setCF (v:=v2) (k:=((x16_0).toNat)) (c:=1) good_hBv sz2 rfl rfl ⟨rfl,rfl⟩ hF34 sD zq29_4 (fun h=>hBv_set1 oM h) zN fun w37 F37 hC37 hz37 hF37 hO37=>?_)
          have hzs37:w33.heap.size≤w37.heap.size:=hC37.size
          have hE37:Chg [g] w w37:=hE33.fresh hC37 (fun c hc=>by have:=hF37 _ hc; omega)
          have hF38:=hs33.chg hC37 (fun c hc=>by have:=hF37 _ hc; omega)
          refine lw_nil (wp_seq (wp_plain _ [0,0] rfl (lw_tvn 2 rfl (wp_ret ?_))))
          obtain ⟨yb,hyb,hyf⟩:=hBv_out hO37
          exact post_ret [4] rfl v2 rfl ⟨v2,yb,n33,rfl,hE37,hF38,⟨by omega,by omega⟩,((hyf.up (good_owS good_rAv)).low (B':=w.heap.size) oM),zq29_0⟩
        ·
          refine q_eql false rfl rfl (decide_eq_false hc31) zN (lw_tvn 1 rfl (c_cond_f rfl (wp_seq (wp_plain _ [0,0] rfl ?_))))
          by_cases hc40:x18_0 = ((2:Nat):Int)
          ·
            refine q_eql true rfl rfl (decide_eq_true hc40) zN (lw_tvn 1 rfl (c_cond_t rfl (wp_plain _ [0,0,0,4,0,0,0,4] rfl (lw_tv 3 rfl (lw_callE 25 [] [] [(.pointer (some ⟨g,0,none⟩)),(.int .i64 ((7:Nat):Int))] rfl rfl cf25 zN (cq_spec_l00Src_pick _ g _ _ _ (((7:Nat):Int)) hs18 oM oM oM) ?_)))))
            rintro e41 w41 ⟨x41_0,n41,rfl,hC41,hs41,hb41,hp41_0⟩
            refine ⟨_,rfl,?_⟩
            have hzs41:w18.heap.size≤w41.heap.size:=hC41.size
            have hE41:Chg [g] w w41:=hE18.trans hC41
            have hF42:=hF19.chg ((good_owS good_hBv)) hC41 (fun c hc=>by have:=List.mem_singleton.1 hc; omega)
            have hpf41:=pk_fact hp41_0
            refine q_sub (x41_0 - ((1:Nat):Int)) rfl rfl (w64 sD sD) zN ?_
            refine q_idx (v:=v2) ((x16_0).toNat) u24 tiS75 rfl rfl hF42.isSlS oM sD zN ?_
            obtain ⟨gb43,ob43,hpb43⟩:=owS.isPtr (k:=(x16_0).toNat) hF42.choose_spec.1 sD
            refine q_fldP (p:=eptr v2 ((x16_0).toNat) 2) (b:=gb43) (o:=ob43) 0 fd75_0 rfl hpb43 zN (e_setCF (v:=v2) (k:=((x16_0).toNat)) (c:=0) good_hBv sz2 rfl rfl ⟨rfl,rfl⟩ hF42 sD zq29_4 (fun h=>hBv_set0 oM h) zN fun w44 F44 hC44 hz44 hF44 hO44=>?_)
            have hzs44:w41.heap.size≤w44.heap.size:=hC44.size
            have hE44:Chg [g] w w44:=hE41.fresh hC44 (fun c hc=>by have:=hF44 _ hc; omega)
            have hF45:=hs41.chg hC44 (fun c hc=>by have:=hF44 _ hc; omega)
            refine lw_nil (wp_seq (wp_plain _ [0,0] rfl (lw_tvn 2 rfl (wp_ret ?_))))
            obtain ⟨yb,hyb,hyf⟩:=hBv_out hO44
            exact post_ret [4] rfl v2 rfl ⟨v2,yb,n41,rfl,hE44,hF45,⟨by omega,by omega⟩,((hyf.up (good_owS good_rAv)).low (B':=w.heap.size) oM),zq29_0⟩
          ·
            refine q_eql false rfl rfl (decide_eq_false hc40) zN (lw_tvn 1 rfl (c_cond_f rfl (wp_seq (wp_plain _ [0,0] rfl ?_))))
            by_cases hc46:x18_0 = ((3:Nat):Int)
            ·
              refine q_eql true rfl rfl (decide_eq_true hc46) zN (lw_tvn 1 rfl (c_cond_t rfl (wp_plain _ [0,0,0,4,0,0,0,4] rfl (lw_tv 3 rfl (lw_callE 25 [] [] [(.pointer (some ⟨g,0,none⟩)),(.int .i64 ((4:Nat):Int))] rfl rfl cf25 zN (cq_spec_l00Src_pick _ g _ _ _ (((4:Nat):Int)) hs18 oM oM oM) ?_)))))
              rintro e47 w47 ⟨x47_0,n47,rfl,hC47,hs47,hb47,hp47_0⟩
              refine ⟨_,rfl,?_⟩
              have hzs47:w18.heap.size≤w47.heap.size:=hC47.size
              have hE47:Chg [g] w w47:=hE18.trans hC47
              have hF48:=hF19.chg ((good_owS good_hBv)) hC47 (fun c hc=>by have:=List.mem_singleton.1 hc; omega)
              have hpf47:=pk_fact hp47_0
              refine q_add (((1:Nat):Int) + x47_0) rfl rfl (w64 sD sD) zN ?_
              have hbd49:∀ (wq:World),(Instr.build 75 #[(0,(.int .i64 (((1:Nat):Int) + x47_0)))]).run Try.prog wq = .ok (.agg #[(.int .i64 (((1:Nat):Int) + x47_0)),(.int .i64 0)]) wq:=by intro wq; kernel_rfl
              refine q_build (ps:=#[(0,(.int .i64 (((1:Nat):Int) + x47_0)))]) (.agg #[(.int .i64 (((1:Nat):Int) + x47_0)),(.int .i64 0)]) zq29_3 (fun wq=>hbd49  wq) zN (q_idx (v:=v2) ((x16_0).toNat) u24 tiS75 rfl rfl hF48.isSlS oM sD zN ?_)
              refine e_setS (v:=v2) (cs:=[(.int .i64 (((1:Nat):Int) + x47_0)),(.int .i64 0)]) (n:=Av.zero) (j:=((x16_0).toNat)) (B':=w2.heap.size) (U':=w2.heap.size) good_hBv agg75 rfl rfl hF48 (hBv_mk (B:=w2.heap.size) (U:=w2.heap.size) oM oM) (Nat.le_refl _) oM sD zN fun w50 F50 hC50 hz50 hF50 hO50=>?_
              have hzs50:w47.heap.size≤w50.heap.size:=hC50.size
              have hE50:Chg [g] w w50:=hE47.fresh hC50 (fun c hc=>by have:=hF50 _ hc; omega)
              have hF51:=hs47.chg hC50 (fun c hc=>by have:=hF50 _ hc; omega)
              refine lw_nil (wp_seq (wp_plain _ [0,0] rfl (lw_tvn 2 rfl (wp_ret ?_))))
              obtain ⟨yb,hyb,hyf⟩:=hBv_out hO50
              exact post_ret [4] rfl v2 rfl ⟨v2,yb,n47,rfl,hE50,hF51,⟨by omega,by omega⟩,((hyf.up (good_owS good_rAv)).low (B':=w.heap.size) oM),zq29_0⟩
            ·
              refine q_eql false rfl rfl (decide_eq_false hc46) zN (lw_tvn 1 rfl (c_cond_f rfl (wp_seq (wp_plain _ [0,0] rfl ?_))))
              by_cases hc52:x18_0 = ((4:Nat):Int)
              ·
                refine q_eql true rfl rfl (decide_eq_true hc52) zN (lw_tvn 1 rfl (c_cond_t rfl (wp_block (c_loop (S:=Nat × Value × List Av) (fun (⟨m,vo,xs⟩:Nat × Value × List Av)=>([(5,vo),(0,(.pointer (some ⟨g,0,none⟩)))]:List (Nat × Value))) (fun (⟨m,vo,xs⟩:Nat × Value × List Av) (W:World)=>Chg [g] w W∧Fr (owS 2 hBv 75) w.heap.size W.heap.size W.heap vo xs∧SrQ W.heap g sv cs m∧xs.length≤401∧(n0≤m∧m≤n0 + 12 + 2 * xs.length)) (fun (⟨m,vo,xs⟩:Nat × Value × List Av)=>402 - xs.length) (n18,v2,(([]:List Av)++l)) ⟨rfl,rfl,trivial⟩ ⟨hE18,hF19.up (good_owS good_hBv),hs18,oM,oM⟩ ?_))))
                clear hE0 hO1 hz1 hX1 hzs1 hE1 hO2 hF2 hC2 hzs2 hE2 hF3 hC13 hzs13 hE13 hF14 hC16 hzs16 hE16 hF17 hC18 hzs18 hE18 hF19
                rintro ⟨m,vo,xs⟩ ρ53 w53 ⟨hE53,hL53_0,hL53_1,hp53_0,hml⟩
                have hzs53:w.heap.size≤w53.heap.size:=hE53.size
                refine wp_seq (wp_seq (wp_plain _ [0,0,0,4,0,0] rfl (lw_tv 1 rfl (q_len (v:=vo) u24 rfl hL53_0.isSlS zN (lw_tv 1 rfl (lw_callE 25 [] [] [(.pointer (some ⟨g,0,none⟩)),(.int .i64 ((2:Nat):Int))] rfl rfl cf25 zN (cq_spec_l00Src_pick _ g _ _ _ (((2:Nat):Int)) hL53_1 oM oM oM) ?_))))))
                rintro e54 w54 ⟨x54_0,n54,rfl,hC54,hs54,hb54,hp54_0⟩
                refine ⟨_,rfl,?_⟩
                have hzs54:w53.heap.size≤w54.heap.size:=hC54.size
                have hE54:Chg [g] w w54:=hE53.trans hC54
                have hF55:=hL53_0.chg ((good_owS good_hBv)) hC54 (fun c hc=>by have:=List.mem_singleton.1 hc; omega)
                have hpf54:=pk_fact hp54_0
                refine q_add (((400:Nat):Int) + x54_0) rfl rfl (w64 sD sD) zN ?_
                by_cases hc56:((xs.length:Nat):Int) < ((400:Nat):Int) + x54_0
                ·
                  refine q_lss true rfl rfl (decide_eq_true hc56) zN (lw_nil (c_cond_t rfl (wp_skip (wp_block (wp_plain _ [0,0,3,4,0] rfl (lw_tv 1 rfl ?_))))))
                  have hbd57:∀ (wq:World),(Instr.build 75 #[(0,(.int .i64 ((2:Nat):Int)))]).run Try.prog wq = .ok (.agg #[(.int .i64 ((2:Nat):Int)),(.int .i64 0)]) wq:=by intro wq; kernel_rfl
                  refine q_build (ps:=#[(0,(.int .i64 ((2:Nat):Int)))]) (.agg #[(.int .i64 ((2:Nat):Int)),(.int .i64 0)]) zq29_3 (fun wq=>hbd57  wq) zN (r_oneS (cs:=[(.int .i64 ((2:Nat):Int)),(.int .i64 0)]) (y:=Av.zero) (B:=w54.heap.size) (U:=w54.heap.size) good_hBv u24 tiS75 rfl zq29_4 rfl (hBv_mk oM oM) oM zN fun v58 w58 hX58 hz58 hO58=>?_)
                  have hzs58:w54.heap.size≤w58.heap.size:=hX58.size
                  have hE58:Chg [g] w w58:=hE54.ext hX58
                  have hF55x58:=hF55.ext ((good_owS good_hBv)) hX58
                  have hs54x58:=hs54.ext hX58
                  refine e_appS (v:=vo) (a:=v58) good_hBv u24 tiS75 rfl zq29_4 rfl rfl hF55x58 oM hO58 oM oM oM (by unfold maxLen; omega) zN fun v59 w59 F59 hC59 hF59 hO59=>?_
                  have hzs59:w58.heap.size≤w59.heap.size:=hC59.size
                  have hE59:Chg [g] w w59:=hE58.fresh hC59 (fun c hc=>by have:=hF59 _ hc; omega)
                  have hF60:=hs54x58.chg hC59 (fun c hc=>by have:=hF59 _ hc; omega)
                  exact lw_tvn 1 rfl ⟨(n54,v59,(xs++([Av.zero]))),_,rfl,⟨rfl,rfl,trivial⟩,⟨hE59,hO59.up (good_owS good_hBv),hF60,(by simp only [List.length_append,List.length_singleton]; omega),(by simp only [List.length_append,List.length_singleton]; omega)⟩,by simp only [List.length_append,List.length_singleton]; omega⟩
                ·
                  refine q_lss false rfl rfl (decide_eq_false hc56) zN (lw_nil (c_cond_f rfl (wp_exit (t_exit (t_exit (c_exit_here (wp_seq (wp_plain _ [0,0] rfl (lw_tvn 2 rfl (wp_ret ?_))))))))))
                  obtain ⟨yb,hyb,hyf⟩:=hBv_out hF55
                  exact post_ret [4] rfl vo rfl ⟨vo,yb,n54,rfl,hE54,hs54,⟨by omega,by omega⟩,((hyf.up (good_owS good_rAv)).low (B':=w.heap.size) oM),zq29_0⟩
              ·
                refine q_eql false rfl rfl (decide_eq_false hc52) zN (lw_tvn 1 rfl (c_cond_f rfl (wp_seq (wp_plain _ [0,0] rfl ?_))))
                by_cases hc61:x18_0 = ((5:Nat):Int)
                ·
                  refine q_eql true rfl rfl (decide_eq_true hc61) zN (lw_tvn 1 rfl (c_cond_t rfl (wp_plain _ [0,0,0,0] rfl (lw_tv 2 rfl ?_))))
                  have hlt62:(x16_0).toNat≤(([]:List Av)++l).length:=by omega
                  refine q_pref (v:=v2) (k:=(x16_0).toNat) u24 tiS75 rfl hF19.isSlS (RN.of_frB (S:=[]) hF19 (fun b hb=>by cases hb)).capS (i64_nn oM) hlt62 zN ?_
                  have hO62:=Fr.prefA good_hBv flN_b hF19 hlt62
                  refine lw_tvn 1 rfl (wp_seq (wp_plain _ [0,0] rfl (lw_tvn 2 rfl (wp_ret ?_))))
                  obtain ⟨yb,hyb,hyf⟩:=hBv_out hO62
                  exact post_ret [4] rfl (prefV v2 ((x16_0).toNat)) rfl ⟨(prefV v2 ((x16_0).toNat)),yb,n18,rfl,hE18,hs18,⟨by omega,by omega⟩,((hyf.up (good_owS good_rAv)).low (B':=w.heap.size) oM),zq29_0⟩
                ·
                  refine q_eql false rfl rfl (decide_eq_false hc61) zN (lw_tvn 1 rfl (c_cond_f rfl (wp_skip (wp_seq (wp_plain _ [0,0] rfl (lw_tvn 2 rfl (wp_ret ?_)))))))
                  obtain ⟨yb,hyb,hyf⟩:=hBv_out hF19
                  exact post_ret [4] rfl v2 rfl ⟨v2,yb,n18,rfl,hE18,hs18,⟨by omega,by omega⟩,((hyf.up (good_owS good_rAv)).low (B':=w.heap.size) oM),zq29_0⟩
    ·
      refine c_cond_t (by first | rfl | (show Value.bool _ = _; rw [hb15])) (wp_seq (wp_plain _ [0,0,4,0,0,4,0,3,4,0] rfl (lw_tv 2 rfl (lw_callE 25 [] [] [(.pointer (some ⟨g,0,none⟩)),(.int .i64 ((4:Nat):Int))] rfl rfl cf25 zN (cq_spec_l00Src_pick _ g _ _ _ (((4:Nat):Int)) hs13 oM oM oM) ?_))))
      rintro e63 w63 ⟨x63_0,n63,rfl,hC63,hs63,hb63,hp63_0⟩
      refine ⟨_,rfl,?_⟩
      have hzs63:w13.heap.size≤w63.heap.size:=hC63.size
      have hE63:Chg [g] w w63:=hE13.trans hC63
      have hF64:=hF14.chg ((good_owS good_hBv)) hC63 (fun c hc=>by have:=List.mem_singleton.1 hc; omega)
      have hpf63:=pk_fact hp63_0
      refine q_add (((1:Nat):Int) + x63_0) rfl rfl (w64 sD sD) zN (lw_tv 1 rfl ?_)
      refine lw_callE 25 [] [] [(.pointer (some ⟨g,0,none⟩)),(.int .i64 ((3:Nat):Int))] rfl rfl cf25 zN (cq_spec_l00Src_pick _ g _ _ _ (((3:Nat):Int)) hs63 oM oM oM) ?_
      rintro e65 w65 ⟨x65_0,n65,rfl,hC65,hs65,hb65,hp65_0⟩
      refine ⟨_,rfl,?_⟩
      have hzs65:w63.heap.size≤w65.heap.size:=hC65.size
      have hE65:Chg [g] w w65:=hE63.trans hC65
      have hF66:=hF64.chg ((good_owS good_hBv)) hC65 (fun c hc=>by have:=List.mem_singleton.1 hc; omega)
      have hpf65:=pk_fact hp65_0
      have hbd67:∀ (wq:World),(Instr.build 75 #[(0,(.int .i64 (((1:Nat):Int) + x63_0))),(1,(.int .i64 x65_0))]).run Try.prog wq = .ok (.agg #[(.int .i64 (((1:Nat):Int) + x63_0)),(.int .i64 x65_0)]) wq:=by intro wq; kernel_rfl
      refine q_build (ps:=#[(0,(.int .i64 (((1:Nat):Int) + x63_0))),(1,(.int .i64 x65_0))]) (.agg #[(.int .i64 (((1:Nat):Int) + x63_0)),(.int .i64 x65_0)]) zq29_3 (fun wq=>hbd67  wq) zN (r_oneS (cs:=[(.int .i64 (((1:Nat):Int) + x63_0)),(.int .i64 x65_0)]) (y:=Av.zero) (B:=w65.heap.size) (U:=w65.heap.size) good_hBv u24 tiS75 rfl zq29_4 rfl (hBv_mk oM oM) oM zN fun v68 w68 hX68 hz68 hO68=>?_)
      have hzs68:w65.heap.size≤w68.heap.size:=hX68.size
      have hE68:Chg [g] w w68:=hE65.ext hX68
      have hs65x68:=hs65.ext hX68
      have hF66x68:=hF66.ext ((good_owS good_hBv)) hX68
      refine e_appS (v:=v2) (a:=v68) good_hBv u24 tiS75 rfl zq29_4 rfl rfl hF66x68 oM hO68 oM oM oM (by unfold maxLen; omega) zN fun v69 w69 F69 hC69 hF69 hO69=>?_
      have hzs69:w68.heap.size≤w69.heap.size:=hC69.size
      have hE69:Chg [g] w w69:=hE68.fresh hC69 (fun c hc=>by have:=hF69 _ hc; omega)
      have hF70:=hs65x68.chg hC69 (fun c hc=>by have:=hF69 _ hc; omega)
      refine lw_tvn 1 rfl (wp_ret (t_ret ?_))
      obtain ⟨yb,hyb,hyf⟩:=hBv_out hO69
      exact post_ret [4] rfl v69 rfl ⟨v69,yb,n65,rfl,hE69,hF70,⟨by omega,by omega⟩,((hyf.up (good_owS good_rAv)).low (B':=w.heap.size) oM),zq29_0⟩
theorem zq6_0 {p:Prop} (h:p:=by exact lch_mk (by first | exact sch_all (by assumption) oM | assumption) oM hwb oM):p:=h
theorem c_spec_LawChain (w:World) (vc:Value) (cs:List UInt8) (hcs:Rd (rdL rU) w.heap vc cs) (hcs5:cs.length≤5000) :
    Calls Try.prog 6 #[vc] w (fun e w'=>∃ (v vw:Value) (l:List Av) (ws:List Int) (k:Int),e = .returned (.tuple #[v,vw,.int .i64 k])∧Ext w w'∧Fr (owS 2 rAv 75) w.heap.size w'.heap.size w'.heap v l∧Fr (owL rI 2) w.heap.size w'.heap.size w'.heap vw ws∧LchD l ws k):=by
  refine calls_mk [vc] 64 Try.func6 rfl rfl sM ?_
  have hE0:Ext w w:=Ext.refl w
  have hl_vc:=hcs.lenle
  refine wp_seq (wp_plain _ [0,0,0] rfl (lw_tvn 3 rfl (wp_seq (wp_plain _ [0,3,0] rfl (lw_tv 1 rfl (lw_call 24 [] [] [vc] rfl rfl cf24 zN (cq_spec_l00From _ _ _ (hcs.ext good_u hE0)) ?_))))))
  rintro e1 w1 ⟨gB1,rfl,hX1,hs1,hg1⟩
  refine ⟨_,rfl,hX1,?_⟩
  have hzs1:w.heap.size≤w1.heap.size:=hX1.size
  have hE1:Ext w w1:=hE0.trans hX1
  refine lw_tvn 1 rfl (wp_seq (wp_plain _ [0,4,0] rfl ?_))
  have hgl:=hs1.lt
  refine lw_tv 1 rfl (lw_callE 25 [] [] [(.pointer (some ⟨gB1,0,none⟩)),(.int .i64 ((9:Nat):Int))] rfl rfl cf25 zN (cq_spec_l00Src_pick _ gB1 _ _ _ (((9:Nat):Int)) hs1 oM oM oM) ?_)
  rintro e2 w2 ⟨x2_0,n2,rfl,hC2,hs2,hb2,hp2_0⟩
  refine ⟨_,rfl,?_⟩
  have hzs2:w1.heap.size≤w2.heap.size:=hC2.size
  have hE2:Ext w w2:=hC2.below hE1 (fun c hc=>by have:=List.mem_singleton.1 hc; omega) hE1.size
  have hpf2:=pk_fact hp2_0
  refine lw_tvn 1 rfl (wp_seq (c_cut (S:=Int × Nat) (fun (⟨nn,m3⟩:Int × Nat)=>([(6,(.int .i64 nn)),(5,(.pointer (some ⟨gB1,0,none⟩)))]:List (Nat × Value))) (fun (⟨nn,m3⟩:Int × Nat) (W:World)=>Ext w W∧SrQ W.heap gB1 vc cs m3∧(0≤nn∧nn≤17)∧m3≤10) ?_ ?_))
  ·
    refine wp_seq (wp_plain _ [0,4] rfl (lw_tv 1 rfl (lw_callE 26 [] [] [(.pointer (some ⟨gB1,0,none⟩)),(.int .i64 ((10:Nat):Int))] rfl rfl cf26 zN (cq_spec_l00Src_one _ gB1 _ _ _ (((10:Nat):Int)) hs2 oM oM oM) ?_)))
    rintro e4 w4 ⟨x4_0,n4,rfl,hC4,hs4,hb4,hp4_0⟩
    refine ⟨_,rfl,?_⟩
    have hzs4:w2.heap.size≤w4.heap.size:=hC4.size
    have hE4:Ext w w4:=hC4.below hE2 (fun c hc=>by have:=List.mem_singleton.1 hc; omega) hE2.size
    have hpf4:=pk_one hp4_0 ⟨by decide,by decide⟩
    refine lw_nil ?_
    cases hb5:x4_0
    ·
      exact c_cond_f (by first | rfl | (show Value.bool _ = _; rw [hb5])) (wp_skip ⟨(x2_0,n4),_,rfl,⟨rfl,rfl,trivial⟩,⟨hE4,hs4,oM,oM⟩⟩)
    ·
      refine c_cond_t (by first | rfl | (show Value.bool _ = _; rw [hb5])) (wp_plain _ [0,4,0,0] rfl (lw_tv 1 rfl (lw_callE 25 [] [] [(.pointer (some ⟨gB1,0,none⟩)),(.int .i64 ((8:Nat):Int))] rfl rfl cf25 zN (cq_spec_l00Src_pick _ gB1 _ _ _ (((8:Nat):Int)) hs4 oM oM oM) ?_)))
      rintro e6 w6 ⟨x6_0,n6,rfl,hC6,hs6,hb6,hp6_0⟩
      refine ⟨_,rfl,?_⟩
      have hzs6:w4.heap.size≤w6.heap.size:=hC6.size
      have hE6:Ext w w6:=hC6.below hE4 (fun c hc=>by have:=List.mem_singleton.1 hc; omega) hE4.size
      have hpf6:=pk_fact hp6_0
      refine q_add (((10:Nat):Int) + x6_0) rfl rfl (w64 sD sD) zN (lw_tvn 1 rfl ?_)
      exact ⟨((((10:Nat):Int) + x6_0),n6),_,rfl,⟨rfl,rfl,trivial⟩,⟨hE6,hs6,oM,oM⟩⟩
  ·
    clear hE0 hX1 hzs1 hE1 hC2 hzs2 hE2
    rintro ⟨nn,m3⟩ ρ3 w3 ⟨hE3,hL3_0,hx3,hm3⟩
    have hzs3:w.heap.size≤w3.heap.size:=hE3.size
    have hgl:=hL3_0.lt
    refine wp_seq (wp_plain _ [0,4,0,0] rfl (lw_tv 1 rfl (lw_callE 25 [] [] [(.pointer (some ⟨gB1,0,none⟩)),(.int .i64 ((4:Nat):Int))] rfl rfl cf25 zN (cq_spec_l00Src_pick _ gB1 _ _ _ (((4:Nat):Int)) hL3_0 oM oM oM) ?_)))
    rintro e7 w7 ⟨x7_0,n7,rfl,hC7,hs7,hb7,hp7_0⟩
    refine ⟨_,rfl,?_⟩
    have hzs7:w3.heap.size≤w7.heap.size:=hC7.size
    have hE7:Ext w w7:=hC7.below hE3 (fun c hc=>by have:=List.mem_singleton.1 hc; omega) hE3.size
    have hpf7:=pk_fact hp7_0
    refine q_add (((1:Nat):Int) + x7_0) rfl rfl (w64 sD sD) zN (lw_tvn 1 rfl ?_)
    refine wp_seq (c_cut (S:=Int × Nat) (fun (⟨kk,m6⟩:Int × Nat)=>([(7,(.int .i64 kk)),(5,(.pointer (some ⟨gB1,0,none⟩))),(6,(.int .i64 nn))]:List (Nat × Value))) (fun (⟨kk,m6⟩:Int × Nat) (W:World)=>Ext w W∧SrQ W.heap gB1 vc cs m6∧(0≤kk∧kk≤4)∧m6≤20) ?_ ?_)
    ·
      refine wp_seq (wp_plain _ [0,4] rfl (lw_tv 1 rfl (lw_callE 26 [] [] [(.pointer (some ⟨gB1,0,none⟩)),(.int .i64 ((8:Nat):Int))] rfl rfl cf26 zN (cq_spec_l00Src_one _ gB1 _ _ _ (((8:Nat):Int)) hs7 oM oM oM) ?_)))
      rintro e9 w9 ⟨x9_0,n9,rfl,hC9,hs9,hb9,hp9_0⟩
      refine ⟨_,rfl,?_⟩
      have hzs9:w7.heap.size≤w9.heap.size:=hC9.size
      have hE9:Ext w w9:=hC9.below hE7 (fun c hc=>by have:=List.mem_singleton.1 hc; omega) hE7.size
      have hpf9:=pk_one hp9_0 ⟨by decide,by decide⟩
      refine lw_nil ?_
      cases hb10:x9_0
      ·
        exact c_cond_f (by first | rfl | (show Value.bool _ = _; rw [hb10])) (wp_skip ⟨((((1:Nat):Int) + x7_0),n9),_,rfl,⟨rfl,rfl,rfl,trivial⟩,⟨hE9,hs9,oM,oM⟩⟩)
      ·
        exact c_cond_t (by first | rfl | (show Value.bool _ = _; rw [hb10])) (wp_plain _ [0] rfl (lw_tvn 1 rfl ⟨(((0:Nat):Int),n9),_,rfl,⟨rfl,rfl,rfl,trivial⟩,⟨hE9,hs9,oM,oM⟩⟩))
    ·
      clear hL3_0 hE3 hzs3 hC7 hzs7 hE7
      rintro ⟨kk,m6⟩ ρ8 w8 ⟨hE8,hL8_0,hx6,hm6⟩
      have hzs8:w.heap.size≤w8.heap.size:=hE8.size
      have hgl:=hL8_0.lt
      refine wp_seq (wp_plain _ [3,0] rfl (r_nil (rI) good_rI u25 ti2 zN fun v11 w11 hX11 hz11 hO11=>?_))
      have hzs11:w8.heap.size≤w11.heap.size:=hX11.size
      have hE11:Ext w w11:=hE8.trans hX11
      have hL8_0x11:=hL8_0.ext hX11
      refine lw_tvn 1 rfl (wp_seq (wp_plain _ [0,4,0] rfl (lw_tv 1 rfl (lw_callE 25 [] [] [(.pointer (some ⟨gB1,0,none⟩)),(.int .i64 ((3:Nat):Int))] rfl rfl cf25 zN (cq_spec_l00Src_pick _ gB1 _ _ _ (((3:Nat):Int)) hL8_0x11 oM oM oM) ?_))))
      rintro e12 w12 ⟨x12_0,n12,rfl,hC12,hs12,hb12,hp12_0⟩
      refine ⟨_,rfl,?_⟩
      have hzs12:w11.heap.size≤w12.heap.size:=hC12.size
      have hE12:Ext w w12:=hC12.below hE11 (fun c hc=>by have:=List.mem_singleton.1 hc; omega) hE11.size
      have hF13:=hO11.chg (o1) hC12 (fun c hc=>by have:=List.mem_singleton.1 hc; omega)
      have hpf12:=pk_fact hp12_0
      refine lw_tvn 1 rfl (wp_seq (wp_seq (wp_plain _ [0] rfl (lw_tvn 1 rfl (wp_block ?_)))))
      refine c_loop (S:=Nat × Value × List Int × Nat) (fun (⟨j,vo,ws,m⟩:Nat × Value × List Int × Nat)=>([(8,vo),(10,(.int .i64 ((j:Nat):Int))),(5,(.pointer (some ⟨gB1,0,none⟩))),(6,(.int .i64 nn)),(7,(.int .i64 kk)),(9,(.int .i64 x12_0))]:List (Nat × Value))) (fun (⟨j,vo,ws,m⟩:Nat × Value × List Int × Nat) (W:World)=>Ext w W∧Fr (owL rI 2) w8.heap.size W.heap.size W.heap vo ws∧SrQ W.heap gB1 vc cs m∧((j:Nat):Int)≤nn∧ws.length = j∧(∀ x∈ws,0≤x∧x≤1000)∧m≤40 + 8 * j∧w8.heap.size≤W.heap.size) (fun (⟨j,vo,ws,m⟩:Nat × Value × List Int × Nat)=>nn.toNat - j) (0,v11,([]:List Int),n12) ⟨rfl,rfl,rfl,rfl,rfl,rfl,trivial⟩ ⟨hE12,hF13.up o1,hs12,oM,(by rfl),(by intro x hx; cases hx),oM,oM⟩ ?_
      clear hL8_0 hO11 hz11 hX11 hzs11 hE11 hL8_0x11 hC12 hzs12 hE12 hF13
      rintro ⟨j,vo,ws,m⟩ ρ14 w14 ⟨hE14,hL14_0,hL14_1,hjn,hwl,hwb,hmj,hkB15⟩
      have hzs14:w.heap.size≤w14.heap.size:=hE14.size
      have hgl:=hL14_1.lt
      refine wp_seq (wp_seq (wp_plain _ [0,0,0] rfl (lw_tv 2 rfl ?_)))
      by_cases hc16:((j:Nat):Int) < nn
      ·
        refine q_lss true rfl rfl (decide_eq_true hc16) zN (lw_nil (c_cond_t rfl (wp_skip (wp_seq (wp_block (wp_seq (wp_plain _ [0] rfl (lw_tvn 1 rfl (wp_seq (c_cut (S:=Int × Nat) (fun (⟨x1,m14⟩:Int × Nat)=>([(11,(.int .i64 x1)),(5,(.pointer (some ⟨gB1,0,none⟩))),(6,(.int .i64 nn)),(7,(.int .i64 kk)),(8,vo),(9,(.int .i64 x12_0)),(10,(.int .i64 ((j:Nat):Int)))]:List (Nat × Value))) (fun (⟨x1,m14⟩:Int × Nat) (W:World)=>Ext w W∧SrQ W.heap gB1 vc cs m14∧Fr (owL rI 2) w8.heap.size w14.heap.size W.heap vo ws∧(0≤x1∧x1≤1000)∧m14≤m + 2∧(w8.heap.size≤W.heap.size∧w14.heap.size≤W.heap.size∧gB1 < w8.heap.size)) ?_ ?_))))))))))
        ·
          refine wp_seq (wp_plain _ [0,0] rfl (lw_tv 1 rfl ?_))
          by_cases hc18:x12_0 = ((1:Nat):Int)
          ·
            refine q_eql true rfl rfl (decide_eq_true hc18) zN (lw_nil (c_cond_t rfl (wp_plain _ [0,4,0] rfl (lw_tv 1 rfl (lw_callE 25 [] [] [(.pointer (some ⟨gB1,0,none⟩)),(.int .i64 ((10:Nat):Int))] rfl rfl cf25 zN (cq_spec_l00Src_pick _ gB1 _ _ _ (((10:Nat):Int)) hL14_1 oM oM oM) ?_)))))
            rintro e19 w19 ⟨x19_0,n19,rfl,hC19,hs19,hb19,hp19_0⟩
            refine ⟨_,rfl,?_⟩
            have hzs19:w14.heap.size≤w19.heap.size:=hC19.size
            have hE19:Ext w w19:=hC19.below hE14 (fun c hc=>by have:=List.mem_singleton.1 hc; omega) hE14.size
            have hF20:=hL14_0.chg (o1) hC19 (fun c hc=>by have:=List.mem_singleton.1 hc; omega)
            have hpf19:=pk_fact hp19_0
            exact lw_tvn 1 rfl ⟨(x19_0,n19),_,rfl,⟨rfl,rfl,rfl,rfl,rfl,rfl,rfl,trivial⟩,⟨hE19,hs19,hF20,oM,oM,oM⟩⟩
          ·
            exact q_eql false rfl rfl (decide_eq_false hc18) zN (lw_nil (c_cond_f rfl (wp_skip ⟨(((1:Nat):Int),m),_,rfl,⟨rfl,rfl,rfl,rfl,rfl,rfl,rfl,trivial⟩,⟨hE14,hL14_1,hL14_0,oM,oM,oM⟩⟩)))
        ·
          clear hL14_1 hL14_0
          rintro ⟨x1,m14⟩ ρ17 w17 ⟨hE17,hL17_0,hL17_1,hx14,hm14,hbu14⟩
          have hzs17:w.heap.size≤w17.heap.size:=hE17.size
          have hgl:=hL17_0.lt
          refine wp_seq (c_cut (S:=Int × Nat) (fun (⟨x2,m16⟩:Int × Nat)=>([(11,(.int .i64 x2)),(5,(.pointer (some ⟨gB1,0,none⟩))),(6,(.int .i64 nn)),(7,(.int .i64 kk)),(8,vo),(9,(.int .i64 x12_0)),(10,(.int .i64 ((j:Nat):Int)))]:List (Nat × Value))) (fun (⟨x2,m16⟩:Int × Nat) (W:World)=>Ext w W∧SrQ W.heap gB1 vc cs m16∧Fr (owL rI 2) w8.heap.size w14.heap.size W.heap vo ws∧(0≤x2∧x2≤1000)∧m16≤m + 4∧(w8.heap.size≤W.heap.size∧w14.heap.size≤W.heap.size∧gB1 < w8.heap.size)) ?_ ?_)
          ·
            refine wp_seq (wp_plain _ [0,0] rfl (lw_tv 1 rfl ?_))
            by_cases hc22:x12_0 = ((2:Nat):Int)
            ·
              refine q_eql true rfl rfl (decide_eq_true hc22) zN (lw_nil (c_cond_t rfl (wp_plain _ [0,3,4,0] rfl (lw_tv 1 rfl (r_ints (n:=6) (us:=[((0:Nat):Int),((1:Nat):Int),((3:Nat):Int),((1000:Nat):Int),((100:Nat):Int),((17:Nat):Int)]) u25 ti2 (by simp only [List.map_toArray,List.map_cons,List.map_nil]; rfl) rfl (by decide) (by intro x hx; simp only [List.mem_cons,List.not_mem_nil,or_false] at hx; unfold i64; omega) (bs6 u25 ti2 rfl) zN fun v23 w23 hX23 hz23 hO23=>?_)))))
              have hzs23:w17.heap.size≤w23.heap.size:=hX23.size
              have hE23:Ext w w23:=hE17.trans hX23
              have hL17_0x23:=hL17_0.ext hX23
              have hL17_1x23:=hL17_1.ext (o1) hX23
              refine lw_callE 27 [] [] [(.pointer (some ⟨gB1,0,none⟩)),v23] rfl rfl cf27 zN (cq_spec_l00Src_among _ gB1 _ _ _ v23 _ hL17_0x23 oM (fun w9 h9=>(hO23.chg o1 h9 (fun c hc=>by have:=List.mem_singleton.1 hc; omega)).rd1) (by exact ⟨by decide,by decide⟩)) ?_
              rintro e24 w24 ⟨x24_0,n24,rfl,hC24,hs24,hb24,hp24_0⟩
              refine ⟨_,rfl,?_⟩
              have hzs24:w23.heap.size≤w24.heap.size:=hC24.size
              have hE24:Ext w w24:=hC24.below hE23 (fun c hc=>by have:=List.mem_singleton.1 hc; omega) hE23.size
              have hF25:=hL17_1x23.chg (o1) hC24 (fun c hc=>by have:=List.mem_singleton.1 hc; omega)
              have hmi24:=mem_i6 hp24_0.1
              exact lw_tvn 1 rfl ⟨(x24_0,n24),_,rfl,⟨rfl,rfl,rfl,rfl,rfl,rfl,rfl,trivial⟩,⟨hE24,hs24,hF25,oM,oM,oM⟩⟩
            ·
              exact q_eql false rfl rfl (decide_eq_false hc22) zN (lw_nil (c_cond_f rfl (wp_skip ⟨(x1,m14),_,rfl,⟨rfl,rfl,rfl,rfl,rfl,rfl,rfl,trivial⟩,⟨hE17,hL17_0,hL17_1,oM,oM,oM⟩⟩)))
          ·
            clear hL17_1 hL17_0 hE17 hzs17
            rintro ⟨x2,m16⟩ ρ21 w21 ⟨hE21,hL21_0,hL21_1,hx16,hm16,hbu16⟩
            have hzs21:w.heap.size≤w21.heap.size:=hE21.size
            have hgl:=hL21_0.lt
            refine wp_plain _ [0,0,3,4,0] rfl (lw_tv 2 rfl (r_one (u:=(.int .i64 x2)) (B:=w21.heap.size) good_rI u25 ti2 rfl rfl (frI w21.heap.size w21.heap.size _ _ oM) (Nat.le_refl _) zN fun v27 w27 hX27 hz27 hO27=>?_))
            have hzs27:w21.heap.size≤w27.heap.size:=hX27.size
            have hE27:Ext w w27:=hE21.trans hX27
            have hL21_0x27:=hL21_0.ext hX27
            have hL21_1x27:=hL21_1.ext (o1) hX27
            refine e_appI (v:=vo) (a:=v27) u25 ti2 rfl rfl rfl hL21_1x27 oM hO27.rd1 sD (by unfold maxLen; first | omega | assumption | (simp only [List.length_nil,List.length_cons,List.length_append,List.length_set,List.length_replicate]; omega) | (simp [List.length_nil,List.length_cons,List.length_append,List.length_set,List.length_replicate]; done) | (simp [List.length_nil,List.length_cons,List.length_append,List.length_set,List.length_replicate]; omega)) zN fun v28 w28 F28 hC28 hF28 hO28=>?_
            have hE28:Ext w w28:=hC28.below hE27 (fun c hc=>Nat.le_trans hE8.size (hF28 c hc).1) hE27.size
            have hzs28:w27.heap.size≤w28.heap.size:=hC28.size
            have hF29:=hL21_0x27.chg hC28 (fun c hc=>by have:=hF28 c hc; omega)
            exact lw_tvn 1 rfl (wp_plain _ [0,0,0] rfl (lw_tv 1 rfl (q_add ((j + 1:Nat):Int) rfl rfl (w64n oM oM) zN (lw_tvn 1 rfl ⟨((j + 1),v28,(ws++[x2]),m16),_,rfl,⟨rfl,rfl,rfl,rfl,rfl,rfl,trivial⟩,⟨hE28,hO28.up o1,hF29,oM,(by rw [List.length_append,hwl]; rfl),(by exact all_snoc hwb oM),oM,oM⟩,by first | omega | (dsimp only; omega)⟩))))
      ·
        refine q_lss false rfl rfl (decide_eq_false hc16) zN (lw_nil (c_cond_f rfl (wp_exit (t_exit (t_exit (c_exit_here (wp_seq (wp_plain _ [0,0,0,4,0] rfl ?_))))))))
        generalize hg_nq:nn = nqI at *
        obtain ⟨nq,rfl⟩:∃ n:Nat,nqI = ((n:Nat):Int):=⟨nqI.toNat,by omega⟩
        generalize hg_kq:kk = kqI at *
        obtain ⟨kq,rfl⟩:∃ n:Nat,kqI = ((n:Nat):Int):=⟨kqI.toNat,by omega⟩
        refine lw_tv 3 rfl (lw_callE 28 [] [] [(.pointer (some ⟨gB1,0,none⟩)),(.int .i64 ((nq:Nat):Int)),(.int .i64 ((kq:Nat):Int))] rfl rfl cf28 zN (c_spec_l06DrawList _ gB1 _ _ _ nq kq hL14_1 oM oM oM oM (by exact hcs5)) ?_)
        rintro e31 w31 ⟨v31_0,x31_0,n31,rfl,hC31,hs31,hb31,hO31_0,hp31_0⟩
        refine ⟨_,rfl,?_⟩
        have hzs31:w14.heap.size≤w31.heap.size:=hC31.size
        have hE31:Ext w w31:=hC31.below hE14 (fun c hc=>by have:=List.mem_singleton.1 hc; omega) hE14.size
        have hF32:=hL14_0.chg (o1) hC31 (fun c hc=>by have:=List.mem_singleton.1 hc; omega)
        obtain ⟨hal31,hll31⟩:=hp31_0
        refine lw_tvn 1 rfl (wp_seq (wp_seq (wp_plain _ [0,4] rfl (lw_tv 1 rfl (lw_callE 26 [] [] [(.pointer (some ⟨gB1,0,none⟩)),(.int .i64 ((6:Nat):Int))] rfl rfl cf26 zN (cq_spec_l00Src_one _ gB1 _ _ _ (((6:Nat):Int)) hs31 oM oM oM) ?_)))))
        rintro e33 w33 ⟨x33_0,n33,rfl,hC33,hs33,hb33,hp33_0⟩
        refine ⟨_,rfl,?_⟩
        have hzs33:w31.heap.size≤w33.heap.size:=hC33.size
        have hE33:Ext w w33:=hC33.below hE31 (fun c hc=>by have:=List.mem_singleton.1 hc; omega) hE31.size
        have hF34:=hF32.chg (o1) hC33 (fun c hc=>by have:=List.mem_singleton.1 hc; omega)
        have hF35:=hO31_0.chg ((good_owS good_rAv)) hC33 (fun c hc=>by have:=List.mem_singleton.1 hc; omega)
        refine lw_nil ?_
        cases hb36:x33_0
        ·
          exact c_cond_f (by first | rfl | (show Value.bool _ = _; rw [hb36])) (wp_skip (wp_seq (wp_plain _ [0,0,0,0,0,0] rfl (lw_tvn 6 rfl (wp_ret (post_ret [2,3,4] rfl (.tuple #[v31_0,vo,(.int .i64 ((kq:Nat):Int))]) rfl ⟨v31_0,vo,x31_0,ws,((kq:Nat):Int),rfl,hE33,((hF35.up (good_owS good_rAv)).low (B':=w.heap.size) oM),((hF34.up o1).low (B':=w.heap.size) oM),zq6_0⟩))))))
        ·
          refine c_cond_t (by first | rfl | (show Value.bool _ = _; rw [hb36])) (wp_seq (wp_plain _ [0,0,4,0] rfl (lw_tv 2 rfl (lw_callE 29 [] [] [(.pointer (some ⟨gB1,0,none⟩)),v31_0] rfl rfl cf29 zN (c_spec_l06SpoilList _ gB1 _ _ _ v31_0 x31_0 hs33 oM (RN.of_frA (S:=[gB1]) hF35 (fun b hb=>by have:=List.mem_singleton.1 hb; omega)) oM) ?_))))
          rintro e37 w37 ⟨v37_0,x37_0,n37,rfl,hC37,hs37,hb37,hO37_0,hp37_0⟩
          refine ⟨_,rfl,?_⟩
          have hzs37:w33.heap.size≤w37.heap.size:=hC37.size
          have hE37:Ext w w37:=hC37.below hE33 (fun c hc=>by have:=List.mem_singleton.1 hc; omega) hE33.size
          have hF38:=hF34.chg (o1) hC37 (fun c hc=>by have:=List.mem_singleton.1 hc; omega)
          have hF39:=hF35.chg ((good_owS good_rAv)) hC37 (fun c hc=>by have:=List.mem_singleton.1 hc; omega)
          refine lw_tvn 1 rfl (wp_seq (wp_plain _ [0,3] rfl (lw_tv 1 rfl (lw_call 30 [] [] [v37_0] rfl rfl cf30 zN (c_spec_l06Schedule _ v37_0 x37_0 (RN.of_frA (S:=[]) hO37_0 (fun b hb=>by cases hb)) oM) ?_))))
          rintro e40 w40 ⟨rfl,hX40⟩
          refine ⟨_,rfl,hX40,?_⟩
          have hzs40:w37.heap.size≤w40.heap.size:=hX40.size
          have hE40:Ext w w40:=hE37.trans hX40
          have hF38x40:=hF38.ext (o1) hX40
          have hs37x40:=hs37.ext hX40
          have hF39x40:=hF39.ext ((good_owS good_rAv)) hX40
          have hO37_0x40:=hO37_0.ext ((good_owS good_rAv)) hX40
          refine lw_nil ?_
          cases hb41:(schB x37_0)
          ·
            exact c_cond_f (by first | rfl | (show Value.bool _ = _; rw [hb41])) (wp_skip (wp_seq (wp_plain _ [0,0,0,0,0,0] rfl (lw_tvn 6 rfl (wp_ret (post_ret [2,3,4] rfl (.tuple #[v31_0,vo,(.int .i64 ((kq:Nat):Int))]) rfl ⟨v31_0,vo,x31_0,ws,((kq:Nat):Int),rfl,hE40,((hF39x40.up (good_owS good_rAv)).low (B':=w.heap.size) oM),((hF38x40.up o1).low (B':=w.heap.size) oM),zq6_0⟩))))))
          ·
            exact c_cond_t (by first | rfl | (show Value.bool _ = _; rw [hb41])) (wp_plain _ [0,0] rfl (lw_tvn 2 rfl (wp_seq (wp_plain _ [0,0,0,0,0,0] rfl (lw_tvn 6 rfl (wp_ret (post_ret [2,3,4] rfl (.tuple #[v37_0,vo,(.int .i64 ((kq:Nat):Int))]) rfl ⟨v37_0,vo,x37_0,ws,((kq:Nat):Int),rfl,hE40,((hO37_0x40.up (good_owS good_rAv)).low (B':=w.heap.size) oM),((hF38x40.up o1).low (B':=w.heap.size) oM),zq6_0⟩)))))))
end Go.Proofs.Ytemfgblmfahllaa
namespace Go.Proofs.Ytemfgblmfahllaa
open Go Go.RowKit
set_option linter.unusedVariables false
set_option linter.unusedSimpArgs false
def ivb (B U:Nat):List Nat:=List.range' B (U - B)
theorem mem_ivb {B U b:Nat}:b∈ivb B U↔B≤b∧b < U:=by
  unfold ivb
  rw [List.mem_range'_1]
  omega
def midS (s:Nat) (v:Value) (k n:Nat):Value:=match v with
  | .slice a _ c=>.slice (a.map (·.add (k * s))) (n - k) (c - k)
  | v=>v
theorem add_flat (g o k:Nat):((⟨g,o,none⟩:Addr).add k) = ⟨g,o + k,none⟩:=by
  unfold Addr.add
  split
  · rename_i hh; rw [hh]; rfl
  · rfl
section run
variable {P:Program} {t ty e:TypeId} {z:Value} {b s:Nat} {w:World} {α:Type} {E:StandN α}
theorem run_delA (hE:GoodN s E) (hf:FlN E) (ht:P.underlying t = some (.slice e)) (hi:TI P e s z b) {v:Value} {xs:List α} {B U i j:Nat} (hv:Fr (owS s E e) B U w.heap v xs) (hij:i < j) (hj:j≤xs.length) :
    ∃ w' F,(Builtin.append_ #[t,t] ty #[prefV v i,sufS s v j]).run P w = .ok (prefV v (i + (xs.length - j))) w'∧Fr (owS s E e) B U w'.heap (prefV v (i + (xs.length - j))) (xs.take i++xs.drop j)∧Chg F w w'∧w'.heap.size = w.heap.size∧∀ c∈F,B≤c∧c < U:=by
  obtain ⟨F,hv1,hn,hF⟩:=hv
  obtain ⟨inf,h1,h2,h3,h4⟩:=hi.get
  rcases hv1 with ⟨rfl,rfl,rfl⟩ | ⟨css,gv,capv,curv,F0,hels,rfl,hgv,r1,r2,r3,r4,rfl⟩
  · simp at hj; omega
  · obtain ⟨rfl,hel⟩:=fl_els hf hels
    have hlen:=hels.length
    have hls:=hels.lens hE
    have hfl:=hels.flen hE
    obtain ⟨G1,g1,_⟩:=elsN_take hE i hels
    obtain ⟨G2,g2,_⟩:=elsN_drop hE j hels
    obtain ⟨rfl,k1⟩:=fl_els hf g1
    obtain ⟨rfl,k2⟩:=fl_els hf g2
    have hl1:=g1.flen hE
    have hl2:=g2.flen hE
    have e1:(xs.take i).length = i:=by rw [List.length_take]; omega
    have e2:(xs.drop j).length = xs.length - j:=List.length_drop
    rw [e1] at hl1
    rw [e2] at hl2
    obtain ⟨a',ha',hnews⟩:∃ o':Nat,sufS s (.slice (some ⟨gv,0,none⟩) xs.length capv) j = .slice (some ⟨gv,o',none⟩) (xs.length - j) (capv - j)∧∀ q u,(css.drop j).flatten[q]? = some u→w.cell? ((⟨gv,o',none⟩:Addr).add q) = some u:=by
      by_cases hc:capv = j
      · refine ⟨0,by simp [sufS,hc],fun q u hq=>?_⟩
        have : (css.drop j).flatten = [] := List.eq_nil_of_length_eq_zero (by rw [hl2]; have : xs.length - j = 0 := by omega
                                                                              rw [this,Nat.zero_mul])
        rw [this] at hq; cases hq
      · refine ⟨j * s,by simp [sufS,hc,add_flat],fun q u hq=>?_⟩
        rw [add_flat,cell_cellH]
        simp only [cellH,hgv]
        rw [fl_drop hls,← r4,List.getElem?_drop,List.getElem?_take] at hq
        split at hq
        · simpa using hq
        · cases hq
    have h1c:∀ u∈(css.drop j).flatten,u.oneCell' = true:=fun u hu=>(g2.one hE u hu).2
    have hbnd:i * s + (css.drop j).flatten.length≤curv.size:=by
      rw [hl2,← Nat.add_mul,r3]; exact Nat.mul_le_mul_right s (by omega)
    have hr:=run_append_room (P:=P) w t ty e inf ht h1 gv i capv curv hgv ⟨gv,a',none⟩ (xs.length - j) (capv - j) (css.drop j).flatten (by rw [h3,hl2]) hnews h1c (by omega) (by rw [h3]; exact hbnd)
    rw [h3] at hr
    obtain ⟨new,hnw⟩:∃ new,new = (curv.toList.take (i * s)++(css.drop j).flatten++curv.toList.drop (i * s + (css.drop j).flatten.length)).toArray:=⟨_,rfl⟩
    rw [← hnw] at hr
    refine ⟨w.setRow gv new,[gv],?_,⟨[gv],.inr ⟨css.take i++css.drop j,gv,capv,new,[],(k1 _).append (k2 _),?_,setRow_heap w gv curv new e _ hgv,?_,r2,?_,?_,rfl⟩,hn,hF⟩,⟨rfl,rfl,rfl,by simp,fun k _ hk=>setRow_other w gv k new fun hh=>hk (by simp [hh])⟩,by simp,fun c hc=>hF c hc⟩
    · rw [ha']; exact hr
    · rw [List.length_append,e1,e2]; rfl
    · rw [List.length_append,e1,e2]; omega
    · rw [← r3,hnw]
      simp only [List.size_toArray,List.length_append,List.length_take,List.length_drop,Array.length_toList]
      omega
    · rw [List.length_append,e1,e2,List.flatten_append,hnw]
      have e3:curv.toList.take (i * s) = (css.take i).flatten:=by
        have h6:css.flatten = (css.take i).flatten++(css.drop i).flatten:=by rw [← List.flatten_append,List.take_append_drop]
        have h7:(curv.toList.take (xs.length * s)).take (i * s) = css.flatten.take (i * s):=by rw [r4]
        rw [List.take_take,Nat.min_eq_left (Nat.mul_le_mul_right s (by omega)),h6,← hl1,List.take_left] at h7
        rw [← hl1]; exact h7
      simp only [e3]
      have e4:(i + (xs.length - j)) * s = ((css.take i).flatten++(css.drop j).flatten).length:=by rw [List.length_append,hl1,hl2,Nat.add_mul]
      rw [e4]; exact List.take_left
theorem run_clrA (hE:GoodN s E) (hf:FlN E) (ht:P.underlying t = some (.slice e)) (hi:TI P e s z b) (hzv:∀ w:World,(zeroValue e).run P w = .ok z w) (hz:z.cells.size = s) (hz1:∀ u∈z.cells.toList,u.oneCell' = true) (hs:0 < s) {v:Value} {xs:List α} {B U n c:Nat} (hv:Fr (owS s E e) B U w.heap v xs)
    (hlt:xs.length < n) (hc:∃ a m,v = .slice a m c) (hn:n≤c) (hne:∃ a m c',v = .slice (some a) m c') :
    ∃ w' F,(Builtin.clear_ #[t] ty #[midS s v xs.length n]).run P w = .ok (.tuple #[]) w'∧Fr (owS s E e) B U w'.heap v xs∧Chg F w w'∧w'.heap.size = w.heap.size∧∀ c∈F,B≤c∧c < U:=by
  obtain ⟨F,hv1,hnd,hF⟩:=hv
  obtain ⟨a0,m0,c0,rfl⟩:=hne
  obtain ⟨a1,m1,hc⟩:=hc
  rcases hv1 with ⟨h9,_⟩ | ⟨css,gv,capv,curv,F0,hels,h9,hgv,r1,r2,r3,r4,rfl⟩
  · cases h9
  · injection h9 with q1 q2 q3
    injection hc with p1 p2 p3
    subst q3 p3
    injection q1 with q1
    subst q1 q2
    obtain ⟨rfl,hel⟩:=fl_els hf hels
    have hzs:(Builtin.zeroCells z.cells (n - xs.length)).size = (n - xs.length) * s:=by simp [Builtin.zeroCells,hz]
    have hzo:∀ u∈(Builtin.zeroCells z.cells (n - xs.length)).toList,u.oneCell' = true:=by
      intro u hu
      rw [Array.mem_toList_iff] at hu
      unfold Builtin.zeroCells at hu
      rw [Array.mem_map] at hu
      obtain ⟨k,hk,rfl⟩:=hu
      have hlt9:k % z.cells.size < z.cells.size:=Nat.mod_lt _ (by omega)
      rw [getElem!_pos z.cells _ hlt9]
      exact hz1 _ (by rw [Array.mem_toList_iff]; exact Array.getElem_mem _)
    have hz9:(Builtin.zeroCells z.cells (n - xs.length)).toList.length = (n - xs.length) * s:=(Array.length_toList).trans hzs
    have hst:=run_storeCells_at P gv (xs.length * s) e (Builtin.zeroCells z.cells (n - xs.length)).toList 0 curv w hgv (by
      rw [hz9,Nat.add_zero,← Nat.add_mul,r3]; exact Nat.mul_le_mul_right s (by omega)) hzo
    simp only [Nat.add_zero] at hst
    obtain ⟨new,hnw⟩:∃ new,new = (curv.toList.take (xs.length * s)++(Builtin.zeroCells z.cells (n - xs.length)).toList++curv.toList.drop (xs.length * s + (Builtin.zeroCells z.cells (n - xs.length)).toList.length)).toArray:=⟨_,rfl⟩
    rw [← hnw] at hst
    obtain ⟨m,hm⟩:∃ m,n - xs.length = m + 1:=⟨n - xs.length - 1,by omega⟩
    refine ⟨w.setRow gv new,[gv],?_,⟨[gv],.inr ⟨css,gv,c0,new,[],hel _,rfl,setRow_heap w gv curv new e _ hgv,r1,r2,?_,?_,rfl⟩,hnd,hF⟩,⟨rfl,rfl,rfl,by simp,fun k _ hk=>setRow_other w gv k new fun hh=>hk (by simp [hh])⟩,by simp,fun c hc=>hF c hc⟩
    · unfold midS
      simp only [Option.map_some,add_flat,Nat.zero_add]
      rw [hm] at hst ⊢
      simp only [Builtin.clear_,List.getElem?_toArray,List.getElem?_cons_zero,Sem.run_bind,run_underlying ht,Result.andThen_ok,hzv,hst,Sem.run_pure]
    · rw [← r3,hnw]
      simp only [List.size_toArray,List.length_append,List.length_take,List.length_drop,hz9,show curv.toList.length = curv.size from Array.length_toList]
      have:xs.length * s + (n - xs.length) * s≤curv.size:=by rw [← Nat.add_mul,r3]; exact Nat.mul_le_mul_right s (by omega)
      omega
    · have hle:xs.length * s≤curv.size:=by rw [r3]; exact Nat.mul_le_mul_right s r1
      rw [hnw]
      simp only [List.append_assoc]
      rw [List.take_append_of_le_length (by rw [List.length_take,show curv.toList.length = curv.size from Array.length_toList]; omega),List.take_take,Nat.min_self]
      exact r4
end run
section ops
variable {P:Program} {ops:Array Oper} {w0:World} {Q:Act→World→Prop} {os:List Oper} {ks:List Nat} {N:Nat} {ρ:Nat→Value} {w:World}
  {d:Nat} {ty:TypeId} {pos:String} {aft:Array Edge} {g:Option (Nat × Bool)} {t e:TypeId} {z:Value} {b s:Nat} {α:Type} {E:StandN α}
theorem e_delA (hE:GoodN s E) (hf:FlN E) {x y:Operand} {v:Value} {xs:List α} {B U i j:Nat} (ht:P.underlying t = some (.slice e)) (hi:TI P e s z b) (hx:evF N ρ x = prefV v i) (hy:evF N ρ y = sufS s v j) (hv:Fr (owS s E e) B U w.heap v xs) (hij:i < j) (hj:j≤xs.length)
    (hu:Up ops N ρ ⟨some d,.call ⟨.builtin .append,#[x,y],#[t,t]⟩,ty,pos,aft,g⟩)
    (h:∀ w1 F,Chg F w w1→w1.heap.size = w.heap.size→(∀ c∈F,B≤c∧c < U)→Fr (owS s E e) B U w1.heap (prefV v (i + (xs.length - j))) (xs.take i++xs.drop j)→LW P ops w0 Q os ks (mk N (upd ρ d (prefV v (i + (xs.length - j))))) w1) :
    LW P ops w0 Q (⟨some d,.call ⟨.builtin .append,#[x,y],#[t,t]⟩,ty,pos,aft,g⟩ :: os) (4 :: ks) (mk N ρ) w:=by
  obtain ⟨w1,F,r1,r2,r3,r5,r4⟩:=run_delA (P:=P) (ty:=ty) hE hf ht hi hv hij hj
  exact lw_e rfl hu _ w1 (by simp only [execOp,resolve,invoke,builtin,List.map_toArray,List.map_cons,List.map_nil,Sem.run_bind,Sem.run_pure,Result.andThen_ok,hx,hy,r1]) (h w1 F r3 r5 r4 r2)
theorem lw_v {o:Oper} (hd:o.dst = none) (hu:Up ops N ρ o)
    (v:Value) (w1:World) (hr:(execOp (evF N ρ) o).run P w = .ok (.value v) w1) (h:LW P ops w0 Q os ks (mk N ρ) w1):LW P ops w0 Q (o :: os) (4 :: ks) (mk N ρ) w:=by
  simp only [LW]
  rw [if_pos hu]
  unfold OneOp
  rw [if_neg (by decide),if_neg (by decide)]
  unfold Oper.wp
  rw [mk_eval,hr]
  show LW P ops w0 Q os ks ((mk N ρ).put o.dst v) w1
  rw [hd]
  exact h
theorem e_clrA (hE:GoodN s E) (hf:FlN E) {x:Operand} {v:Value} {xs:List α} {B U n c:Nat} (ht:P.underlying t = some (.slice e)) (hi:TI P e s z b) (hz:z.cells.size = s) (hz1:∀ u∈z.cells.toList,u.oneCell' = true) (hs:0 < s) (hx:evF N ρ x = midS s v xs.length n) (hv:Fr (owS s E e) B U w.heap v xs)
    (hlt:xs.length < n) (hc:∃ a m,v = .slice a m c) (hn:n≤c) (hne:∃ a m c',v = .slice (some a) m c') (hu:Up ops N ρ ⟨none,.call ⟨.builtin .clear,#[x],#[t]⟩,ty,pos,aft,g⟩)
    (h:∀ w1 F,Chg F w w1→w1.heap.size = w.heap.size→(∀ c∈F,B≤c∧c < U)→Fr (owS s E e) B U w1.heap v xs→LW P ops w0 Q os ks (mk N ρ) w1) :
    LW P ops w0 Q (⟨none,.call ⟨.builtin .clear,#[x],#[t]⟩,ty,pos,aft,g⟩ :: os) (4 :: ks) (mk N ρ) w:=by
  obtain ⟨i,h1,h2,h3,h4⟩:=hi.get
  obtain ⟨w1,F,r1,r2,r3,r5,r4⟩:=run_clrA (P:=P) (ty:=ty) hE hf ht hi (fun w=>by simp [zeroValue,typeInfo,h1,h2]) hz hz1 hs hv hlt hc hn hne
  exact lw_v rfl hu (.tuple #[]) w1 (by simp only [execOp,resolve,invoke,builtin,List.map_toArray,List.map_cons,List.map_nil,Sem.run_bind,Sem.run_pure,Result.andThen_ok,hx,r1]) (h w1 F r3 r5 r4 r2)
theorem q_mid {x y1 y2:Operand} {v z:Value} {m k n c b:Nat} (ht:P.underlying t = some (.slice e)) (hi:TI P e s z b) (hx:evF N ρ x = v) (hs:∃ a,v = .slice a m c) (hy1:evF N ρ y1 = .int .i64 (k:Int)) (hy2:evF N ρ y2 = .int .i64 (n:Int)) (hk:k≤n) (hn:n≤c) (hkc:k < c) (hu:Up ops N ρ ⟨some d,.slice t x (some y1) (some y2) none,ty,pos,aft,g⟩)
    (h:LW P ops w0 Q os ks (mk N (upd ρ d (midS s v k n))) w):LW P ops w0 Q (⟨some d,.slice t x (some y1) (some y2) none,ty,pos,aft,g⟩ :: os) (0 :: ks) (mk N ρ) w:=by
  obtain ⟨a,rfl⟩:=hs
  obtain ⟨inf,h1,_,h3,_⟩:=hi.get
  refine lw_q (by decide) rfl hu _ (fun w' _=>?_) h
  have e2:c - k≠0:=by omega
  have e3:¬ c≤k:=by omega
  simp [execOp,hx,hy1,hy2,Instr.sliceAt,Instr.slice,Instr.sliceBounds,Instr.sliceBound,asIntOf,run_underlying ht,sizeOf,typeInfo,h1,h3,midS,hk,hn,e2,e3]
  try (intro h9; omega)
theorem q_sl3 {x y1 y2 y3:Operand} {v z:Value} {m k n c c2 b:Nat} (ht:P.underlying t = some (.slice e)) (hi:TI P e s z b) (hx:evF N ρ x = v) (hs:∃ a,v = .slice a m c) (hy1:evF N ρ y1 = .int .i64 (k:Int)) (hy2:evF N ρ y2 = .int .i64 (n:Int)) (hy3:evF N ρ y3 = .int .i64 (c2:Int)) (hk:k≤n) (hn:n≤c2) (hc:c2≤c) (hu:Up ops N ρ ⟨some d,.slice t x (some y1) (some y2) (some y3),ty,pos,aft,g⟩)
    (h:∀ u,LW P ops w0 Q os ks (mk N (upd ρ d u)) w):LW P ops w0 Q (⟨some d,.slice t x (some y1) (some y2) (some y3),ty,pos,aft,g⟩ :: os) (0 :: ks) (mk N ρ) w:=by
  obtain ⟨a,rfl⟩:=hs
  obtain ⟨inf,h1,_,h3,_⟩:=hi.get
  refine lw_q (by decide) rfl hu (.slice (if c2 = k then a else a.map (·.add (k * s))) (n - k) (c2 - k)) (fun w' _=>?_) (h _)
  simp [execOp,hx,hy1,hy2,hy3,Instr.sliceAt,Instr.slice,Instr.sliceBounds,Instr.sliceBound,asIntOf,run_underlying ht,sizeOf,typeInfo,h1,h3,hk,hn,hc]
end ops
end Go.Proofs.Ytemfgblmfahllaa
namespace Go.Proofs.Ytemfgblmfahllaa
open Go Go.RowKit
set_option linter.unusedVariables false
set_option linter.unusedSimpArgs false
set_option maxHeartbeats 4000000
set_option maxRecDepth 100000
attribute [local irreducible] LW
theorem c_spec_l06Bad (w:World) (va:Value) (l:List Av) (n:Nat) (k:Nat) (hl:RN [] (rdS 2 rAv) w.heap va l) (_hn:n≤1000000000000) (_hk:k≤1000000000000) (hnk:n≤40∧k≤8) (hll:l.length≤400) (havl:∀ i,i < l.length→avK (l.getD i Av.zero)) :
    Calls Try.prog 36 #[va,.int .i64 ((n:Nat):Int),.int .i64 ((k:Nat):Int)] w (fun e w'=>e = .returned (.tuple #[.int .i64 (bdI l n k),.bool (bdB l n k)])∧Ext w w'):=by
  refine calls_mk [va,.int .i64 ((n:Nat):Int),.int .i64 ((k:Nat):Int)] 40 Try.func36 rfl rfl sM ?_
  have hE0:Ext w w:=Ext.refl w
  refine wp_seq (wp_plain _ [0,0] rfl (lw_tvn 2 rfl (wp_seq (wp_plain _ [0,0,3,0] rfl (lw_tv 2 rfl (lw_call 57 [] [] [(.int .i64 ((n:Nat):Int)),(.int .i64 ((k:Nat):Int))] rfl rfl cf57 zN (c_spec_l06Begin _ n k oM oM oM) ?_))))))
  rintro e1 w1 ⟨g,vs,Fs,rfl,hX1,hK,hlow⟩
  refine ⟨_,rfl,hX1,?_⟩
  have hzs1:w.heap.size≤w1.heap.size:=hX1.size
  have hE1:Ext w w1:=hE0.trans hX1
  have hlw9:w.heap.size≤w.heap.size:=hE0.size
  refine lw_tvn 1 rfl (wp_seq (wp_seq (wp_plain _ [0] rfl (lw_tvn 1 rfl (wp_block ?_)))))
  have hK0:=hK
  refine c_loop (S:=Nat × Cn) (fun (⟨i,z⟩:Nat × Cn)=>([(9,(.int .i64 ((i:Nat):Int))),(0,va),(8,(.pointer (some ⟨g,0,none⟩)))]:List (Nat × Value))) (fun (⟨i,z⟩:Nat × Cn) (W:World)=>Ext w W∧i≤l.length∧RnK 2 W.heap g vs Fs z∧CnK ((n:Nat):Int) z∧fbS (l.drop i) z ((i:Nat):Int) = fbS l (bgn ((n:Nat):Int) k) 0) (fun (⟨i,z⟩:Nat × Cn)=>l.length - i) (0,bgn ((n:Nat):Int) k) ⟨rfl,rfl,rfl,trivial⟩ ⟨hE1,oM,(by exact hK0),(by exact bgn_k oM k),(by rfl)⟩ ?_
  clear hE0 hX1 hzs1 hE1
  rintro ⟨i,z⟩ ρ2 w2 ⟨hE2,hp2_0,hKl,hBl,hfl⟩
  have hzs2:w.heap.size≤w2.heap.size:=hE2.size
  refine wp_seq (wp_seq (wp_plain _ [0,0,0,0] rfl (lw_tv 2 rfl (q_len (v:=va) u24 rfl hl.isSl zN ?_))))
  by_cases hc3:((i:Nat):Int) < ((l.length:Nat):Int)
  ·
    refine q_lss true rfl rfl (decide_eq_true hc3) zN (lw_nil (c_cond_t rfl (wp_skip (wp_seq (wp_block (wp_seq (wp_seq (wp_plain _ [0,0,0,0,2,3,0] rfl (lw_tv 3 rfl (q_idx (v:=va) i u24 tiS75 rfl rfl hl.isSl rfl sD zN ?_))))))))))
    obtain ⟨cs4,hr4,hl4⟩:=hl.get good_rAv Av.zero (k:=i) sD
    obtain ⟨rfl,hx4⟩:=rn_av hr4
    refine q_loadA (p:=eptr va i 2) (.inr rfl) [(.int .i64 ((l.getD i Av.zero).kind)),(.int .i64 ((l.getD i Av.zero).arg))] agg75 rfl (fun wq9 hw9=>hl4 wq9 (Chg.of_ext [] (hE2.trans hw9))) rfl zN (lw_call 64 [] [] [(.pointer (some ⟨g,0,none⟩)),(.agg #[(.int .i64 ((l.getD i Av.zero).kind)),(.int .i64 ((l.getD i Av.zero).arg))])] rfl rfl cf64 zN (c_spec_l06Run_possible _ g vs Fs z ((n:Nat):Int) (l.getD i Av.zero) hKl ⟨hx4.1,hx4.2⟩ oM (by exact hBl) (by exact havl i oM)) ?_)
    rintro e5 w5 ⟨rfl,hX5⟩
    refine ⟨_,rfl,hX5,?_⟩
    have hzs5:w2.heap.size≤w5.heap.size:=hX5.size
    have hE5:Ext w w5:=hE2.trans hX5
    have hKx6:=hKl.ext hX5
    refine q_not (!(posA z (l.getD i Av.zero))) rfl rfl zN (lw_nil ?_)
    cases hb7:(!(posA z (l.getD i Av.zero)))
    ·
      refine c_cond_f (by first | rfl | (show Value.bool _ = _; rw [hb7])) (wp_skip (wp_plain _ [0,0,0,0,2,4] rfl (lw_tv 3 rfl (q_idx (v:=va) i u24 tiS75 rfl rfl hl.isSl rfl sD zN (q_loadA (p:=eptr va i 2) (.inr rfl) [(.int .i64 ((l.getD i Av.zero).kind)),(.int .i64 ((l.getD i Av.zero).arg))] agg75 rfl (fun wq9 hw9=>hl4 wq9 (Chg.of_ext [] (hE5.trans hw9))) rfl zN ?_)))))
      refine lw_callE 65 [] [] [(.pointer (some ⟨g,0,none⟩)),(.agg #[(.int .i64 ((l.getD i Av.zero).kind)),(.int .i64 ((l.getD i Av.zero).arg))])] rfl rfl cf65 zN (c_spec_l06Run_act _ g vs Fs z ((n:Nat):Int) (l.getD i Av.zero) hKx6 ⟨hx4.1,hx4.2⟩ oM (by exact hBl) (by exact havl i oM) (by (have h8:(!posA z (l.getD i Av.zero)) = false:=(by assumption)); (have h7:posA z (l.getD i Av.zero) = true:=by simpa using h8); exact h7)) ?_
      rintro e8 w8 ⟨rfl,hC8,hK8⟩
      refine ⟨_,rfl,?_⟩
      have hzs8:w5.heap.size≤w8.heap.size:=hC8.size
      have hE8:Ext w w8:=hC8.below hE5 (fun c hc=>by have:=hlow c hc; omega) hE5.size
      refine lw_nil (wp_plain _ [0,0,0] rfl (lw_tv 1 rfl (q_add ((i + 1:Nat):Int) rfl rfl (w64n oM oM) zN (lw_tvn 1 rfl ?_))))
      have hKe:=hK8
      (have h8:(!posA z (l.getD i Av.zero)) = false:=(by assumption)); (have h7:posA z (l.getD i Av.zero) = true:=by simpa using h8)
      exact ⟨((i + 1),(actA z (l.getD i Av.zero))),_,rfl,⟨rfl,rfl,rfl,trivial⟩,⟨hE8,oM,(by exact hKe),(by exact hBl.act (havl i oM) h7),(by have h9:=(fb_step (l:=l) (i:=i) (c:=z) oM h7 ((i:Nat):Int)).symm; rw [show ((i:Nat):Int) + 1 = ((i + 1:Nat):Int) from by omega] at h9; rw [h9]; exact hfl)⟩,by first | omega | (dsimp only; omega)⟩
    ·
      exact c_cond_t (by first | rfl | (show Value.bool _ = _; rw [hb7])) (wp_seq (wp_plain _ [0,0,0] rfl (lw_tvn 3 rfl (wp_ret (t_ret (b_ret (t_ret (t_ret (b_ret (t_ret (post_ret [6,7] rfl (.tuple #[(.int .i64 ((i:Nat):Int)),(.bool true)]) rfl ⟨(by (have h8:(!posA z (l.getD i Av.zero)) = true:=(by assumption)); (have h7:posA z (l.getD i Av.zero) = false:=by simpa using h8); exact bd_bad hfl oM h7),hE5⟩)))))))))))
  ·
    refine q_lss false rfl rfl (decide_eq_false hc3) zN (lw_nil (c_cond_f rfl (wp_exit (t_exit (t_exit (c_exit_here (wp_seq (wp_draw _ [0,0,0,0,0,1,0,0,0] mixed (by kernel_rfl) (lw_tv 1 rfl (q_len (v:=va) u24 rfl hl.isSl zN (lw_tv 1 rfl (q_nilP ⟨_,_,rfl⟩ rfl zN (q_fldP (p:=(.pointer (some ⟨g,0,none⟩))) (b:=g) (o:=0) 1 fd95_1 rfl rfl zN (q_load (p:=(padd (.pointer (some ⟨g,0,none⟩)) 1)) (.inl rfl) (.int .i64 z.left) one2 rfl ((hKl.bx).ldp (i:=1) sM) zN (q_gtr (decide (((0:Nat):Int) < z.left)) rfl rfl rfl zN (lw_tvn 2 rfl (wp_ret ?_)))))))))))))))))
    exact post_ret [6,7] rfl (.tuple #[(.int .i64 ((l.length:Nat):Int)),(.bool (decide (((0:Nat):Int) < z.left)))]) rfl ⟨(bd_end hfl oM oM),hE2.drew⟩
end Go.Proofs.Ytemfgblmfahllaa
namespace Go.Proofs.Ytemfgblmfahllaa
open Go Go.RowKit
set_option linter.unusedVariables false
set_option linter.unusedSimpArgs false
set_option maxHeartbeats 4000000
set_option maxRecDepth 100000
attribute [local irreducible] LW
theorem c_slices_Delete_av (w:World) (va:Value) (l:List Av) (B U:Nat) (i:Nat) (j:Nat) (hl:Fr (owS 2 rAv 75) B U w.heap va l) (hBU:B≤U∧U≤w.heap.size) (_hi:i≤1000000000000) (_hj:j≤1000000000000) (hij:j = i + 1∧j≤l.length) :
    Calls Try.prog 34 #[va,.int .i64 ((i:Nat):Int),.int .i64 ((j:Nat):Int)] w (fun e w'=>∃ v2:Value,e = .returned v2∧Chg (ivb B U) w w'∧Fr (owS 2 rAv 75) B U w'.heap v2 (l.take i++l.drop j)):=by
  refine calls_mk [va,.int .i64 ((i:Nat):Int),.int .i64 ((j:Nat):Int)] 33 Try.func34 rfl rfl sM ?_
  have hE0:Chg (ivb B U) w w:=Chg.refl (ivb B U) w
  obtain ⟨aV,cV,hV,hn0⟩:=hl.isSlS
  have hcV:l.length≤cV:=by have h9:=(RN.of_frA (S:=[]) hl (fun b hb=>by cases hb)).capS; rw [hV] at h9; exact h9
  obtain ⟨pV,hpV⟩:∃ p,aV = some p:=by cases aV with | none=>have:=hn0 rfl; omega | some p=>exact ⟨p,rfl⟩
  refine wp_seq (wp_plain _ [0] rfl (lw_tvn 1 rfl (wp_seq (wp_plain _ [0,0,0,0,0,0] rfl (lw_tv 4 rfl (q_len (v:=va) u24 rfl hl.isSlS zN (q_sl3 (v:=va) (k:=i) (n:=j) (c2:=l.length) u24 tiS75 rfl ⟨aV,hV⟩ rfl rfl rfl oM oM hcV zN fun uq1=>lw_nil (wp_seq (wp_seq (wp_plain _ [0,0,0] rfl (lw_tv 2 rfl ?_)))))))))))
  have hc2:¬ (((i:Nat):Int) = ((j:Nat):Int)):=oM
  refine q_eql false rfl rfl (decide_eq_false hc2) zN (lw_nil (c_cond_f rfl (wp_skip (wp_seq (wp_plain _ [0,0,0] rfl (lw_tv 1 rfl (q_len (v:=va) u24 rfl hl.isSlS zN (lw_tvn 1 rfl (wp_seq (wp_draw _ [0,0,0,0,0,0,4,0] mixed (by kernel_rfl) (lw_tv 2 rfl (q_pref (v:=va) (k:=i) u24 tiS75 rfl hl.isSlS (RN.of_frA (S:=[]) hl (fun b hb=>by cases hb)).capS rfl oM zN (lw_tv 2 rfl (q_sufS (v:=va) (k:=j) u24 tiS75 (by decide) rfl hl.isSlS (RN.of_frA (S:=[]) hl (fun b hb=>by cases hb)).capS rfl oM zN (e_delA (v:=va) (i:=i) (j:=j) good_rAv flN_r u24 tiS75 rfl rfl hl oM oM zN fun w3 F3 hC3 hz3 hF3 hO3=>?_)))))))))))))))
  replace hC3:=hC3.of_drew
  have hzs3:w.heap.size≤w3.heap.size:=hC3.size
  have hE3:Chg (ivb B U) w w3:=hE0.trans (hC3.sub fun x hx=>mem_ivb.2 (hF3 x hx))
  have hlD:(l.take i++l.drop j).length = (i + (l.length - j)):=by rw [List.length_append,List.length_take,List.length_drop]; omega
  refine lw_tvn 1 rfl (wp_seq (wp_plain _ [0,0,0,0,0,4] rfl (lw_tv 2 rfl (q_len (v:=(prefV va (i + (l.length - j)))) u24 rfl hO3.isSlS zN (lw_tv 1 rfl (q_mid (s:=2) (v:=(prefV va (i + (l.length - j)))) (m:=(i + (l.length - j))) (c:=cV) (k:=(l.take i++l.drop j).length) (n:=l.length) u24 tiS75 rfl ⟨aV,by rw [hV]; rfl⟩ rfl rfl (by rw [hlD]; omega) hcV (by rw [hlD]; omega) zN (e_clrA (s:=2) (v:=(prefV va (i + (l.length - j)))) (n:=l.length) (c:=cV) good_rAv flN_r u24 tiS75 rfl (by intro u hu; replace hu:u∈[Value.int .i64 0,Value.int .i64 0]:=hu; rcases List.mem_cons.1 hu with rfl | hu <;> first | rfl | (rw [List.mem_singleton.1 hu]; rfl)) (by decide) rfl hO3 (by rw [hlD]; omega) ⟨aV,(i + (l.length - j)),by rw [hV]; rfl⟩ hcV ⟨pV,(i + (l.length - j)),cV,by rw [hV,hpV]; rfl⟩ zN fun w4 F4 hC4 hz4 hF4 hO4=>?_)))))))
  have hzs4:w3.heap.size≤w4.heap.size:=hC4.size
  have hE4:Chg (ivb B U) w w4:=hE3.trans (hC4.sub fun x hx=>mem_ivb.2 (hF4 x hx))
  exact lw_nil (wp_seq (wp_plain _ [0,0] rfl (lw_tvn 2 rfl (wp_ret (post_ret [6] rfl (prefV va (i + (l.length - j))) rfl ⟨_,rfl,hE4,hO4⟩)))))
theorem z33_0 {p:Prop} (h:p:=by first | (rw [idl_2 oM (by assumption),← hq]; first | exact (scn_f oM oM).symm | exact (scn_t oM oM).symm | exact (scn_e oM).symm) | (rw [idl_1 oM oM]; first | exact (hdL_e oM).symm | exact (hdL_0 oM).symm) | exact (idl_0 oM (by assumption) (by assumption) (by assumption)).symm):p:=h
theorem z33_1 {p:Prop} (h:p:=by intro u hu; simp only [List.mem_cons,List.not_mem_nil,or_false] at hu; rcases hu with rfl | rfl <;> first | exact ⟨rfl,rfl⟩):p:=h
theorem z33_2 {p:Prop} (h:p:=by rw [← hq]; exact scn_go oM oM oM):p:=h
theorem c_impl_isIdle (w:World) (va:Value) (l:List Av) (i:Nat) (hl:RN [] (rdS 2 rAv) w.heap va l) (_hi:i≤1000000000000) (hi:i < l.length) (hll:l.length≤1000000000) :
    Calls Try.prog 33 #[va,.int .i64 ((i:Nat):Int)] w (fun e w'=>e = .returned (.bool (idlS l i))∧Ext w w'):=by
  refine calls_mk [va,.int .i64 ((i:Nat):Int)] 61 Try.func33 rfl rfl sM ?_
  have hE0:Ext w w:=Ext.refl w
  refine wp_seq (wp_plain _ [0] rfl (lw_tvn 1 rfl (wp_seq (wp_draw _ [0,0,0,1,0,0,0,0,3,4,0] mixed (by kernel_rfl) (lw_tv 2 rfl (q_idx (v:=va) i u24 tiS75 rfl rfl hl.isSl rfl sD zN ?_))))))
  obtain ⟨cs1,hr1,hl1⟩:=hl.get good_rAv Av.zero (k:=i) sD
  obtain ⟨rfl,hx1⟩:=rn_av hr1
  refine q_loadA (p:=eptr va i 2) (.inl rfl) [(.int .i64 ((l.getD i Av.zero).kind)),(.int .i64 ((l.getD i Av.zero).arg))] agg75 rfl (fun wq9 hw9=>hl1 wq9 (Chg.of_ext [] (hE0.drew.trans hw9))) rfl zN (lw_tv 2 rfl (q_add ((i + 1:Nat):Int) rfl rfl (w64n oM sD) zN ?_))
  have hlt2:i + 1≤l.length:=by omega
  have hN2:=rn_sufS good_rAv (by decide) hl hlt2
  have hlN2:(l.drop (i + 1)).length = l.length - (i + 1):=List.length_drop
  refine q_sufS (v:=va) (k:=(i + 1)) u24 tiS75 (by decide) rfl hl.isSl hl.capS rfl hlt2 zN ?_
  have hdr3:w.drew.heap.size = w.heap.size:=rfl
  refine r_allocA (z:=.agg #[.int .i64 0,.int .i64 0]) zr75 zN fun w3 hX3 hz3 hB3=>?_
  replace hX3:=hX3.of_drew
  have hzs3:w.heap.size≤w3.heap.size:=hX3.size
  have hE3:Ext w w3:=hE0.trans hX3
  replace hB3:BX w3.heap w.drew.heap.size [(.int .i64 0),(.int .i64 0)]:=hB3
  refine e_setA (vs:=[(.int .i64 ((l.getD i Av.zero).kind)),(.int .i64 ((l.getD i Av.zero).arg))]) agg75 rfl rfl z33_1 hB3 rfl rfl zN fun w4 hC4 hz4 hB4=>?_
  replace hB4:BX w4.heap w.drew.heap.size [(.int .i64 ((l.getD i Av.zero).kind)),(.int .i64 ((l.getD i Av.zero).arg))]:=hB4
  have hE4:Ext w w4:=hC4.below hE3 (fun c hc=>by have:=List.mem_singleton.1 hc; omega) hE3.size
  have hzs4:w3.heap.size≤w4.heap.size:=hC4.size
  refine lw_tvn 1 rfl (wp_seq (wp_seq (wp_plain _ [0,2] rfl (q_fldP (p:=(.pointer (some ⟨w.drew.heap.size,0,none⟩))) (b:=w.drew.heap.size) (o:=0) 0 fd75_0 rfl rfl zN (q_load (p:=(padd (.pointer (some ⟨w.drew.heap.size,0,none⟩)) 0)) (.inr rfl) (.int .i64 ((l.getD i Av.zero).kind)) one2 rfl (hB4.ldp (i:=0) sM) zN (lw_nil (wp_block (wp_seq (wp_plain _ [0,0] rfl ?_)))))))))
  by_cases hc5:(l.getD i Av.zero).kind = ((2:Nat):Int)
  ·
    refine q_eql true rfl rfl (decide_eq_true hc5) zN (lw_tvn 1 rfl (c_cond_t rfl (wp_seq (wp_seq (wp_plain _ [0,0,0] rfl (lw_tv 1 rfl (q_len (v:=(sufS 2 va (i + 1))) u24 rfl hN2.isSl zN (lw_tvn 1 rfl (wp_block ?_)))))))))
    refine c_loop (S:=Nat) (fun (k:Nat)=>([(23,(.int .i64 ((k:Nat):Int))),(5,(.pointer (some ⟨w.drew.heap.size,0,none⟩))),(21,(sufS 2 va (i + 1))),(22,(.int .i64 (((l.drop (i + 1)).length:Nat):Int)))]:List (Nat × Value))) (fun (k:Nat) (W:World)=>Ext w W∧BX W.heap w.drew.heap.size [(.int .i64 ((l.getD i Av.zero).kind)),(.int .i64 ((l.getD i Av.zero).arg))]∧k≤(l.drop (i + 1)).length∧scnI (l.getD i Av.zero).arg ((l.drop (i + 1)).drop k) = scnI (l.getD i Av.zero).arg (l.drop (i + 1))) (fun (k:Nat)=>(l.drop (i + 1)).length - k) 0 ⟨rfl,rfl,rfl,rfl,trivial⟩ ⟨hE4,hB4,oM,(by rfl)⟩ ?_
    clear hE0 hz3 hX3 hzs3 hE3 hz4 hC4 hE4 hzs4
    rintro k ρ6 w6 ⟨hE6,hL6_0,hp6_0,hq⟩
    have hzs6:w.heap.size≤w6.heap.size:=hE6.size
    have hq7:=hL6_0.lt
    refine wp_seq (wp_plain _ [0] rfl ?_)
    by_cases hc8:((k:Nat):Int) < (((l.drop (i + 1)).length:Nat):Int)
    ·
      refine q_lss true rfl rfl (decide_eq_true hc8) zN (lw_nil (wp_seq (c_cond_t rfl (wp_skip (wp_seq (wp_block (wp_seq (wp_plain _ [0,2,3,4] rfl (q_idx (v:=(sufS 2 va (i + 1))) k u24 tiS75 rfl rfl hN2.isSl rfl sD zN ?_)))))))))
      obtain ⟨cs9,hr9,hl9⟩:=hN2.get good_rAv Av.zero (k:=k) sD
      obtain ⟨rfl,hx9⟩:=rn_av hr9
      refine q_loadA (p:=eptr (sufS 2 va (i + 1)) k 2) (.inr rfl) [(.int .i64 (((l.drop (i + 1)).getD k Av.zero).kind)),(.int .i64 (((l.drop (i + 1)).getD k Av.zero).arg))] agg75 rfl (fun wq9 hw9=>hl9 wq9 (Chg.of_ext [] (hE6.trans hw9))) rfl zN ?_
      have hq11:=hL6_0.lt
      refine r_allocA (z:=.agg #[.int .i64 0,.int .i64 0]) zr75 zN fun w10 hX10 hz10 hB10=>?_
      have hzs10:w6.heap.size≤w10.heap.size:=hX10.size
      have hE10:Ext w w10:=hE6.trans hX10
      have hL6_0x10:=hL6_0.ext hX10
      replace hB10:BX w10.heap w6.heap.size [(.int .i64 0),(.int .i64 0)]:=hB10
      refine e_setA (vs:=[(.int .i64 (((l.drop (i + 1)).getD k Av.zero).kind)),(.int .i64 (((l.drop (i + 1)).getD k Av.zero).arg))]) agg75 rfl rfl z33_1 hB10 rfl rfl zN fun w12 hC12 hz12 hB12=>?_
      replace hB12:BX w12.heap w6.heap.size [(.int .i64 (((l.drop (i + 1)).getD k Av.zero).kind)),(.int .i64 (((l.drop (i + 1)).getD k Av.zero).arg))]:=hB12
      have hE12:Ext w w12:=hC12.below hE10 (fun c hc=>by have:=List.mem_singleton.1 hc; omega) hE10.size
      have hzs12:w10.heap.size≤w12.heap.size:=hC12.size
      have hF13:=hL6_0x10.chg hC12 (fun hm=>by have:=List.mem_singleton.1 hm; omega)
      refine lw_nil (wp_seq (wp_seq (wp_plain _ [0,2,0,2,0,0,0,2,0,0] rfl (q_fldP (p:=(.pointer (some ⟨w6.heap.size,0,none⟩))) (b:=w6.heap.size) (o:=0) 1 fd75_1 rfl rfl zN (q_load (p:=(padd (.pointer (some ⟨w6.heap.size,0,none⟩)) 1)) (.inr rfl) (.int .i64 (((l.drop (i + 1)).getD k Av.zero).arg)) one2 rfl (hB12.ldp (i:=1) sM) zN (q_fldP (p:=(.pointer (some ⟨w.drew.heap.size,0,none⟩))) (b:=w.drew.heap.size) (o:=0) 1 fd75_1 rfl rfl zN (q_load (p:=(padd (.pointer (some ⟨w.drew.heap.size,0,none⟩)) 1)) (.inr rfl) (.int .i64 ((l.getD i Av.zero).arg)) one2 rfl (hF13.ldp (i:=1) sM) zN ?_)))))))
      by_cases hc14:((l.drop (i + 1)).getD k Av.zero).arg = (l.getD i Av.zero).arg
      ·
        refine q_eql true rfl rfl (decide_eq_true hc14) zN (lw_tv 1 rfl (q_fldP (p:=(.pointer (some ⟨w6.heap.size,0,none⟩))) (b:=w6.heap.size) (o:=0) 0 fd75_0 rfl rfl (zS (e:=32) rfl rfl rfl) (q_load (p:=(padd (.pointer (some ⟨w6.heap.size,0,none⟩)) 0)) (.inr rfl) (.int .i64 (((l.drop (i + 1)).getD k Av.zero).kind)) one2 rfl (hB12.ldp (i:=0) sM) (zS (e:=32) rfl rfl rfl) ?_)))
        by_cases hc15:((l.drop (i + 1)).getD k Av.zero).kind = ((3:Nat):Int)
        ·
          exact q_eql true rfl rfl (decide_eq_true hc15) (zS (e:=32) rfl rfl rfl) (lw_tvn 1 rfl (c_cond_t rfl (wp_seq (wp_plain _ [0] rfl (lw_tvn 1 rfl (wp_ret (t_ret (b_ret (t_ret (t_ret (b_ret (t_ret (b_ret (t_ret (post_ret [4] rfl (.bool false) rfl ⟨(ret_bool z33_0),hE12⟩)))))))))))))))
        ·
          refine q_eql false rfl rfl (decide_eq_false hc15) (zS (e:=32) rfl rfl rfl) (lw_tvn 1 rfl (c_cond_f rfl (wp_skip (wp_seq (wp_plain _ [0,2,0,2,0,0,0,2,0,0] rfl (q_fldP (p:=(.pointer (some ⟨w6.heap.size,0,none⟩))) (b:=w6.heap.size) (o:=0) 1 fd75_1 rfl rfl zN (q_load (p:=(padd (.pointer (some ⟨w6.heap.size,0,none⟩)) 1)) (.inr rfl) (.int .i64 (((l.drop (i + 1)).getD k Av.zero).arg)) one2 rfl (hB12.ldp (i:=1) sM) zN (q_fldP (p:=(.pointer (some ⟨w.drew.heap.size,0,none⟩))) (b:=w.drew.heap.size) (o:=0) 1 fd75_1 rfl rfl zN (q_load (p:=(padd (.pointer (some ⟨w.drew.heap.size,0,none⟩)) 1)) (.inr rfl) (.int .i64 ((l.getD i Av.zero).arg)) one2 rfl (hF13.ldp (i:=1) sM) zN ?_)))))))))
          by_cases hc16:((l.drop (i + 1)).getD k Av.zero).arg = (l.getD i Av.zero).arg
          ·
            refine q_eql true rfl rfl (decide_eq_true hc16) zN (lw_tv 1 rfl (q_fldP (p:=(.pointer (some ⟨w6.heap.size,0,none⟩))) (b:=w6.heap.size) (o:=0) 0 fd75_0 rfl rfl (zS (e:=42) rfl rfl rfl) (q_load (p:=(padd (.pointer (some ⟨w6.heap.size,0,none⟩)) 0)) (.inr rfl) (.int .i64 (((l.drop (i + 1)).getD k Av.zero).kind)) one2 rfl (hB12.ldp (i:=0) sM) (zS (e:=42) rfl rfl rfl) ?_)))
            by_cases hc17:((l.drop (i + 1)).getD k Av.zero).kind = ((2:Nat):Int)
            ·
              exact q_eql true rfl rfl (decide_eq_true hc17) (zS (e:=42) rfl rfl rfl) (lw_tvn 1 rfl (c_cond_t rfl (wp_seq (wp_plain _ [0] rfl (lw_tvn 1 rfl (wp_ret (b_ret (t_ret (t_ret (b_ret (t_ret (b_ret (t_ret (post_ret [4] rfl (.bool true) rfl ⟨(ret_bool z33_0),hE12⟩))))))))))))))
            ·
              exact q_eql false rfl rfl (decide_eq_false hc17) (zS (e:=42) rfl rfl rfl) (lw_tvn 1 rfl (c_cond_f rfl (wp_skip (wp_plain _ [0,0] rfl (q_add ((k + 1:Nat):Int) rfl rfl (w64n oM sD) zN (lw_tvn 1 rfl ⟨(k + 1),_,rfl,⟨rfl,rfl,rfl,rfl,trivial⟩,⟨hE12,hF13,oM,z33_2⟩,by first | omega | (dsimp only; omega)⟩))))))
          ·
            exact q_eql false rfl rfl (decide_eq_false hc16) zN (lw_tvn 5 rfl (c_cond_f rfl (wp_skip (wp_plain _ [0,0] rfl (q_add ((k + 1:Nat):Int) rfl rfl (w64n oM sD) zN (lw_tvn 1 rfl ⟨(k + 1),_,rfl,⟨rfl,rfl,rfl,rfl,trivial⟩,⟨hE12,hF13,oM,z33_2⟩,by first | omega | (dsimp only; omega)⟩))))))
      ·
        refine q_eql false rfl rfl (decide_eq_false hc14) zN (lw_tvn 5 rfl (c_cond_f rfl (wp_skip (wp_seq (wp_plain _ [0,2,0,2,0,0,0,2,0,0] rfl (q_fldP (p:=(.pointer (some ⟨w6.heap.size,0,none⟩))) (b:=w6.heap.size) (o:=0) 1 fd75_1 rfl rfl zN (q_load (p:=(padd (.pointer (some ⟨w6.heap.size,0,none⟩)) 1)) (.inr rfl) (.int .i64 (((l.drop (i + 1)).getD k Av.zero).arg)) one2 rfl (hB12.ldp (i:=1) sM) zN (q_fldP (p:=(.pointer (some ⟨w.drew.heap.size,0,none⟩))) (b:=w.drew.heap.size) (o:=0) 1 fd75_1 rfl rfl zN (q_load (p:=(padd (.pointer (some ⟨w.drew.heap.size,0,none⟩)) 1)) (.inr rfl) (.int .i64 ((l.getD i Av.zero).arg)) one2 rfl (hF13.ldp (i:=1) sM) zN ?_)))))))))
        by_cases hc18:((l.drop (i + 1)).getD k Av.zero).arg = (l.getD i Av.zero).arg
        ·
          refine q_eql true rfl rfl (decide_eq_true hc18) zN (lw_tv 1 rfl (q_fldP (p:=(.pointer (some ⟨w6.heap.size,0,none⟩))) (b:=w6.heap.size) (o:=0) 0 fd75_0 rfl rfl (zS (e:=42) rfl rfl rfl) (q_load (p:=(padd (.pointer (some ⟨w6.heap.size,0,none⟩)) 0)) (.inr rfl) (.int .i64 (((l.drop (i + 1)).getD k Av.zero).kind)) one2 rfl (hB12.ldp (i:=0) sM) (zS (e:=42) rfl rfl rfl) ?_)))
          by_cases hc19:((l.drop (i + 1)).getD k Av.zero).kind = ((2:Nat):Int)
          ·
            exact q_eql true rfl rfl (decide_eq_true hc19) (zS (e:=42) rfl rfl rfl) (lw_tvn 1 rfl (c_cond_t rfl (wp_seq (wp_plain _ [0] rfl (lw_tvn 1 rfl (wp_ret (b_ret (t_ret (t_ret (b_ret (t_ret (b_ret (t_ret (post_ret [4] rfl (.bool true) rfl ⟨(ret_bool z33_0),hE12⟩))))))))))))))
          ·
            exact q_eql false rfl rfl (decide_eq_false hc19) (zS (e:=42) rfl rfl rfl) (lw_tvn 1 rfl (c_cond_f rfl (wp_skip (wp_plain _ [0,0] rfl (q_add ((k + 1:Nat):Int) rfl rfl (w64n oM sD) zN (lw_tvn 1 rfl ⟨(k + 1),_,rfl,⟨rfl,rfl,rfl,rfl,trivial⟩,⟨hE12,hF13,oM,z33_2⟩,by first | omega | (dsimp only; omega)⟩))))))
        ·
          exact q_eql false rfl rfl (decide_eq_false hc18) zN (lw_tvn 5 rfl (c_cond_f rfl (wp_skip (wp_plain _ [0,0] rfl (q_add ((k + 1:Nat):Int) rfl rfl (w64n oM sD) zN (lw_tvn 1 rfl ⟨(k + 1),_,rfl,⟨rfl,rfl,rfl,rfl,trivial⟩,⟨hE12,hF13,oM,z33_2⟩,by first | omega | (dsimp only; omega)⟩))))))
    ·
      exact q_lss false rfl rfl (decide_eq_false hc8) zN (lw_nil (wp_seq (c_cond_f rfl (wp_exit (t_exit (t_exit (c_exit_here (wp_seq (wp_plain _ [0] rfl (lw_tvn 1 rfl (wp_ret (b_ret (t_ret (post_ret [4] rfl (.bool true) rfl ⟨(ret_bool z33_0),hE6⟩))))))))))))))
  ·
    refine q_eql false rfl rfl (decide_eq_false hc5) zN (lw_tvn 1 rfl (c_cond_f rfl (wp_seq (wp_seq (wp_plain _ [0,0] rfl ?_)))))
    by_cases hc20:(l.getD i Av.zero).kind = ((1:Nat):Int)
    ·
      refine q_eql true rfl rfl (decide_eq_true hc20) zN (lw_tvn 1 rfl (c_cond_t rfl (wp_skip (c_cond_t rfl (wp_seq (wp_plain _ [0,0,0,0,0,0,0,2,0,0,0] rfl (lw_tv 1 rfl (q_len (v:=(sufS 2 va (i + 1))) u24 rfl hN2.isSl zN ?_))))))))
      by_cases hc21:(((l.drop (i + 1)).length:Nat):Int) = ((0:Nat):Int)
      ·
        exact q_eql true rfl rfl (decide_eq_true hc21) zN (lw_tvn 8 rfl (wp_ret (b_ret (t_ret (post_ret [4] rfl (.bool true) rfl ⟨(ret_bool z33_0),hE4⟩)))))
      ·
        refine q_eql false rfl rfl (decide_eq_false hc21) zN (lw_tv 2 rfl (q_idx (v:=(sufS 2 va (i + 1))) 0 u24 tiS75 rfl rfl hN2.isSl rfl sD (zS (e:=54) rfl rfl rfl) ?_))
        obtain ⟨cs22,hr22,hl22⟩:=hN2.get good_rAv Av.zero (k:=0) sD
        obtain ⟨rfl,hx22⟩:=rn_av hr22
        refine q_fldL (p:=eptr (sufS 2 va (i + 1)) 0 2) 0 fd75_0 rfl (hl22 _ (Chg.of_ext [] hE4)) (zS (e:=54) rfl rfl rfl) (q_load (p:=(padd (eptr (sufS 2 va (i + 1)) 0 2) 0)) (.inr rfl) (.int .i64 (((l.drop (i + 1)).getD 0 Av.zero).kind)) one2 rfl ((hl22 _ (Chg.of_ext [] hE4)).ld (i:=0) (by simp [exC,fnC])) (zS (e:=54) rfl rfl rfl) (q_eql (decide (((l.drop (i + 1)).getD 0 Av.zero).kind = ((3:Nat):Int))) rfl rfl rfl (zS (e:=54) rfl rfl rfl) (lw_tvn 2 rfl (wp_ret (b_ret (t_ret ?_))))))
        exact post_ret [4] rfl (.bool (decide (((l.drop (i + 1)).getD 0 Av.zero).kind = ((3:Nat):Int)))) rfl ⟨(ret_bool z33_0),hE4⟩
    ·
      refine q_eql false rfl rfl (decide_eq_false hc20) zN (lw_tvn 1 rfl (c_cond_f rfl (wp_plain _ [0,0] rfl ?_)))
      by_cases hc23:(l.getD i Av.zero).kind = ((3:Nat):Int)
      ·
        refine q_eql true rfl rfl (decide_eq_true hc23) zN (lw_tvn 1 rfl (c_cond_t rfl (wp_seq (wp_plain _ [0,0,0,0,0,0,0,2,0,0,0] rfl (lw_tv 1 rfl (q_len (v:=(sufS 2 va (i + 1))) u24 rfl hN2.isSl zN ?_))))))
        by_cases hc24:(((l.drop (i + 1)).length:Nat):Int) = ((0:Nat):Int)
        ·
          exact q_eql true rfl rfl (decide_eq_true hc24) zN (lw_tvn 8 rfl (wp_ret (b_ret (t_ret (post_ret [4] rfl (.bool true) rfl ⟨(ret_bool z33_0),hE4⟩)))))
        ·
          refine q_eql false rfl rfl (decide_eq_false hc24) zN (lw_tv 2 rfl (q_idx (v:=(sufS 2 va (i + 1))) 0 u24 tiS75 rfl rfl hN2.isSl rfl sD (zS (e:=54) rfl rfl rfl) ?_))
          obtain ⟨cs25,hr25,hl25⟩:=hN2.get good_rAv Av.zero (k:=0) sD
          obtain ⟨rfl,hx25⟩:=rn_av hr25
          refine q_fldL (p:=eptr (sufS 2 va (i + 1)) 0 2) 0 fd75_0 rfl (hl25 _ (Chg.of_ext [] hE4)) (zS (e:=54) rfl rfl rfl) (q_load (p:=(padd (eptr (sufS 2 va (i + 1)) 0 2) 0)) (.inr rfl) (.int .i64 (((l.drop (i + 1)).getD 0 Av.zero).kind)) one2 rfl ((hl25 _ (Chg.of_ext [] hE4)).ld (i:=0) (by simp [exC,fnC])) (zS (e:=54) rfl rfl rfl) (q_eql (decide (((l.drop (i + 1)).getD 0 Av.zero).kind = ((3:Nat):Int))) rfl rfl rfl (zS (e:=54) rfl rfl rfl) (lw_tvn 2 rfl (wp_ret (b_ret (t_ret ?_))))))
          exact post_ret [4] rfl (.bool (decide (((l.drop (i + 1)).getD 0 Av.zero).kind = ((3:Nat):Int)))) rfl ⟨(ret_bool z33_0),hE4⟩
      ·
        exact q_eql false rfl rfl (decide_eq_false hc23) zN (lw_tvn 1 rfl (c_cond_f rfl (wp_skip (wp_seq (wp_plain _ [0] rfl (lw_tvn 1 rfl (wp_ret (post_ret [4] rfl (.bool false) rfl ⟨(ret_bool z33_0),hE4⟩))))))))
theorem z37_0 {p:Prop} (h:p:=by first | (rw [idl_2 oM (by assumption),← hq]; first | exact (scn_f oM oM).symm | exact (scn_t oM oM).symm | exact (scn_e oM).symm) | (rw [idl_1 oM oM]; first | exact (hdL_e oM).symm | exact (hdL_k oM).symm) | exact (idl_0 oM (by assumption) (by assumption) (by assumption)).symm):p:=h
theorem z37_1 {p:Prop} (h:p:=by rw [← hq]; exact scn_go oM oM oM):p:=h
theorem z37_2 {p:Prop} (h:p:=by simp [exC,fnC]):p:=h
theorem c_spec_l06Idle (w:World) (va:Value) (l:List Av) (i:Nat) (hl:RN [] (rdS 2 rAv) w.heap va l) (_hi:i≤1000000000000) (hi:i < l.length) (hll:l.length≤1000000000) :
    Calls Try.prog 37 #[va,.int .i64 ((i:Nat):Int)] w (fun e w'=>e = .returned (.bool (idlS l i))∧Ext w w'):=by
  refine calls_mk [va,.int .i64 ((i:Nat):Int)] 72 Try.func37 rfl rfl sM ?_
  have hE0:Ext w w:=Ext.refl w
  refine wp_seq (wp_plain _ [0] rfl (lw_tvn 1 rfl (wp_seq (wp_plain _ [0,0,0,2,3,4] rfl (lw_tv 2 rfl (q_idx (v:=va) i u24 tiS75 rfl rfl hl.isSl rfl sD zN ?_))))))
  obtain ⟨cs1,hr1,hl1⟩:=hl.get good_rAv Av.zero (k:=i) sD
  obtain ⟨rfl,hx1⟩:=rn_av hr1
  refine q_loadA (p:=eptr va i 2) (.inr rfl) [(.int .i64 ((l.getD i Av.zero).kind)),(.int .i64 ((l.getD i Av.zero).arg))] agg75 rfl (fun wq9 hw9=>hl1 wq9 (Chg.of_ext [] (hE0.trans hw9))) rfl zN (r_allocA (z:=.agg #[.int .i64 0,.int .i64 0]) zr75 zN fun w2 hX2 hz2 hB2=>?_)
  have hzs2:w.heap.size≤w2.heap.size:=hX2.size
  have hE2:Ext w w2:=hE0.trans hX2
  replace hB2:BX w2.heap w.heap.size [(.int .i64 0),(.int .i64 0)]:=hB2
  refine e_setA (vs:=[(.int .i64 ((l.getD i Av.zero).kind)),(.int .i64 ((l.getD i Av.zero).arg))]) agg75 rfl rfl (by intro u hu; simp only [List.mem_cons,List.not_mem_nil,or_false] at hu; rcases hu with rfl | rfl <;> first | exact ⟨rfl,rfl⟩) hB2 rfl rfl zN fun w3 hC3 hz3 hB3=>?_
  replace hB3:BX w3.heap w.heap.size [(.int .i64 ((l.getD i Av.zero).kind)),(.int .i64 ((l.getD i Av.zero).arg))]:=hB3
  have hE3:Ext w w3:=hC3.below hE2 (fun c hc=>by have:=List.mem_singleton.1 hc; omega) hE2.size
  have hzs3:w2.heap.size≤w3.heap.size:=hC3.size
  refine lw_nil (wp_seq (wp_seq (wp_plain _ [0,2] rfl (q_fldP (p:=(.pointer (some ⟨w.heap.size,0,none⟩))) (b:=w.heap.size) (o:=0) 0 fd75_0 rfl rfl zN (q_load (p:=(padd (.pointer (some ⟨w.heap.size,0,none⟩)) 0)) (.inr rfl) (.int .i64 ((l.getD i Av.zero).kind)) one2 rfl (hB3.ldp (i:=0) sM) zN (lw_nil (wp_block (wp_seq (wp_plain _ [0,0] rfl ?_)))))))))
  by_cases hc4:(l.getD i Av.zero).kind = ((2:Nat):Int)
  ·
    refine q_eql true rfl rfl (decide_eq_true hc4) zN (lw_tvn 1 rfl (c_cond_t rfl (wp_seq (wp_seq (wp_plain _ [0,0,0] rfl (lw_tv 1 rfl (q_add ((i + 1:Nat):Int) rfl rfl (w64n oM sD) zN (lw_tvn 1 rfl (wp_block ?_)))))))))
    refine c_loop (S:=Nat) (fun (k:Nat)=>([(6,(.int .i64 ((k:Nat):Int))),(0,va),(5,(.pointer (some ⟨w.heap.size,0,none⟩)))]:List (Nat × Value))) (fun (k:Nat) (W:World)=>Ext w W∧BX W.heap w.heap.size [(.int .i64 ((l.getD i Av.zero).kind)),(.int .i64 ((l.getD i Av.zero).arg))]∧(i + 1≤k∧k≤l.length)∧scnI (l.getD i Av.zero).arg (l.drop k) = scnI (l.getD i Av.zero).arg (l.drop (i + 1))) (fun (k:Nat)=>l.length - k) (i + 1) ⟨rfl,rfl,rfl,trivial⟩ ⟨hE3,hB3,oM,(by rfl)⟩ ?_
    clear hE0 hz2 hX2 hzs2 hE2 hz3 hC3 hE3 hzs3
    rintro k ρ5 w5 ⟨hE5,hL5_0,hp5_0,hq⟩
    have hzs5:w.heap.size≤w5.heap.size:=hE5.size
    have hq6:=hL5_0.lt
    refine wp_seq (wp_seq (wp_plain _ [0,0,0,0] rfl (lw_tv 2 rfl (q_len (v:=va) u24 rfl hl.isSl zN ?_))))
    by_cases hc7:((k:Nat):Int) < ((l.length:Nat):Int)
    ·
      refine q_lss true rfl rfl (decide_eq_true hc7) zN (lw_nil (c_cond_t rfl (wp_skip (wp_seq (wp_block (wp_seq (wp_seq (wp_draw _ [0,0,0,0,1,0,1,0,0,0,0,0,0,1,0,0] mixed (by kernel_rfl) (lw_tv 2 rfl (q_idx (v:=va) k u24 tiS75 rfl rfl hl.isSl rfl sD zN ?_))))))))))
      obtain ⟨cs8,hr8,hl8⟩:=hl.get good_rAv Av.zero (k:=k) sD
      obtain ⟨rfl,hx8⟩:=rn_av hr8
      refine q_fldL (p:=eptr va k 2) 1 fd75_1 rfl (hl8 _ (Chg.of_ext [] hE5.drew)) zN (q_load (p:=(padd (eptr va k 2) 1)) (.inl rfl) (.int .i64 ((l.getD k Av.zero).arg)) one2 rfl ((hl8 _ (Chg.of_ext [] hE5.drew)).ld (i:=1) z37_2) zN (q_fldP (p:=(.pointer (some ⟨w.heap.size,0,none⟩))) (b:=w.heap.size) (o:=0) 1 fd75_1 rfl rfl zN (q_load (p:=(padd (.pointer (some ⟨w.heap.size,0,none⟩)) 1)) (.inl rfl) (.int .i64 ((l.getD i Av.zero).arg)) one2 rfl (hL5_0.ldp (i:=1) sM) zN ?_)))
      by_cases hc9:(l.getD k Av.zero).arg = (l.getD i Av.zero).arg
      ·
        refine q_eql true rfl rfl (decide_eq_true hc9) zN (lw_tv 3 rfl (q_idx (v:=va) k u24 tiS75 rfl rfl hl.isSl rfl sD (zS (e:=31) rfl rfl rfl) (q_fldL (p:=eptr va k 2) 0 fd75_0 rfl (hl8 _ (Chg.of_ext [] hE5.drew)) (zS (e:=31) rfl rfl rfl) (q_load (p:=(padd (eptr va k 2) 0)) (.inl rfl) (.int .i64 ((l.getD k Av.zero).kind)) one2 rfl ((hl8 _ (Chg.of_ext [] hE5.drew)).ld (i:=0) z37_2) (zS (e:=31) rfl rfl rfl) ?_))))
        by_cases hc10:(l.getD k Av.zero).kind = ((3:Nat):Int)
        ·
          exact q_eql true rfl rfl (decide_eq_true hc10) (zS (e:=31) rfl rfl rfl) (lw_tvn 1 rfl (c_cond_t rfl (wp_seq (wp_plain _ [0] rfl (lw_tvn 1 rfl (wp_ret (t_ret (b_ret (t_ret (t_ret (b_ret (t_ret (b_ret (t_ret (post_ret [4] rfl (.bool false) rfl ⟨(ret_bool z37_0),hE5.drew⟩)))))))))))))))
        ·
          refine q_eql false rfl rfl (decide_eq_false hc10) (zS (e:=31) rfl rfl rfl) (lw_tvn 1 rfl (c_cond_f rfl (wp_skip (wp_seq (wp_draw _ [0,0,0,0,1,0,1,0,0,0,0,0,0,1,0,0] mixed (by kernel_rfl) (lw_tv 2 rfl (q_idx (v:=va) k u24 tiS75 rfl rfl hl.isSl rfl sD zN (q_fldL (p:=eptr va k 2) 1 fd75_1 rfl (hl8 _ (Chg.of_ext [] hE5.drew.drew)) zN ?_))))))))
          refine q_load (p:=(padd (eptr va k 2) 1)) (.inl rfl) (.int .i64 ((l.getD k Av.zero).arg)) one2 rfl ((hl8 _ (Chg.of_ext [] hE5.drew.drew)).ld (i:=1) z37_2) zN (q_fldP (p:=(.pointer (some ⟨w.heap.size,0,none⟩))) (b:=w.heap.size) (o:=0) 1 fd75_1 rfl rfl zN (q_load (p:=(padd (.pointer (some ⟨w.heap.size,0,none⟩)) 1)) (.inl rfl) (.int .i64 ((l.getD i Av.zero).arg)) one2 rfl (hL5_0.ldp (i:=1) sM) zN ?_))
          by_cases hc11:(l.getD k Av.zero).arg = (l.getD i Av.zero).arg
          ·
            refine q_eql true rfl rfl (decide_eq_true hc11) zN (lw_tv 3 rfl (q_idx (v:=va) k u24 tiS75 rfl rfl hl.isSl rfl sD (zS (e:=47) rfl rfl rfl) (q_fldL (p:=eptr va k 2) 0 fd75_0 rfl (hl8 _ (Chg.of_ext [] hE5.drew.drew)) (zS (e:=47) rfl rfl rfl) (q_load (p:=(padd (eptr va k 2) 0)) (.inl rfl) (.int .i64 ((l.getD k Av.zero).kind)) one2 rfl ((hl8 _ (Chg.of_ext [] hE5.drew.drew)).ld (i:=0) z37_2) (zS (e:=47) rfl rfl rfl) ?_))))
            by_cases hc12:(l.getD k Av.zero).kind = ((2:Nat):Int)
            ·
              exact q_eql true rfl rfl (decide_eq_true hc12) (zS (e:=47) rfl rfl rfl) (lw_tvn 1 rfl (c_cond_t rfl (wp_seq (wp_plain _ [0] rfl (lw_tvn 1 rfl (wp_ret (b_ret (t_ret (t_ret (b_ret (t_ret (b_ret (t_ret (post_ret [4] rfl (.bool true) rfl ⟨(ret_bool z37_0),hE5.drew.drew⟩))))))))))))))
            ·
              exact q_eql false rfl rfl (decide_eq_false hc12) (zS (e:=47) rfl rfl rfl) (lw_tvn 1 rfl (c_cond_f rfl (wp_skip (wp_plain _ [0,0,0] rfl (lw_tv 1 rfl (q_add ((k + 1:Nat):Int) rfl rfl (w64n oM oM) zN (lw_tvn 1 rfl ⟨(k + 1),_,rfl,⟨rfl,rfl,rfl,trivial⟩,⟨hE5.drew.drew,hL5_0,oM,z37_1⟩,by first | omega | (dsimp only; omega)⟩)))))))
          ·
            exact q_eql false rfl rfl (decide_eq_false hc11) zN (lw_tvn 8 rfl (c_cond_f rfl (wp_skip (wp_plain _ [0,0,0] rfl (lw_tv 1 rfl (q_add ((k + 1:Nat):Int) rfl rfl (w64n oM oM) zN (lw_tvn 1 rfl ⟨(k + 1),_,rfl,⟨rfl,rfl,rfl,trivial⟩,⟨hE5.drew.drew,hL5_0,oM,z37_1⟩,by first | omega | (dsimp only; omega)⟩)))))))
      ·
        refine q_eql false rfl rfl (decide_eq_false hc9) zN (lw_tvn 8 rfl (c_cond_f rfl (wp_skip (wp_seq (wp_draw _ [0,0,0,0,1,0,1,0,0,0,0,0,0,1,0,0] mixed (by kernel_rfl) (lw_tv 2 rfl (q_idx (v:=va) k u24 tiS75 rfl rfl hl.isSl rfl sD zN (q_fldL (p:=eptr va k 2) 1 fd75_1 rfl (hl8 _ (Chg.of_ext [] hE5.drew.drew)) zN ?_))))))))
        refine q_load (p:=(padd (eptr va k 2) 1)) (.inl rfl) (.int .i64 ((l.getD k Av.zero).arg)) one2 rfl ((hl8 _ (Chg.of_ext [] hE5.drew.drew)).ld (i:=1) z37_2) zN (q_fldP (p:=(.pointer (some ⟨w.heap.size,0,none⟩))) (b:=w.heap.size) (o:=0) 1 fd75_1 rfl rfl zN (q_load (p:=(padd (.pointer (some ⟨w.heap.size,0,none⟩)) 1)) (.inl rfl) (.int .i64 ((l.getD i Av.zero).arg)) one2 rfl (hL5_0.ldp (i:=1) sM) zN ?_))
        by_cases hc13:(l.getD k Av.zero).arg = (l.getD i Av.zero).arg
        ·
          refine q_eql true rfl rfl (decide_eq_true hc13) zN (lw_tv 3 rfl (q_idx (v:=va) k u24 tiS75 rfl rfl hl.isSl rfl sD (zS (e:=47) rfl rfl rfl) (q_fldL (p:=eptr va k 2) 0 fd75_0 rfl (hl8 _ (Chg.of_ext [] hE5.drew.drew)) (zS (e:=47) rfl rfl rfl) (q_load (p:=(padd (eptr va k 2) 0)) (.inl rfl) (.int .i64 ((l.getD k Av.zero).kind)) one2 rfl ((hl8 _ (Chg.of_ext [] hE5.drew.drew)).ld (i:=0) z37_2) (zS (e:=47) rfl rfl rfl) ?_))))
          by_cases hc14:(l.getD k Av.zero).kind = ((2:Nat):Int)
          ·
            exact q_eql true rfl rfl (decide_eq_true hc14) (zS (e:=47) rfl rfl rfl) (lw_tvn 1 rfl (c_cond_t rfl (wp_seq (wp_plain _ [0] rfl (lw_tvn 1 rfl (wp_ret (b_ret (t_ret (t_ret (b_ret (t_ret (b_ret (t_ret (post_ret [4] rfl (.bool true) rfl ⟨(ret_bool z37_0),hE5.drew.drew⟩))))))))))))))
          ·
            exact q_eql false rfl rfl (decide_eq_false hc14) (zS (e:=47) rfl rfl rfl) (lw_tvn 1 rfl (c_cond_f rfl (wp_skip (wp_plain _ [0,0,0] rfl (lw_tv 1 rfl (q_add ((k + 1:Nat):Int) rfl rfl (w64n oM oM) zN (lw_tvn 1 rfl ⟨(k + 1),_,rfl,⟨rfl,rfl,rfl,trivial⟩,⟨hE5.drew.drew,hL5_0,oM,z37_1⟩,by first | omega | (dsimp only; omega)⟩)))))))
        ·
          exact q_eql false rfl rfl (decide_eq_false hc13) zN (lw_tvn 8 rfl (c_cond_f rfl (wp_skip (wp_plain _ [0,0,0] rfl (lw_tv 1 rfl (q_add ((k + 1:Nat):Int) rfl rfl (w64n oM oM) zN (lw_tvn 1 rfl ⟨(k + 1),_,rfl,⟨rfl,rfl,rfl,trivial⟩,⟨hE5.drew.drew,hL5_0,oM,z37_1⟩,by first | omega | (dsimp only; omega)⟩)))))))
    ·
      exact q_lss false rfl rfl (decide_eq_false hc7) zN (lw_nil (c_cond_f rfl (wp_exit (t_exit (t_exit (c_exit_here (wp_seq (wp_plain _ [0] rfl (lw_tvn 1 rfl (wp_ret (b_ret (t_ret (post_ret [4] rfl (.bool true) rfl ⟨(ret_bool z37_0),hE5⟩)))))))))))))
  ·
    refine q_eql false rfl rfl (decide_eq_false hc4) zN (lw_tvn 1 rfl (c_cond_f rfl (wp_seq (wp_seq (wp_plain _ [0,0] rfl ?_)))))
    by_cases hc15:(l.getD i Av.zero).kind = ((1:Nat):Int)
    ·
      refine q_eql true rfl rfl (decide_eq_true hc15) zN (lw_tvn 1 rfl (c_cond_t rfl (wp_skip (c_cond_t rfl (wp_seq (wp_plain _ [0,0,0,0,0,0,0,0,0,0,0,2,0,0,0] rfl (lw_tv 2 rfl (q_len (v:=va) u24 rfl hl.isSl zN ?_))))))))
      refine q_sub (((l.length:Nat):Int) - ((1:Nat):Int)) rfl rfl (w64 sD sD) zN ?_
      by_cases hc16:((i:Nat):Int) = ((l.length:Nat):Int) - ((1:Nat):Int)
      ·
        exact q_eql true rfl rfl (decide_eq_true hc16) zN (lw_tvn 10 rfl (wp_ret (b_ret (t_ret (post_ret [4] rfl (.bool true) rfl ⟨(ret_bool z37_0),hE3⟩)))))
      ·
        refine q_eql false rfl rfl (decide_eq_false hc16) zN (lw_tv 3 rfl (q_add ((i + 1:Nat):Int) rfl rfl (w64n oM sD) (zS (e:=63) rfl rfl rfl) ?_))
        refine q_idx (v:=va) (i + 1) u24 tiS75 rfl rfl hl.isSl rfl sD (zS (e:=63) rfl rfl rfl) ?_
        obtain ⟨cs17,hr17,hl17⟩:=hl.get good_rAv Av.zero (k:=(i + 1)) sD
        obtain ⟨rfl,hx17⟩:=rn_av hr17
        refine q_fldL (p:=eptr va (i + 1) 2) 0 fd75_0 rfl (hl17 _ (Chg.of_ext [] hE3)) (zS (e:=63) rfl rfl rfl) (q_load (p:=(padd (eptr va (i + 1) 2) 0)) (.inr rfl) (.int .i64 ((l.getD (i + 1) Av.zero).kind)) one2 rfl ((hl17 _ (Chg.of_ext [] hE3)).ld (i:=0) z37_2) (zS (e:=63) rfl rfl rfl) (q_eql (decide ((l.getD (i + 1) Av.zero).kind = ((3:Nat):Int))) rfl rfl rfl (zS (e:=63) rfl rfl rfl) (lw_tvn 2 rfl (wp_ret (b_ret (t_ret ?_))))))
        exact post_ret [4] rfl (.bool (decide ((l.getD (i + 1) Av.zero).kind = ((3:Nat):Int)))) rfl ⟨(ret_bool z37_0),hE3⟩
    ·
      refine q_eql false rfl rfl (decide_eq_false hc15) zN (lw_tvn 1 rfl (c_cond_f rfl (wp_plain _ [0,0] rfl ?_)))
      by_cases hc18:(l.getD i Av.zero).kind = ((3:Nat):Int)
      ·
        refine q_eql true rfl rfl (decide_eq_true hc18) zN (lw_tvn 1 rfl (c_cond_t rfl (wp_seq (wp_plain _ [0,0,0,0,0,0,0,0,0,0,0,2,0,0,0] rfl (lw_tv 2 rfl (q_len (v:=va) u24 rfl hl.isSl zN ?_))))))
        refine q_sub (((l.length:Nat):Int) - ((1:Nat):Int)) rfl rfl (w64 sD sD) zN ?_
        by_cases hc19:((i:Nat):Int) = ((l.length:Nat):Int) - ((1:Nat):Int)
        ·
          exact q_eql true rfl rfl (decide_eq_true hc19) zN (lw_tvn 10 rfl (wp_ret (b_ret (t_ret (post_ret [4] rfl (.bool true) rfl ⟨(ret_bool z37_0),hE3⟩)))))
        ·
          refine q_eql false rfl rfl (decide_eq_false hc19) zN (lw_tv 3 rfl (q_add ((i + 1:Nat):Int) rfl rfl (w64n oM sD) (zS (e:=63) rfl rfl rfl) ?_))
          refine q_idx (v:=va) (i + 1) u24 tiS75 rfl rfl hl.isSl rfl sD (zS (e:=63) rfl rfl rfl) ?_
          obtain ⟨cs20,hr20,hl20⟩:=hl.get good_rAv Av.zero (k:=(i + 1)) sD
          obtain ⟨rfl,hx20⟩:=rn_av hr20
          refine q_fldL (p:=eptr va (i + 1) 2) 0 fd75_0 rfl (hl20 _ (Chg.of_ext [] hE3)) (zS (e:=63) rfl rfl rfl) (q_load (p:=(padd (eptr va (i + 1) 2) 0)) (.inr rfl) (.int .i64 ((l.getD (i + 1) Av.zero).kind)) one2 rfl ((hl20 _ (Chg.of_ext [] hE3)).ld (i:=0) z37_2) (zS (e:=63) rfl rfl rfl) (q_eql (decide ((l.getD (i + 1) Av.zero).kind = ((3:Nat):Int))) rfl rfl rfl (zS (e:=63) rfl rfl rfl) (lw_tvn 2 rfl (wp_ret (b_ret (t_ret ?_))))))
          exact post_ret [4] rfl (.bool (decide ((l.getD (i + 1) Av.zero).kind = ((3:Nat):Int)))) rfl ⟨(ret_bool z37_0),hE3⟩
      ·
        exact q_eql false rfl rfl (decide_eq_false hc18) zN (lw_tvn 1 rfl (c_cond_f rfl (wp_skip (wp_seq (wp_plain _ [0] rfl (lw_tvn 1 rfl (wp_ret (post_ret [4] rfl (.bool false) rfl ⟨(ret_bool z37_0),hE3⟩))))))))
theorem c_impl_areSteps (w:World) (k:Int) (_hk:-9223372036854775808≤k∧k≤9223372036854775807)  :
    Calls Try.prog 60 #[.int .i64 k] w (fun e w'=>e = .returned (.bool (decide (0≤k) && decide (k≤40)))∧Ext w w'):=by
  refine calls_mk [.int .i64 k] 5 Try.func60 rfl rfl sM ?_
  have hE0:Ext w w:=Ext.refl w
  exact wp_seq (wp_plain _ [0] rfl (lw_tvn 1 rfl (wp_seq (wp_plain _ [0,0,0] rfl (lw_tv 1 rfl (lw_callq 71 [] [] [(.int .i64 k),(.int .i64 ((0:Nat):Int)),(.int .i64 ((40:Nat):Int))] rfl rfl cf71 zN (.bool (decide (((0:Nat):Int)≤k) && decide (k≤((40:Nat):Int)))) (fun wq=>c_impl_within wq _ _ _ _hk oM oM) (lw_tvn 1 rfl (wp_ret (post_ret [2] rfl (.bool (decide (((0:Nat):Int)≤k) && decide (k≤((40:Nat):Int)))) rfl ⟨rfl,hE0⟩)))))))))
theorem z31_0 {p:Prop} (h:p:=by first | (have h8:(!schB l) = true:=(by assumption); exact (plC_1 (by simpa using h8)).symm) | (have h8:(!schB l) = false:=(by assumption); have h7:schB l = true:=(by simpa using h8); first | exact (plC_2 h7 (fun h9=>by simp_all; done)).symm | exact (plC_2 h7 (fun h9=>by simp_all; omega)).symm | exact (plC_0 h7 (by simp_all; done)).symm | exact (plC_0 h7 (by simp_all; omega)).symm)):p:=h
theorem c_impl_isPlan (w:World) (va:Value) (l:List Av) (n:Int) (k:Int) (hl:RN [] (rdS 2 rAv) w.heap va l) (_hn:-9223372036854775808≤n∧n≤9223372036854775807) (_hk:-9223372036854775808≤k∧k≤9223372036854775807) (hll:l.length≤1000000000) :
    Calls Try.prog 31 #[va,.int .i64 n,.int .i64 k] w (fun e w'=>e = .returned (.int .i64 (plC l n k))∧Ext w w'):=by
  refine calls_mk [va,.int .i64 n,.int .i64 k] 20 Try.func31 rfl rfl sM ?_
  have hE0:Ext w w:=Ext.refl w
  refine wp_seq (wp_plain _ [0] rfl (lw_tvn 1 rfl (wp_seq (wp_block (wp_seq (wp_plain _ [0,3,0,0] rfl (lw_tv 1 rfl (lw_call 38 [] [] [va] rfl rfl cf38 zN (c_impl_ValidSchedule _ va l (hl.ext (good_rdS good_rAv) hE0)) ?_))))))))
  rintro e1 w1 ⟨rfl,hX1⟩
  refine ⟨_,rfl,hX1,?_⟩
  have hzs1:w.heap.size≤w1.heap.size:=hX1.size
  have hE1:Ext w w1:=hE0.trans hX1
  refine q_not (!(schB l)) rfl rfl zN (lw_tvn 1 rfl ?_)
  cases hb2:(!(schB l))
  ·
    refine c_cond_f (by first | rfl | (show Value.bool _ = _; rw [hb2])) (wp_seq (wp_plain _ [0,3,0,0,0,3,0,0,0] rfl (lw_tv 1 rfl (lw_call 60 [] [] [(.int .i64 n)] rfl rfl cf60 zN (c_impl_areSteps _ _ _hn) ?_))))
    rintro e3 w3 ⟨rfl,hX3⟩
    refine ⟨_,rfl,hX3,?_⟩
    have hzs3:w1.heap.size≤w3.heap.size:=hX3.size
    have hE3:Ext w w3:=hE1.trans hX3
    refine q_not (!(decide (0≤n) && decide (n≤40))) rfl rfl zN (lw_tv 1 rfl ?_)
    cases hb4:(!(decide (0≤n) && decide (n≤40)))
    ·
      refine lw_tv 1 rfl (lw_call 40 [] [] [(.int .i64 k)] rfl rfl cf40 (zS (e:=15) rfl rfl rfl) (c_impl_areSlots _ _ _hk) ?_)
      rintro e5 w5 ⟨rfl,hX5⟩
      refine ⟨_,rfl,hX5,?_⟩
      have hzs5:w3.heap.size≤w5.heap.size:=hX5.size
      have hE5:Ext w w5:=hE3.trans hX5
      refine q_not (!(decide (0≤k) && decide (k≤8))) rfl rfl (zS (e:=15) rfl rfl rfl) (lw_tvn 2 rfl ?_)
      cases hb6:(!(decide (0≤k) && decide (k≤8)))
      ·
        exact c_cond_f (by first | rfl | (show Value.bool _ = _; rw [hb6])) (wp_skip (wp_seq (wp_plain _ [0] rfl (lw_tvn 1 rfl (wp_ret (post_ret [6] rfl (.int .i64 ((0:Nat):Int)) rfl ⟨(ret_int z31_0),hE5⟩))))))
      ·
        exact c_cond_t (by first | rfl | (show Value.bool _ = _; rw [hb6])) (wp_seq (wp_plain _ [0] rfl (lw_tvn 1 rfl (wp_ret (b_ret (t_ret (post_ret [6] rfl (.int .i64 ((2:Nat):Int)) rfl ⟨(ret_int z31_0),hE5⟩)))))))
    ·
      exact lw_tvn 5 rfl (c_cond_t rfl (wp_seq (wp_plain _ [0] rfl (lw_tvn 1 rfl (wp_ret (b_ret (t_ret (post_ret [6] rfl (.int .i64 ((2:Nat):Int)) rfl ⟨(ret_int z31_0),hE3⟩))))))))
  ·
    exact c_cond_t (by first | rfl | (show Value.bool _ = _; rw [hb2])) (wp_seq (wp_plain _ [0] rfl (lw_tvn 1 rfl (wp_ret (b_ret (t_ret (post_ret [6] rfl (.int .i64 ((1:Nat):Int)) rfl ⟨(ret_int z31_0),hE1⟩)))))))
theorem z35_0 {p:Prop} (h:p:=by first | (have h8:(!schB l) = true:=(by assumption); exact (plC_1 (by simpa using h8)).symm) | (have h8:(!schB l) = false:=(by assumption); have h7:schB l = true:=(by simpa using h8); first | exact (plC_2 h7 (fun h9=>by simp_all; done)).symm | exact (plC_2 h7 (fun h9=>by simp_all; omega)).symm | exact (plC_0 h7 (by simp_all; done)).symm | exact (plC_0 h7 (by simp_all; omega)).symm)):p:=h
theorem c_spec_l06Asked (w:World) (va:Value) (l:List Av) (n:Int) (k:Int) (hl:RN [] (rdS 2 rAv) w.heap va l) (_hn:-9223372036854775808≤n∧n≤9223372036854775807) (_hk:-9223372036854775808≤k∧k≤9223372036854775807) (hll:l.length≤1000000000) :
    Calls Try.prog 35 #[va,.int .i64 n,.int .i64 k] w (fun e w'=>e = .returned (.int .i64 (plC l n k))∧Ext w w'):=by
  refine calls_mk [va,.int .i64 n,.int .i64 k] 18 Try.func35 rfl rfl sM ?_
  have hE0:Ext w w:=Ext.refl w
  refine wp_seq (wp_plain _ [0] rfl (lw_tvn 1 rfl (wp_seq (wp_seq (wp_plain _ [0,3,0] rfl (lw_tv 1 rfl (lw_call 30 [] [] [va] rfl rfl cf30 zN (c_spec_l06Schedule _ va l (hl.ext (good_rdS good_rAv) hE0) oM) ?_)))))))
  rintro e1 w1 ⟨rfl,hX1⟩
  refine ⟨_,rfl,hX1,?_⟩
  have hzs1:w.heap.size≤w1.heap.size:=hX1.size
  have hE1:Ext w w1:=hE0.trans hX1
  refine q_not (!(schB l)) rfl rfl zN (lw_nil ?_)
  cases hb2:(!(schB l))
  ·
    refine c_cond_f (by first | rfl | (show Value.bool _ = _; rw [hb2])) (wp_skip (wp_seq (wp_seq (wp_plain _ [0,0,0,0,0,0,0,0] rfl (lw_tv 1 rfl (lw_callq 63 [] [] [(.int .i64 n),(.int .i64 ((0:Nat):Int)),(.int .i64 ((40:Nat):Int))] rfl rfl cf63 zN (.bool (decide (((0:Nat):Int)≤n) && decide (n≤((40:Nat):Int)))) (fun wq=>c_spec_l00In wq _ _ _ _hn oM oM) (q_not (!(decide (((0:Nat):Int)≤n) && decide (n≤((40:Nat):Int)))) rfl rfl zN (lw_tv 1 rfl ?_))))))))
    cases hb4:(!(decide (((0:Nat):Int)≤n) && decide (n≤((40:Nat):Int))))
    ·
      refine lw_tv 1 rfl (lw_callq 63 [] [] [(.int .i64 k),(.int .i64 ((0:Nat):Int)),(.int .i64 ((8:Nat):Int))] rfl rfl cf63 (zS (e:=13) rfl rfl rfl) (.bool (decide (((0:Nat):Int)≤k) && decide (k≤((8:Nat):Int)))) (fun wq=>c_spec_l00In wq _ _ _ _hk oM oM) (q_not (!(decide (((0:Nat):Int)≤k) && decide (k≤((8:Nat):Int)))) rfl rfl (zS (e:=13) rfl rfl rfl) (lw_tvn 1 rfl ?_)))
      cases hb6:(!(decide (((0:Nat):Int)≤k) && decide (k≤((8:Nat):Int))))
      ·
        exact c_cond_f (by first | rfl | (show Value.bool _ = _; rw [hb6])) (wp_skip (wp_seq (wp_plain _ [0] rfl (lw_tvn 1 rfl (wp_ret (post_ret [6] rfl (.int .i64 ((0:Nat):Int)) rfl ⟨(ret_int z35_0),hE1⟩))))))
      ·
        exact c_cond_t (by first | rfl | (show Value.bool _ = _; rw [hb6])) (wp_seq (wp_plain _ [0] rfl (lw_tvn 1 rfl (wp_ret (t_ret (post_ret [6] rfl (.int .i64 ((2:Nat):Int)) rfl ⟨(ret_int z35_0),hE1⟩))))))
    ·
      exact lw_tvn 4 rfl (c_cond_t rfl (wp_seq (wp_plain _ [0] rfl (lw_tvn 1 rfl (wp_ret (t_ret (post_ret [6] rfl (.int .i64 ((2:Nat):Int)) rfl ⟨(ret_int z35_0),hE1⟩)))))))
  ·
    exact c_cond_t (by first | rfl | (show Value.bool _ = _; rw [hb2])) (wp_seq (wp_plain _ [0] rfl (lw_tvn 1 rfl (wp_ret (t_ret (post_ret [6] rfl (.int .i64 ((1:Nat):Int)) rfl ⟨(ret_int z35_0),hE1⟩))))))
theorem z7_0 {p:Prop} (h:p:=by first | exact idl_next hq (by (have h8:(!idlS xs i) = true:=(by assumption); simpa using h8)) | (intro j hj; omega)):p:=h
theorem z7_1 {p:Prop} (h:p:=by first | exact htr | exact trm_st htr (by (have h8:(!idlS xs i) = false:=(by assumption); simpa using h8)) hq):p:=h
theorem z7_2 {p:Prop} (h:p:=by first | omega | (simp only [List.length_append,List.length_nil,List.length_take,List.length_drop]; omega)):p:=h
theorem c_impl_TrimSchedule (w:World) (va:Value) (l:List Av) (n:Int) (k:Int) (hl:RN [] (rdS 2 rAv) w.heap va l) (_hn:-9223372036854775808≤n∧n≤9223372036854775807) (_hk:-9223372036854775808≤k∧k≤9223372036854775807) (hll:l.length≤1000000000) :
    Calls Try.prog 7 #[va,.int .i64 n,.int .i64 k] w (fun e w'=>∃ v2:Value,e = .returned (.tuple #[v2,.int .i64 (tmC l n k)])∧Ext w w'∧Fr (owS 2 rAv 75) w.heap.size w'.heap.size w'.heap v2 (tmR l n k)):=by
  refine calls_mk [va,.int .i64 n,.int .i64 k] 48 Try.func7 rfl rfl sM ?_
  have hE0:Ext w w:=Ext.refl w
  refine wp_seq (wp_plain _ [0,0] rfl (lw_tvn 2 rfl (wp_seq (wp_seq (wp_plain _ [0,0,0,3,0] rfl (lw_tv 3 rfl (lw_call 31 [] [] [va,(.int .i64 n),(.int .i64 k)] rfl rfl cf31 zN (c_impl_isPlan _ va l _ _ (hl.ext (good_rdS good_rAv) hE0) _hn _hk oM) ?_)))))))
  rintro e1 w1 ⟨rfl,hX1⟩
  refine ⟨_,rfl,hX1,?_⟩
  have hzs1:w.heap.size≤w1.heap.size:=hX1.size
  have hE1:Ext w w1:=hE0.trans hX1
  refine lw_tvn 1 rfl (wp_seq (wp_plain _ [0,0] rfl (lw_tv 1 rfl ?_)))
  by_cases hc2:plC l n k≠((0:Nat):Int)
  ·
    exact q_neq true rfl rfl (decide_eq_true hc2) zN (lw_nil (c_cond_t rfl (wp_seq (wp_plain _ [0,0,0] rfl (lw_tvn 3 rfl (wp_ret (t_ret (post_ret [6,7] rfl (.tuple #[(.slice none 0 0),(.int .i64 (plC l n k))]) rfl ⟨_,(by rw [tmC_n oM]),hE1,(by rw [tmR_n (by rw [tmC_n oM]; omega)]; exact frNilS _ _ _)⟩))))))))
  ·
    refine q_neq false rfl rfl (decide_eq_false hc2) zN (lw_nil (c_cond_f rfl (wp_skip (wp_seq (wp_seq (wp_plain _ [0,0,0,3,0,0,0,0,0] rfl ?_))))))
    have hpl:plC l n k = 0:=by omega
    obtain ⟨hsc,hnn,hkk⟩:=plC_i hpl
    have hsl:=schB_iff.1 hsc
    generalize hg_nq:n = nqI at *
    obtain ⟨nq,rfl⟩:∃ n:Nat,nqI = ((n:Nat):Int):=⟨nqI.toNat,by omega⟩
    generalize hg_kq:k = kqI at *
    obtain ⟨kq,rfl⟩:∃ n:Nat,kqI = ((n:Nat):Int):=⟨kqI.toNat,by omega⟩
    refine lw_tv 3 rfl (lw_call 32 [] [] [va,(.int .i64 ((nq:Nat):Int)),(.int .i64 ((kq:Nat):Int))] rfl rfl cf32 zN (c_impl_firstBad _ va l nq kq (hl.ext (good_rdS good_rAv) hE1) oM oM oM oM (by exact hsl.2)) ?_)
    rintro e3 w3 ⟨g,gm,vs,vo,Fs,Fo,z,rfl,hX3,hK,hlow,hfin⟩
    refine ⟨_,rfl,hX3,?_⟩
    have hzs3:w1.heap.size≤w3.heap.size:=hX3.size
    have hE3:Ext w w3:=hE1.trans hX3
    have hlw9:w.heap.size≤w1.heap.size:=hE1.size
    have hfr3:=fb_rng l (bgn ((nq:Nat):Int) kq)
    refine lw_tv 1 rfl (q_extract (vs:=[(.pointer (some ⟨g,0,none⟩)),(.int .i64 (fbS l (bgn ((nq:Nat):Int) kq) 0))]) (.pointer (some ⟨g,0,none⟩)) rfl rfl zN (q_extract (vs:=[(.pointer (some ⟨g,0,none⟩)),(.int .i64 (fbS l (bgn ((nq:Nat):Int) kq) 0))]) (.int .i64 (fbS l (bgn ((nq:Nat):Int) kq) 0)) rfl rfl zN (lw_tvn 2 rfl (wp_seq (wp_plain _ [0,0] rfl (lw_tv 1 rfl ?_))))))
    by_cases hc4:((0:Nat):Int)≤(fbS l (bgn ((nq:Nat):Int) kq) 0)
    ·
      refine q_geq true rfl rfl (decide_eq_true hc4) zN (lw_nil (c_cond_t rfl (wp_seq (wp_plain _ [0,0] rfl ?_))))
      have hA:tmC l ((nq:Nat):Int) ((kq:Nat):Int) = 4:=by rw [tmC_u hpl]; exact usC_4 oM
      exact lw_tvn 2 rfl (wp_ret (t_ret (post_ret [6,7] rfl (.tuple #[(.slice none 0 0),(.int .i64 ((4:Nat):Int))]) rfl ⟨_,(by rw [hA]; rfl),hE3,(by rw [tmR_n (by rw [hA]; omega)]; exact frNilS _ _ _)⟩)))
    ·
      refine q_geq false rfl rfl (decide_eq_false hc4) zN (lw_nil (c_cond_f rfl (wp_skip (wp_seq (wp_plain _ [3,0,4,0] rfl ?_)))))
      have hA0:tmC l ((nq:Nat):Int) ((kq:Nat):Int) = 0:=by rw [tmC_u hpl]; exact usC_0 oM
      have hll4:l.length≤400:=hsl.1
      have hwB:w.heap.size≤w3.heap.size:=hE3.size
      refine r_nilS (α:=Av) good_rAv u24 tiS75 zN fun v5 w5 hX5 hz5 hO5=>?_
      have hzs5:w3.heap.size≤w5.heap.size:=hX5.size
      have hE5:Ext w w5:=hE3.trans hX5
      refine lw_tv 1 rfl (e_appA (v:=v5) (a:=va) (ys:=l) good_rAv flN_r u24 tiS75 rfl (by decide) rfl rfl hO5 oM (hl.ext (good_rdS good_rAv) hE5) (by simp only [List.length_nil,List.length_append,List.length_take,List.length_drop]; omega) (by unfold maxLen; simp only [List.length_nil,List.length_append,List.length_take,List.length_drop]; omega) zN fun v6 w6 F6 hC6 hF6 hO6=>?_)
      have hzs6:w5.heap.size≤w6.heap.size:=hC6.size
      have hE6:Ext w w6:=hC6.below hE5 (fun c hc=>by have:=hF6 _ hc; omega) hE5.size
      refine lw_tvn 1 rfl (wp_seq (wp_seq (wp_plain _ [0] rfl (lw_tvn 1 rfl (wp_block (c_loop (S:=Nat × Value × List Av) (fun (⟨i,vo,xs⟩:Nat × Value × List Av)=>([(11,vo),(12,(.int .i64 ((i:Nat):Int)))]:List (Nat × Value))) (fun (⟨i,vo,xs⟩:Nat × Value × List Av) (W:World)=>Ext w W∧Fr (owS 2 rAv 75) w3.heap.size W.heap.size W.heap vo xs∧xs.length≤400∧i≤xs.length∧trmF xs = trmF l∧(∀ j,j < i→idlS xs j = false)∧w3.heap.size≤W.heap.size) (fun (⟨i,vo,xs⟩:Nat × Value × List Av)=>xs.length * 401 + (400 - i)) (0,v6,(([]:List Av)++l)) ⟨rfl,rfl,trivial⟩ ⟨hE6,hO6.up (good_owS good_rAv),(by simp only [List.length_append,List.length_nil]; omega),oM,(by rfl),(by intro j hj; omega),oM⟩ ?_))))))
      clear hE0 hX1 hzs1 hE1 hX3 hO5 hz5 hX5 hzs5 hE5 hO6 hF6 hC6 hzs6 hE6
      rintro ⟨i,vo,xs⟩ ρ7 w7 ⟨hE7,hL7_0,hxl,hix,htr,hq,hkB8⟩
      have hzs7:w.heap.size≤w7.heap.size:=hE7.size
      refine wp_seq (wp_seq (wp_plain _ [0,0,0,0] rfl (lw_tv 2 rfl (q_len (v:=vo) u24 rfl hL7_0.isSlS zN ?_))))
      by_cases hc9:((i:Nat):Int) < ((xs.length:Nat):Int)
      ·
        refine q_lss true rfl rfl (decide_eq_true hc9) zN (lw_nil (c_cond_t rfl (wp_skip (wp_block (wp_seq (wp_seq (wp_plain _ [0,0,3,0] rfl (lw_tv 2 rfl (lw_call 33 [] [] [vo,(.int .i64 ((i:Nat):Int))] rfl rfl cf33 zN (c_impl_isIdle _ vo xs (i) (RN.of_frA (S:=[]) hL7_0 (fun b hb=>by cases hb)) sD oM oM) ?_)))))))))
        rintro e10 w10 ⟨rfl,hX10⟩
        refine ⟨_,rfl,hX10,?_⟩
        have hzs10:w7.heap.size≤w10.heap.size:=hX10.size
        have hE10:Ext w w10:=hE7.trans hX10
        have hL7_0x10:=hL7_0.ext ((good_owS good_rAv)) hX10
        refine q_not (!(idlS xs i)) rfl rfl zN (lw_nil ?_)
        cases hb11:(!(idlS xs i))
        ·
          refine c_cond_f (by first | rfl | (show Value.bool _ = _; rw [hb11])) (wp_skip (wp_seq (wp_plain _ [0,0,0,0,4,0] rfl (lw_tv 3 rfl (q_add ((i + 1:Nat):Int) rfl rfl (w64n oM oM) zN (lw_callE 34 [] [] [vo,(.int .i64 ((i:Nat):Int)),(.int .i64 ((i + 1:Nat):Int))] rfl rfl cf34 zN (c_slices_Delete_av _ vo xs w3.heap.size w7.heap.size i (i + 1) hL7_0x10 ⟨by omega,by omega⟩ oM oM oM) ?_))))))
          rintro e12 w12 ⟨v12,rfl,hC12,hO12⟩
          refine ⟨_,rfl,?_⟩
          have hF12:∀ c∈ivb w3.heap.size w7.heap.size,w3.heap.size≤c∧c < w7.heap.size:=fun c hc=>mem_ivb.1 hc
          have hzs12:w10.heap.size≤w12.heap.size:=hC12.size
          have hE12:Ext w w12:=hC12.below hE10 (fun c hc=>by have:=hF12 _ hc; omega) hE10.size
          exact lw_tvn 1 rfl (wp_plain _ [0] rfl (lw_tvn 1 rfl ⟨(0,v12,(xs.take i++xs.drop (i + 1))),_,rfl,⟨rfl,rfl,trivial⟩,⟨hE12,hO12.up (good_owS good_rAv),z7_2,oM,z7_1,z7_0,oM⟩,by first | omega | (simp only [List.length_append,List.length_nil,List.length_take,List.length_drop]; omega)⟩))
        ·
          exact c_cond_t (by first | rfl | (show Value.bool _ = _; rw [hb11])) (wp_seq (wp_plain _ [0,0,0] rfl (lw_tv 1 rfl (q_add ((i + 1:Nat):Int) rfl rfl (w64n oM oM) zN (lw_tvn 1 rfl (wp_exit (t_exit (c_exit_here ⟨((i + 1),vo,xs),_,rfl,⟨rfl,rfl,trivial⟩,⟨hE10,hL7_0x10.up (good_owS good_rAv),z7_2,oM,z7_1,z7_0,oM⟩,by first | omega | (simp only [List.length_append,List.length_nil,List.length_take,List.length_drop]; omega)⟩))))))))
      ·
        exact q_lss false rfl rfl (decide_eq_false hc9) zN (lw_nil (c_cond_f rfl (wp_exit (t_exit (t_exit (c_exit_here (wp_seq (wp_plain _ [0,0,0] rfl (lw_tvn 3 rfl (wp_ret (post_ret [6,7] rfl (.tuple #[vo,(.int .i64 ((0:Nat):Int))]) rfl ⟨_,(by rw [hA0]; rfl),hE7,(by rw [tmR_0 hA0,← trm_en htr oM hq]; exact ((hL7_0.up (good_owS good_rAv)).low (B':=w.heap.size) oM))⟩)))))))))))
theorem z8_0 {p:Prop} (h:p:=by first | omega | (simp only [List.length_append,List.length_nil,List.length_take,List.length_drop]; omega)):p:=h
theorem z8_1 {p:Prop} (h:p:=by unfold maxLen; simp only [List.length_nil,List.length_append,List.length_take,List.length_drop]; omega):p:=h
theorem z8_2 {p:Prop} (h:p:=by simp only [List.length_nil,List.length_append,List.length_take,List.length_drop]; omega):p:=h
theorem c_spec_TrimSchedule (w:World) (va:Value) (l:List Av) (n:Int) (k:Int) (hl:RN [] (rdS 2 rAv) w.heap va l) (_hn:-9223372036854775808≤n∧n≤9223372036854775807) (_hk:-9223372036854775808≤k∧k≤9223372036854775807) (hll:l.length≤1000000000) :
    Calls Try.prog 8 #[va,.int .i64 n,.int .i64 k] w (fun e w'=>∃ v2:Value,e = .returned (.tuple #[v2,.int .i64 (tmC l n k)])∧Ext w w'∧Fr (owS 2 rAv 75) w.heap.size w'.heap.size w'.heap v2 (tmR l n k)):=by
  refine calls_mk [va,.int .i64 n,.int .i64 k] 53 Try.func8 rfl rfl sM ?_
  have hE0:Ext w w:=Ext.refl w
  refine wp_seq (wp_plain _ [0,0] rfl (lw_tvn 2 rfl (wp_seq (wp_seq (wp_plain _ [0,0,0,3,0] rfl (lw_tv 3 rfl (lw_call 35 [] [] [va,(.int .i64 n),(.int .i64 k)] rfl rfl cf35 zN (c_spec_l06Asked _ va l _ _ (hl.ext (good_rdS good_rAv) hE0) _hn _hk oM) ?_)))))))
  rintro e1 w1 ⟨rfl,hX1⟩
  refine ⟨_,rfl,hX1,?_⟩
  have hzs1:w.heap.size≤w1.heap.size:=hX1.size
  have hE1:Ext w w1:=hE0.trans hX1
  refine lw_tvn 1 rfl (wp_seq (wp_plain _ [0,0] rfl (lw_tv 1 rfl ?_)))
  by_cases hc2:plC l n k≠((0:Nat):Int)
  ·
    refine q_neq true rfl rfl (decide_eq_true hc2) zN (lw_nil (c_cond_t rfl (wp_seq (wp_plain _ [3,0,0,0] rfl (r_nilS (α:=Av) good_rAv u24 tiS75 zN fun v3 w3 hX3 hz3 hO3=>?_)))))
    have hzs3:w1.heap.size≤w3.heap.size:=hX3.size
    have hE3:Ext w w3:=hE1.trans hX3
    exact lw_tvn 3 rfl (wp_ret (t_ret (post_ret [6,7] rfl (.tuple #[v3,(.int .i64 (plC l n k))]) rfl ⟨_,(by rw [tmC_n oM]),hE3,(by rw [tmR_n (by rw [tmC_n oM]; omega)]; exact ((hO3.up (good_owS good_rAv)).low (B':=w.heap.size) oM))⟩)))
  ·
    refine q_neq false rfl rfl (decide_eq_false hc2) zN (lw_nil (c_cond_f rfl (wp_skip (wp_seq (wp_seq (wp_plain _ [0,0,0,3,0,0,0,0,0] rfl ?_))))))
    have hpl:plC l n k = 0:=by omega
    obtain ⟨hsc,hnn,hkk⟩:=plC_i hpl
    have hsl:=schB_iff.1 hsc
    generalize hg_nq:n = nqI at *
    obtain ⟨nq,rfl⟩:∃ n:Nat,nqI = ((n:Nat):Int):=⟨nqI.toNat,by omega⟩
    generalize hg_kq:k = kqI at *
    obtain ⟨kq,rfl⟩:∃ n:Nat,kqI = ((n:Nat):Int):=⟨kqI.toNat,by omega⟩
    refine lw_tv 3 rfl ?_
    refine lw_call 36 [] [] [va,(.int .i64 ((nq:Nat):Int)),(.int .i64 ((kq:Nat):Int))] rfl rfl cf36 zN (c_spec_l06Bad _ va l (nq) (kq) (hl.ext (good_rdS good_rAv) hE1) sD sD oM oM (by exact hsl.2)) ?_
    rintro e4 w4 ⟨rfl,hX4⟩
    refine ⟨_,rfl,hX4,?_⟩
    have hzs4:w1.heap.size≤w4.heap.size:=hX4.size
    have hE4:Ext w w4:=hE1.trans hX4
    refine lw_tv 1 rfl (q_extract (vs:=[(.int .i64 (bdI l nq kq)),(.bool (bdB l nq kq))]) (.int .i64 (bdI l nq kq)) rfl rfl zN (q_extract (vs:=[(.int .i64 (bdI l nq kq)),(.bool (bdB l nq kq))]) (.bool (bdB l nq kq)) rfl rfl zN (lw_tvn 2 rfl (wp_seq (wp_plain _ [0] rfl (lw_tvn 1 rfl ?_))))))
    cases hb5:(bdB l nq kq)
    ·
      refine c_cond_f (by first | rfl | (show Value.bool _ = _; rw [hb5])) (wp_skip (wp_seq (wp_plain _ [3,0,4,0] rfl ?_)))
      have hA0:tmC l ((nq:Nat):Int) ((kq:Nat):Int) = 0:=by rw [tmC_u hpl]; exact usC_0 (bdB_f (by assumption))
      have hll4:l.length≤400:=hsl.1
      have hwB:w.heap.size≤w4.heap.size:=hE4.size
      refine r_nilS (α:=Av) good_rAv u24 tiS75 zN fun v6 w6 hX6 hz6 hO6=>?_
      have hzs6:w4.heap.size≤w6.heap.size:=hX6.size
      have hE6:Ext w w6:=hE4.trans hX6
      refine lw_tv 1 rfl (e_appA (v:=v6) (a:=va) (ys:=l) good_rAv flN_r u24 tiS75 rfl (by decide) rfl rfl hO6 oM (hl.ext (good_rdS good_rAv) hE6) z8_2 z8_1 zN fun v7 w7 F7 hC7 hF7 hO7=>?_)
      have hzs7:w6.heap.size≤w7.heap.size:=hC7.size
      have hE7:Ext w w7:=hC7.below hE6 (fun c hc=>by have:=hF7 _ hc; omega) hE6.size
      refine lw_tvn 1 rfl (wp_seq (wp_seq (wp_plain _ [0] rfl (lw_tvn 1 rfl (wp_block (c_loop (S:=Nat × Value × List Av) (fun (⟨i,vo,xs⟩:Nat × Value × List Av)=>([(11,vo),(12,(.int .i64 ((i:Nat):Int)))]:List (Nat × Value))) (fun (⟨i,vo,xs⟩:Nat × Value × List Av) (W:World)=>Ext w W∧Fr (owS 2 rAv 75) w4.heap.size W.heap.size W.heap vo xs∧xs.length≤400∧i≤xs.length∧trmF xs = trmF l∧(∀ j,j < i→idlS xs j = false)∧w4.heap.size≤W.heap.size) (fun (⟨i,vo,xs⟩:Nat × Value × List Av)=>xs.length * 401 + (400 - i)) (0,v7,(([]:List Av)++l)) ⟨rfl,rfl,trivial⟩ ⟨hE7,hO7.up (good_owS good_rAv),(by simp only [List.length_append,List.length_nil]; omega),oM,(by rfl),(by intro j hj; omega),oM⟩ ?_))))))
      clear hE0 hX1 hzs1 hE1 hX4 hO6 hz6 hX6 hzs6 hE6 hO7 hF7 hC7 hzs7 hE7
      rintro ⟨i,vo,xs⟩ ρ8 w8 ⟨hE8,hL8_0,hxl,hix,htr,hq,hkB9⟩
      have hzs8:w.heap.size≤w8.heap.size:=hE8.size
      refine wp_seq (wp_seq (wp_plain _ [0,0,0,0] rfl (lw_tv 2 rfl (q_len (v:=vo) u24 rfl hL8_0.isSlS zN ?_))))
      by_cases hc10:((i:Nat):Int) < ((xs.length:Nat):Int)
      ·
        refine q_lss true rfl rfl (decide_eq_true hc10) zN (lw_nil (c_cond_t rfl (wp_skip (wp_seq (wp_block (wp_seq (wp_plain _ [0,0,3] rfl (lw_tv 2 rfl (lw_call 37 [] [] [vo,(.int .i64 ((i:Nat):Int))] rfl rfl cf37 zN (c_spec_l06Idle _ vo xs (i) (RN.of_frA (S:=[]) hL8_0 (fun b hb=>by cases hb)) sD oM oM) ?_)))))))))
        rintro e11 w11 ⟨rfl,hX11⟩
        refine ⟨_,rfl,hX11,?_⟩
        have hzs11:w8.heap.size≤w11.heap.size:=hX11.size
        have hE11:Ext w w11:=hE8.trans hX11
        have hL8_0x11:=hL8_0.ext ((good_owS good_rAv)) hX11
        refine lw_nil ?_
        cases hb12:(idlS xs i)
        ·
          exact c_cond_f (by first | rfl | (show Value.bool _ = _; rw [hb12])) (wp_skip (wp_plain _ [0,0,0] rfl (lw_tv 1 rfl (q_add ((i + 1:Nat):Int) rfl rfl (w64n oM oM) zN (lw_tvn 1 rfl ⟨((i + 1),vo,xs),_,rfl,⟨rfl,rfl,trivial⟩,⟨hE11,hL8_0x11.up (good_owS good_rAv),z8_0,oM,(by first | exact htr | exact trm_st htr (by assumption) hq),(by first | exact idl_next hq (by assumption) | (intro j hj; omega)),oM⟩,by first | omega | (simp only [List.length_append,List.length_nil,List.length_take,List.length_drop]; omega)⟩)))))
        ·
          refine c_cond_t (by first | rfl | (show Value.bool _ = _; rw [hb12])) (wp_seq (wp_draw _ [3,0,0,0,4,0,0,0,0,4,0] mixed (by kernel_rfl) ?_))
          have hdr13:w11.drew.heap.size = w11.heap.size:=rfl
          refine r_nilS (α:=Av) good_rAv u24 tiS75 zN fun v14 w14 hX14 hz14 hO14=>?_
          replace hX14:=hX14.of_drew
          have hzs14:w11.heap.size≤w14.heap.size:=hX14.size
          have hE14:Ext w w14:=hE11.trans hX14
          have hL8_0x14:=hL8_0x11.ext ((good_owS good_rAv)) hX14
          refine lw_tv 2 rfl ?_
          have hlt15:i≤xs.length:=by omega
          refine q_pref (v:=vo) (k:=i) u24 tiS75 rfl hL8_0x14.isSlS (RN.of_frA (S:=[]) hL8_0x14 (fun b hb=>by cases hb)).capS rfl hlt15 zN (e_appA (v:=v14) (a:=(prefV vo i)) (ys:=xs.take i) good_rAv flN_r u24 tiS75 rfl (by decide) rfl rfl hO14 oM (RN.pref good_rAv (RN.of_frA (S:=[]) hL8_0x14 (fun b hb=>by cases hb)) hlt15) z8_2 z8_1 zN fun v16 w16 F16 hC16 hF16 hO16=>?_)
          have hzs16:w14.heap.size≤w16.heap.size:=hC16.size
          have hE16:Ext w w16:=hC16.below hE14 (fun c hc=>by have:=hF16 _ hc; omega) hE14.size
          have hF17:=hL8_0x14.chg ((good_owS good_rAv)) hC16 (fun c hc=>by have:=hF16 _ hc; omega)
          refine lw_tv 2 rfl (q_add ((i + 1:Nat):Int) rfl rfl (w64n oM oM) zN ?_)
          have hlt18:i + 1≤xs.length:=by omega
          refine q_sufS (v:=vo) (k:=i + 1) u24 tiS75 (by decide) rfl hF17.isSlS (RN.of_frA (S:=[]) hF17 (fun b hb=>by cases hb)).capS rfl hlt18 zN (e_appA (v:=v16) (a:=(sufS 2 vo (i + 1))) (ys:=xs.drop (i + 1)) good_rAv flN_r u24 tiS75 rfl (by decide) rfl rfl hO16 oM (rn_sufS good_rAv (by decide) (RN.of_frA (S:=[]) hF17 (fun b hb=>by cases hb)) hlt18) z8_2 z8_1 zN fun v19 w19 F19 hC19 hF19 hO19=>?_)
          have hzs19:w16.heap.size≤w19.heap.size:=hC19.size
          have hE19:Ext w w19:=hC19.below hE16 (fun c hc=>by have:=hF19 _ hc; omega) hE16.size
          have hF20:=hF17.chg ((good_owS good_rAv)) hC19 (fun c hc=>by have:=hF19 _ hc; omega)
          exact lw_tvn 1 rfl (wp_plain _ [0] rfl (lw_tvn 1 rfl (wp_plain _ [0,0,0] rfl (lw_tv 1 rfl (q_add ((0:Nat):Int) rfl rfl (by decide) zN (lw_tvn 1 rfl ⟨(0,v19,((([]:List Av)++(xs.take i))++(xs.drop (i + 1)))),_,rfl,⟨rfl,rfl,trivial⟩,⟨hE19,(hO19.up (good_owS good_rAv)).low oM,z8_0,oM,(by first | exact htr | exact trm_st htr (by assumption) hq),(by first | exact idl_next hq (by assumption) | (intro j hj; omega)),oM⟩,by first | omega | (simp only [List.length_append,List.length_nil,List.length_take,List.length_drop]; omega)⟩))))))
      ·
        exact q_lss false rfl rfl (decide_eq_false hc10) zN (lw_nil (c_cond_f rfl (wp_exit (t_exit (t_exit (c_exit_here (wp_seq (wp_plain _ [0,0,0] rfl (lw_tvn 3 rfl (wp_ret (post_ret [6,7] rfl (.tuple #[vo,(.int .i64 ((0:Nat):Int))]) rfl ⟨_,(by rw [hA0]; rfl),hE8,(by rw [tmR_0 hA0,← trm_en htr oM hq]; exact ((hL8_0.up (good_owS good_rAv)).low (B':=w.heap.size) oM))⟩)))))))))))
    ·
      refine c_cond_t (by first | rfl | (show Value.bool _ = _; rw [hb5])) (wp_seq (wp_plain _ [3,0,0] rfl ?_))
      have hA:tmC l ((nq:Nat):Int) ((kq:Nat):Int) = 4:=by rw [tmC_u hpl]; exact usC_4 (bdB_t (by assumption))
      refine r_nilS (α:=Av) good_rAv u24 tiS75 zN fun v21 w21 hX21 hz21 hO21=>?_
      have hzs21:w4.heap.size≤w21.heap.size:=hX21.size
      have hE21:Ext w w21:=hE4.trans hX21
      exact lw_tvn 2 rfl (wp_ret (t_ret (post_ret [6,7] rfl (.tuple #[v21,(.int .i64 ((4:Nat):Int))]) rfl ⟨_,(by rw [hA]; rfl),hE21,(by rw [tmR_n (by rw [hA]; omega)]; exact ((hO21.up (good_owS good_rAv)).low (B':=w.heap.size) oM))⟩)))
theorem z9_0 {p:Prop} (h:p:=by first | exact (decide_eq_true (leq_done hq oM oM)).symm | exact (decide_eq_false (av_ne (k:=k) (by assumption))).symm):p:=h
theorem c_laws_f6actions (w:World) (va:Value) (a:List Av) (vb:Value) (b:List Av) (ha:RN [] (rdS 2 rAv) w.heap va a) (hb:RN [] (rdS 2 rAv) w.heap vb b) (hla:a.length≤1000000000) (hlb:b.length≤1000000000) :
    Calls Try.prog 9 #[va,vb] w (fun e w'=>e = .returned (.bool (decide (a = b)))∧Ext w w'):=by
  refine calls_mk [va,vb] 26 Try.func9 rfl rfl sM ?_
  have hE0:Ext w w:=Ext.refl w
  refine wp_seq (wp_plain _ [0] rfl (lw_tvn 1 rfl (wp_seq (wp_seq (wp_plain _ [0,0,0,0,0] rfl (lw_tv 1 rfl (q_len (v:=va) u24 rfl ha.isSl zN (lw_tv 1 rfl (q_len (v:=vb) u24 rfl hb.isSl zN ?_)))))))))
  by_cases hc1:((a.length:Nat):Int)≠((b.length:Nat):Int)
  ·
    exact q_neq true rfl rfl (decide_eq_true hc1) zN (lw_nil (c_cond_t rfl (wp_seq (wp_plain _ [0] rfl (lw_tvn 1 rfl (wp_ret (t_ret (post_ret [4] rfl (.bool false) rfl ⟨(ret_bool (decide_eq_false (leq_len oM)).symm),hE0⟩))))))))
  ·
    refine q_neq false rfl rfl (decide_eq_false hc1) zN (lw_nil (c_cond_f rfl (wp_skip (wp_seq (wp_seq (wp_plain _ [0] rfl (lw_tvn 1 rfl (wp_block ?_))))))))
    refine c_loop (S:=Nat) (fun (k:Nat)=>([(5,(.int .i64 ((k:Nat):Int))),(0,va),(1,vb)]:List (Nat × Value))) (fun (k:Nat) (W:World)=>Ext w W∧k≤a.length∧(∀ j,j < k→a.getD j Av.zero = b.getD j Av.zero)) (fun (k:Nat)=>a.length - k) 0 ⟨rfl,rfl,rfl,trivial⟩ ⟨hE0,sD,(by intro j hj; omega)⟩ ?_
    clear hE0
    rintro k ρ2 w2 ⟨hE2,hp2_0,hq⟩
    have hzs2:w.heap.size≤w2.heap.size:=hE2.size
    refine wp_seq (wp_seq (wp_plain _ [0,0,0,0] rfl (lw_tv 2 rfl (q_len (v:=va) u24 rfl ha.isSl zN ?_))))
    by_cases hc3:((k:Nat):Int) < ((a.length:Nat):Int)
    ·
      refine q_lss true rfl rfl (decide_eq_true hc3) zN (lw_nil (c_cond_t rfl (wp_skip (wp_seq (wp_block (wp_seq (wp_draw _ [0,0,0,1,0,0,0,1,0] mixed (by kernel_rfl) (lw_tv 2 rfl (q_idx (v:=va) k u24 tiS75 rfl rfl ha.isSl rfl sD zN ?_)))))))))
      obtain ⟨cs4,hr4,hl4⟩:=ha.get good_rAv Av.zero (k:=k) sD
      obtain ⟨rfl,hx4⟩:=rn_av hr4
      refine q_loadA (p:=eptr va k 2) (.inl rfl) [(.int .i64 ((a.getD k Av.zero).kind)),(.int .i64 ((a.getD k Av.zero).arg))] agg75 rfl (fun wq9 hw9=>hl4 wq9 (Chg.of_ext [] (hE2.drew.trans hw9))) rfl zN (lw_tv 2 rfl (q_idx (v:=vb) k u24 tiS75 rfl rfl hb.isSl rfl sD zN ?_))
      obtain ⟨cs5,hr5,hl5⟩:=hb.get good_rAv Av.zero (k:=k) sD
      obtain ⟨rfl,hx5⟩:=rn_av hr5
      refine q_loadA (p:=eptr vb k 2) (.inl rfl) [(.int .i64 ((b.getD k Av.zero).kind)),(.int .i64 ((b.getD k Av.zero).arg))] agg75 rfl (fun wq9 hw9=>hl5 wq9 (Chg.of_ext [] (hE2.drew.trans hw9))) rfl zN ?_
      by_cases hc6:([(a.getD k Av.zero).kind,(a.getD k Av.zero).arg]:List Int) = [(b.getD k Av.zero).kind,(b.getD k Av.zero).arg]
      ·
        refine q_neqA (us:=[(a.getD k Av.zero).kind,(a.getD k Av.zero).arg]) (vs:=[(b.getD k Av.zero).kind,(b.getD k Av.zero).arg]) false (by kernel_rfl) rfl rfl rfl rfl rfl (by rw [decide_eq_true hc6]; rfl) zN (lw_nil (c_cond_f rfl (wp_skip (wp_plain _ [0,0,0] rfl (lw_tv 1 rfl (q_add ((k + 1:Nat):Int) rfl rfl (w64n oM oM) zN (lw_tvn 1 rfl ?_)))))))
        exact ⟨(k + 1),_,rfl,⟨rfl,rfl,rfl,trivial⟩,⟨hE2.drew,sD,(by exact av_next hq (by assumption))⟩,by first | omega | (dsimp only; omega)⟩
      ·
        exact q_neqA (us:=[(a.getD k Av.zero).kind,(a.getD k Av.zero).arg]) (vs:=[(b.getD k Av.zero).kind,(b.getD k Av.zero).arg]) true (by kernel_rfl) rfl rfl rfl rfl rfl (by rw [decide_eq_false hc6]; rfl) zN (lw_nil (c_cond_t rfl (wp_seq (wp_plain _ [0] rfl (lw_tvn 1 rfl (wp_ret (b_ret (t_ret (t_ret (b_ret (t_ret (post_ret [4] rfl (.bool false) rfl ⟨(ret_bool z9_0),hE2.drew⟩))))))))))))
    ·
      exact q_lss false rfl rfl (decide_eq_false hc3) zN (lw_nil (c_cond_f rfl (wp_exit (t_exit (t_exit (c_exit_here (wp_seq (wp_plain _ [0] rfl (lw_tvn 1 rfl (wp_ret (post_ret [4] rfl (.bool true) rfl ⟨(ret_bool z9_0),hE2⟩)))))))))))
end Go.Proofs.Ytemfgblmfahllaa
namespace Go.Proofs.Ytemfgblmfahllaa
open Go Go.RowKit
set_option linter.unusedVariables false
set_option linter.unusedSimpArgs false
set_option maxHeartbeats 4000000
set_option maxRecDepth 100000
attribute [local irreducible] LW
theorem c_laws_f6big (w:World) (vc:Value) (cs:List UInt8) (hcs:Rd (rdL rU) w.heap vc cs)  :
    Calls Try.prog 5 #[vc] w (fun e w'=>e = .returned (.bool (decide (((4096:Nat):Int) < ((cs.length:Nat):Int))))∧Ext w w'):=by
  refine calls_mk [vc] 6 Try.func5 rfl rfl sM ?_
  have hE0:Ext w w:=Ext.refl w
  have hl_vc:=hcs.lenle
  exact wp_seq (wp_plain _ [0] rfl (lw_tvn 1 rfl (wp_seq (wp_plain _ [0,0,0,0] rfl (lw_tv 1 rfl (q_len (v:=vc) u22 rfl hcs.isSl zN (q_gtr (decide (((4096:Nat):Int) < ((cs.length:Nat):Int))) rfl rfl rfl zN (lw_tvn 1 rfl (wp_ret (post_ret [2] rfl (.bool (decide (((4096:Nat):Int) < ((cs.length:Nat):Int)))) rfl ⟨rfl,hE0⟩))))))))))
theorem z3_0 {p:Prop} (h:p:=by intro u hu; simp only [List.mem_cons,List.not_mem_nil,or_false] at hu; rcases hu with rfl | rfl | rfl | rfl | rfl <;> first | exact ⟨rfl,rfl⟩):p:=h
theorem z3_1 {p:Prop} (h:p:=by first | rfl | exact ret_bool (decide_eq_true htr) | exact ret_bool (decide_eq_true hTD.rv)):p:=h
theorem z3_2 {p:Prop} (h:p:=by have:=hLD.k; omega):p:=h
theorem c_laws_FnTrimmed (w:World) (vc:Value) (cs:List UInt8) (hcs:Rd (rdL rU) w.heap vc cs)  :
    Calls Try.prog 3 #[vc] w (fun e w'=>e = .returned (.bool true)∧Ext w w'):=by
  refine calls_mk [vc] 131 Try.func3 rfl rfl sM ?_
  have hE0:Ext w w:=Ext.refl w
  have hl_vc:=hcs.lenle
  refine wp_seq (wp_plain _ [0] rfl (lw_tvn 1 rfl (wp_seq (wp_seq (wp_plain _ [0,3] rfl (lw_tv 1 rfl (lw_call 5 [] [] [vc] rfl rfl cf5 zN (c_laws_f6big _ _ _ (hcs.ext good_u hE0)) ?_)))))))
  rintro e1 w1 ⟨rfl,hX1⟩
  refine ⟨_,rfl,hX1,?_⟩
  have hzs1:w.heap.size≤w1.heap.size:=hX1.size
  have hE1:Ext w w1:=hE0.trans hX1
  refine lw_nil ?_
  cases hb2:(decide (((4096:Nat):Int) < ((cs.length:Nat):Int)))
  ·
    have hdc3:=of_decide_eq_false hb2
    refine c_cond_f (by first | rfl | (show Value.bool _ = _; rw [hb2])) (wp_skip (wp_seq (wp_plain _ [0,3,0,0,0,0,0,0,0] rfl (lw_tv 1 rfl (lw_call 6 [] [] [vc] rfl rfl cf6 zN (c_spec_LawChain _ vc _ (hcs.ext good_u hE1) oM) ?_)))))
    rintro e4 w4 ⟨vlD,vwD,lD,wD,kD,rfl,hX4,hlD,hwD,hLD⟩
    refine ⟨_,rfl,hX4,?_⟩
    have hzs4:w1.heap.size≤w4.heap.size:=hX4.size
    have hE4:Ext w w4:=hE1.trans hX4
    have hsl:=schB_iff.1 hLD.sch
    have hkD:=hLD.k
    have hwl:=hLD.wl
    have hwg:=wg_all (w:=wD) oM hLD.wb
    have htr:=tm_rn (k:=kD) hLD.sch hwg oM
    refine lw_tv 1 rfl (q_extract (vs:=[vlD,vwD,(.int .i64 kD)]) vlD rfl rfl zN (q_extract (vs:=[vlD,vwD,(.int .i64 kD)]) vwD rfl rfl zN (q_extract (vs:=[vlD,vwD,(.int .i64 kD)]) (.int .i64 kD) rfl rfl zN (lw_tvn 3 rfl (wp_seq (wp_plain _ [0,0,0] rfl (lw_tv 1 rfl (q_len (v:=vwD) u25 rfl hwD.isSl zN (lw_tvn 1 rfl (wp_seq (wp_plain _ [0,0,0,3,0,0,0,0,0] rfl (lw_tv 3 rfl (lw_call 7 [] [] [vlD,(.int .i64 ((wD.length:Nat):Int)),(.int .i64 kD)] rfl rfl cf7 zN (c_impl_TrimSchedule _ vlD lD (((wD.length:Nat):Int)) (kD) (RN.of_frA (S:=[]) hlD (fun b hb=>by cases hb)) oM z3_2 oM) ?_)))))))))))))
    rintro e5 w5 ⟨v5,rfl,hX5,hO5⟩
    refine ⟨_,rfl,hX5,?_⟩
    have hzs5:w4.heap.size≤w5.heap.size:=hX5.size
    have hE5:Ext w w5:=hE4.trans hX5
    have hlDx5:=hlD.ext ((good_owS good_rAv)) hX5
    have hwDx5:=hwD.ext (o1) hX5
    refine lw_tv 1 rfl (q_extract (vs:=[v5,(.int .i64 (tmC lD (((wD.length:Nat):Int)) (kD)))]) v5 rfl rfl zN (q_extract (vs:=[v5,(.int .i64 (tmC lD (((wD.length:Nat):Int)) (kD)))]) (.int .i64 (tmC lD (((wD.length:Nat):Int)) (kD))) rfl rfl zN (lw_tvn 2 rfl (wp_seq (wp_plain _ [0,0,0,3,0,0,0,0,0] rfl (lw_tv 3 rfl (lw_call 8 [] [] [vlD,(.int .i64 ((wD.length:Nat):Int)),(.int .i64 kD)] rfl rfl cf8 zN (c_spec_TrimSchedule _ vlD lD (((wD.length:Nat):Int)) (kD) (RN.of_frA (S:=[]) hlDx5 (fun b hb=>by cases hb)) oM z3_2 oM) ?_)))))))
    rintro e6 w6 ⟨v6,rfl,hX6,hO6⟩
    refine ⟨_,rfl,hX6,?_⟩
    have hzs6:w5.heap.size≤w6.heap.size:=hX6.size
    have hE6:Ext w w6:=hE5.trans hX6
    have hlDx6:=hlDx5.ext ((good_owS good_rAv)) hX6
    have hwDx6:=hwDx5.ext (o1) hX6
    have hO5x6:=hO5.ext ((good_owS good_rAv)) hX6
    refine lw_tv 1 rfl (q_extract (vs:=[v6,(.int .i64 (tmC lD (((wD.length:Nat):Int)) (kD)))]) v6 rfl rfl zN (q_extract (vs:=[v6,(.int .i64 (tmC lD (((wD.length:Nat):Int)) (kD)))]) (.int .i64 (tmC lD (((wD.length:Nat):Int)) (kD))) rfl rfl zN (lw_tvn 2 rfl (wp_seq (wp_seq (wp_plain _ [0,0,0,0,0,0,3,0,0] rfl (lw_tv 2 rfl (q_neq false rfl rfl sM zN (lw_tv 3 rfl (lw_call 9 [] [] [v5,v6] rfl rfl cf9 (zS (e:=44) rfl rfl rfl) (c_laws_f6actions _ v5 (tmR lD (((wD.length:Nat):Int)) (kD)) v6 (tmR lD (((wD.length:Nat):Int)) (kD)) (RN.of_frA (S:=[]) hO5x6 (fun b hb=>by cases hb)) (RN.of_frA (S:=[]) hO6 (fun b hb=>by cases hb)) (by exact tmR_len oM) (by exact tmR_len oM)) ?_))))))))))
    rintro e7 w7 ⟨rfl,hX7⟩
    refine ⟨_,rfl,hX7,?_⟩
    have hzs7:w6.heap.size≤w7.heap.size:=hX7.size
    have hE7:Ext w w7:=hE6.trans hX7
    have hlDx7:=hlDx6.ext ((good_owS good_rAv)) hX7
    have hwDx7:=hwDx6.ext (o1) hX7
    have hO6x7:=hO6.ext ((good_owS good_rAv)) hX7
    rw [show (decide ((tmR lD (((wD.length:Nat):Int)) (kD)) = (tmR lD (((wD.length:Nat):Int)) (kD)))) = true from decide_eq_true rfl]
    refine q_not false rfl rfl (zS (e:=44) rfl rfl rfl) (lw_tvn 1 rfl (c_cond_f rfl (wp_skip (wp_seq (wp_plain _ [0,0,0,3,0,0,0,3,4,0] rfl (lw_tv 3 rfl (lw_call 10 [] [] [vlD,vwD,(.int .i64 kD)] rfl rfl cf10 zN (c_impl_RunSchedule _ vlD lD vwD wD (kD) (RN.of_frA (S:=[]) hlDx7 (fun b hb=>by cases hb)) hwDx7.rd1 z3_2) ?_)))))))
    rintro e8 w8 ⟨rfl,hX8⟩
    refine ⟨_,rfl,hX8,?_⟩
    have hzs8:w7.heap.size≤w8.heap.size:=hX8.size
    have hE8:Ext w w8:=hE7.trans hX8
    have hlDx8:=hlDx7.ext ((good_owS good_rAv)) hX8
    have hwDx8:=hwDx7.ext (o1) hX8
    have hO6x8:=hO6x7.ext ((good_owS good_rAv)) hX8
    refine lw_tv 1 rfl (q_extract (vs:=[(.agg #[(.int .i64 ((rnU lD wD (kD)).cost)),(.int .i64 ((rnU lD wD (kD)).adv)),(.int .i64 ((rnU lD wD (kD)).st)),(.int .i64 ((rnU lD wD (kD)).ld)),(.int .i64 ((rnU lD wD (kD)).sl))]),(.int .i64 (rnA lD wD (kD)))]) (.agg #[(.int .i64 ((rnU lD wD (kD)).cost)),(.int .i64 ((rnU lD wD (kD)).adv)),(.int .i64 ((rnU lD wD (kD)).st)),(.int .i64 ((rnU lD wD (kD)).ld)),(.int .i64 ((rnU lD wD (kD)).sl))]) rfl rfl zN (q_extract (vs:=[(.agg #[(.int .i64 ((rnU lD wD (kD)).cost)),(.int .i64 ((rnU lD wD (kD)).adv)),(.int .i64 ((rnU lD wD (kD)).st)),(.int .i64 ((rnU lD wD (kD)).ld)),(.int .i64 ((rnU lD wD (kD)).sl))]),(.int .i64 (rnA lD wD (kD)))]) (.int .i64 (rnA lD wD (kD))) rfl rfl zN (r_allocA (z:=.agg #[.int .i64 0,.int .i64 0,.int .i64 0,.int .i64 0,.int .i64 0]) zr32 zN fun w9 hX9 hz9 hB9=>?_)))
    have hzs9:w8.heap.size≤w9.heap.size:=hX9.size
    have hE9:Ext w w9:=hE8.trans hX9
    have hlDx9:=hlDx8.ext ((good_owS good_rAv)) hX9
    have hwDx9:=hwDx8.ext (o1) hX9
    have hO6x9:=hO6x8.ext ((good_owS good_rAv)) hX9
    replace hB9:BX w9.heap w8.heap.size [(.int .i64 0),(.int .i64 0),(.int .i64 0),(.int .i64 0),(.int .i64 0)]:=hB9
    refine e_setA (vs:=[(.int .i64 ((rnU lD wD (kD)).cost)),(.int .i64 ((rnU lD wD (kD)).adv)),(.int .i64 ((rnU lD wD (kD)).st)),(.int .i64 ((rnU lD wD (kD)).ld)),(.int .i64 ((rnU lD wD (kD)).sl))]) agg32 rfl rfl z3_0 hB9 rfl rfl zN fun w10 hC10 hz10 hB10=>?_
    replace hB10:BX w10.heap w8.heap.size [(.int .i64 ((rnU lD wD (kD)).cost)),(.int .i64 ((rnU lD wD (kD)).adv)),(.int .i64 ((rnU lD wD (kD)).st)),(.int .i64 ((rnU lD wD (kD)).ld)),(.int .i64 ((rnU lD wD (kD)).sl))]:=hB10
    have hzs10:w9.heap.size≤w10.heap.size:=hC10.size
    have hE10:Ext w w10:=hC10.below hE9 (fun c hc=>by have:=List.mem_singleton.1 hc; omega) hE9.size
    have hF12:=hwDx9.chg (o1) hC10 (fun c hc=>by have:=List.mem_singleton.1 hc; omega)
    have hF14:=hO6x9.chg ((good_owS good_rAv)) hC10 (fun c hc=>by have:=List.mem_singleton.1 hc; omega)
    refine lw_tvn 1 rfl (wp_seq (wp_seq (wp_plain _ [0,0] rfl (lw_tv 1 rfl ?_))))
    by_cases hc15:(tmC lD (((wD.length:Nat):Int)) (kD))≠((0:Nat):Int)
    ·
      exact q_neq true rfl rfl (decide_eq_true hc15) zN (lw_nil (c_cond_t rfl (wp_seq (wp_plain _ [0,0,0,0] rfl (lw_tv 2 rfl (q_eql (decide ((rnA lD wD (kD)) = (tmC lD (((wD.length:Nat):Int)) (kD)))) rfl rfl rfl zN (lw_tvn 1 rfl (wp_ret (t_ret (post_ret [2] rfl (.bool (decide ((rnA lD wD (kD)) = (tmC lD (((wD.length:Nat):Int)) (kD))))) rfl ⟨z3_1,hE10⟩))))))))))
    ·
      refine q_neq false rfl rfl (decide_eq_false hc15) zN (lw_nil (c_cond_f rfl (wp_skip (wp_seq (wp_plain _ [0,0,0,3,0,0,0,3,4,0] rfl ?_)))))
      have hTD:=tmD hLD.sch hwg (k:=kD) oM oM
      have hsl2:=schB_iff.1 hTD.sch
      have hrm16:Fr (owS 2 rAv 75) w5.heap.size w6.heap.size w10.heap v6 ((trmF lD)):=by have h:=hF14; rw [tmR_0 oM] at h; exact h
      refine lw_tv 3 rfl (lw_call 10 [] [] [v6,vwD,(.int .i64 kD)] rfl rfl cf10 zN (c_impl_RunSchedule _ v6 (trmF lD) vwD wD (kD) (RN.of_frA (S:=[]) hrm16 (fun b hb=>by cases hb)) hF12.rd1 z3_2) ?_)
      rintro e17 w17 ⟨rfl,hX17⟩
      refine ⟨_,rfl,hX17,?_⟩
      have hzs17:w10.heap.size≤w17.heap.size:=hX17.size
      have hE17:Ext w w17:=hE10.trans hX17
      have hrm16x17:=hrm16.ext ((good_owS good_rAv)) hX17
      have hB10x17:=hB10.ext hX17
      refine lw_tv 1 rfl (q_extract (vs:=[(.agg #[(.int .i64 ((rnU (trmF lD) wD (kD)).cost)),(.int .i64 ((rnU (trmF lD) wD (kD)).adv)),(.int .i64 ((rnU (trmF lD) wD (kD)).st)),(.int .i64 ((rnU (trmF lD) wD (kD)).ld)),(.int .i64 ((rnU (trmF lD) wD (kD)).sl))]),(.int .i64 (rnA (trmF lD) wD (kD)))]) (.agg #[(.int .i64 ((rnU (trmF lD) wD (kD)).cost)),(.int .i64 ((rnU (trmF lD) wD (kD)).adv)),(.int .i64 ((rnU (trmF lD) wD (kD)).st)),(.int .i64 ((rnU (trmF lD) wD (kD)).ld)),(.int .i64 ((rnU (trmF lD) wD (kD)).sl))]) rfl rfl zN (q_extract (vs:=[(.agg #[(.int .i64 ((rnU (trmF lD) wD (kD)).cost)),(.int .i64 ((rnU (trmF lD) wD (kD)).adv)),(.int .i64 ((rnU (trmF lD) wD (kD)).st)),(.int .i64 ((rnU (trmF lD) wD (kD)).ld)),(.int .i64 ((rnU (trmF lD) wD (kD)).sl))]),(.int .i64 (rnA (trmF lD) wD (kD)))]) (.int .i64 (rnA (trmF lD) wD (kD))) rfl rfl zN ?_))
      have hq19:=hB10x17.lt
      refine r_allocA (z:=.agg #[.int .i64 0,.int .i64 0,.int .i64 0,.int .i64 0,.int .i64 0]) zr32 zN fun w18 hX18 hz18 hB18=>?_
      have hzs18:w17.heap.size≤w18.heap.size:=hX18.size
      have hE18:Ext w w18:=hE17.trans hX18
      have hrm16x18:=hrm16x17.ext ((good_owS good_rAv)) hX18
      have hB10x18:=hB10x17.ext hX18
      replace hB18:BX w18.heap w17.heap.size [(.int .i64 0),(.int .i64 0),(.int .i64 0),(.int .i64 0),(.int .i64 0)]:=hB18
      refine e_setA (vs:=[(.int .i64 ((rnU (trmF lD) wD (kD)).cost)),(.int .i64 ((rnU (trmF lD) wD (kD)).adv)),(.int .i64 ((rnU (trmF lD) wD (kD)).st)),(.int .i64 ((rnU (trmF lD) wD (kD)).ld)),(.int .i64 ((rnU (trmF lD) wD (kD)).sl))]) agg32 rfl rfl z3_0 hB18 rfl rfl zN fun w20 hC20 hz20 hB20=>?_
      replace hB20:BX w20.heap w17.heap.size [(.int .i64 ((rnU (trmF lD) wD (kD)).cost)),(.int .i64 ((rnU (trmF lD) wD (kD)).adv)),(.int .i64 ((rnU (trmF lD) wD (kD)).st)),(.int .i64 ((rnU (trmF lD) wD (kD)).ld)),(.int .i64 ((rnU (trmF lD) wD (kD)).sl))]:=hB20
      have hzs20:w18.heap.size≤w20.heap.size:=hC20.size
      have hE20:Ext w w20:=hC20.below hE18 (fun c hc=>by have:=List.mem_singleton.1 hc; omega) hE18.size
      have hF24:=hrm16x18.chg ((good_owS good_rAv)) hC20 (fun c hc=>by have:=List.mem_singleton.1 hc; omega)
      have hF25:=hB10x18.chg hC20 (fun hm=>by have:=List.mem_singleton.1 hm; omega)
      refine lw_tvn 1 rfl (wp_seq (wp_plain _ [0,0,0,3,0,0,0,0,0] rfl (lw_tv 3 rfl (lw_call 7 [] [] [v6,(.int .i64 ((wD.length:Nat):Int)),(.int .i64 kD)] rfl rfl cf7 zN (c_impl_TrimSchedule _ v6 (trmF lD) (((wD.length:Nat):Int)) (kD) (RN.of_frA (S:=[]) hF24 (fun b hb=>by cases hb)) oM z3_2 oM) ?_))))
      rintro e26 w26 ⟨v26,rfl,hX26,hO26⟩
      refine ⟨_,rfl,hX26,?_⟩
      have hzs26:w20.heap.size≤w26.heap.size:=hX26.size
      have hE26:Ext w w26:=hE20.trans hX26
      have hF24x26:=hF24.ext ((good_owS good_rAv)) hX26
      have hF25x26:=hF25.ext hX26
      have hB20x26:=hB20.ext hX26
      refine lw_tv 1 rfl (q_extract (vs:=[v26,(.int .i64 (tmC (trmF lD) (((wD.length:Nat):Int)) (kD)))]) v26 rfl rfl zN (q_extract (vs:=[v26,(.int .i64 (tmC (trmF lD) (((wD.length:Nat):Int)) (kD)))]) (.int .i64 (tmC (trmF lD) (((wD.length:Nat):Int)) (kD))) rfl rfl zN (lw_tvn 2 rfl (wp_seq (wp_seq (wp_plain _ [0,0,0,0,0,0,0,0,0,0,0,0,0,3,0,0] rfl (lw_tv 1 rfl ?_)))))))
      have hc27:¬ ((rnA lD wD (kD))≠((0:Nat):Int)):=(fun h9=>h9 hTD.u0)
      refine q_neq false rfl rfl (decide_eq_false hc27) zN (lw_tv 2 rfl ?_)
      have hc28:¬ ((rnA (trmF lD) wD (kD))≠((0:Nat):Int)):=(fun h9=>h9 hTD.v0)
      refine q_neq false rfl rfl (decide_eq_false hc28) (zS (e:=78) rfl rfl rfl) (lw_tv 3 rfl ?_)
      have hc29:¬ ((tmC (trmF lD) (((wD.length:Nat):Int)) (kD))≠((0:Nat):Int)):=(fun h9=>h9 hTD.c)
      refine q_neq false rfl rfl (decide_eq_false hc29) (zS (e:=82) rfl rfl rfl) (lw_tv 4 rfl (lw_call 9 [] [] [v26,v6] rfl rfl cf9 (zS (e:=86) rfl rfl rfl) (c_laws_f6actions _ v26 (tmR (trmF lD) (((wD.length:Nat):Int)) (kD)) v6 (trmF lD) (RN.of_frA (S:=[]) hO26 (fun b hb=>by cases hb)) (RN.of_frA (S:=[]) hF24x26 (fun b hb=>by cases hb)) (by rw [hTD.r]; omega) oM) ?_))
      rintro e30 w30 ⟨rfl,hX30⟩
      refine ⟨_,rfl,hX30,?_⟩
      have hzs30:w26.heap.size≤w30.heap.size:=hX30.size
      have hE30:Ext w w30:=hE26.trans hX30
      have hF24x30:=hF24x26.ext ((good_owS good_rAv)) hX30
      have hF25x30:=hF25x26.ext hX30
      have hB20x30:=hB20x26.ext hX30
      rw [show (decide ((tmR (trmF lD) (((wD.length:Nat):Int)) (kD)) = (trmF lD))) = true from decide_eq_true hTD.r]
      refine q_not false rfl rfl (zS (e:=86) rfl rfl rfl) (lw_tvn 1 rfl (c_cond_f rfl (wp_skip (wp_seq (wp_plain _ [0,2,0,2,0,0,0,2,0,2,0,0,0,0,2,0,2,0,0,0,0,2,0,2,0,0,0,0,2,0,2,0,0,0,0,3,0,0,0,0] rfl (q_fldP (p:=(.pointer (some ⟨w17.heap.size,0,none⟩))) (b:=w17.heap.size) (o:=0) 0 fd32_0 rfl rfl zN (q_load (p:=(padd (.pointer (some ⟨w17.heap.size,0,none⟩)) 0)) (.inr rfl) (.int .i64 ((rnU (trmF lD) wD (kD)).cost)) one2 rfl (hB20x30.ldp (i:=0) sM) zN (q_fldP (p:=(.pointer (some ⟨w8.heap.size,0,none⟩))) (b:=w8.heap.size) (o:=0) 0 fd32_0 rfl rfl zN (q_load (p:=(padd (.pointer (some ⟨w8.heap.size,0,none⟩)) 0)) (.inr rfl) (.int .i64 ((rnU lD wD (kD)).cost)) one2 rfl (hF25x30.ldp (i:=0) sM) zN ?_)))))))))
      have hc31:(rnU (trmF lD) wD (kD)).cost≤(rnU lD wD (kD)).cost:=hTD.cost
      refine q_leq true rfl rfl (decide_eq_true hc31) zN (lw_tv 1 rfl (q_fldP (p:=(.pointer (some ⟨w17.heap.size,0,none⟩))) (b:=w17.heap.size) (o:=0) 1 fd32_1 rfl rfl (zS (e:=97) rfl rfl rfl) (q_load (p:=(padd (.pointer (some ⟨w17.heap.size,0,none⟩)) 1)) (.inr rfl) (.int .i64 ((rnU (trmF lD) wD (kD)).adv)) one2 rfl (hB20x30.ldp (i:=1) sM) (zS (e:=97) rfl rfl rfl) (q_fldP (p:=(.pointer (some ⟨w8.heap.size,0,none⟩))) (b:=w8.heap.size) (o:=0) 1 fd32_1 rfl rfl (zS (e:=97) rfl rfl rfl) (q_load (p:=(padd (.pointer (some ⟨w8.heap.size,0,none⟩)) 1)) (.inr rfl) (.int .i64 ((rnU lD wD (kD)).adv)) one2 rfl (hF25x30.ldp (i:=1) sM) (zS (e:=97) rfl rfl rfl) ?_)))))
      have hc32:(rnU (trmF lD) wD (kD)).adv≤(rnU lD wD (kD)).adv:=hTD.adv
      refine q_leq true rfl rfl (decide_eq_true hc32) (zS (e:=97) rfl rfl rfl) (lw_tv 2 rfl (q_fldP (p:=(.pointer (some ⟨w17.heap.size,0,none⟩))) (b:=w17.heap.size) (o:=0) 2 fd32_2 rfl rfl (zS (e:=104) rfl rfl rfl) (q_load (p:=(padd (.pointer (some ⟨w17.heap.size,0,none⟩)) 2)) (.inr rfl) (.int .i64 ((rnU (trmF lD) wD (kD)).st)) one2 rfl (hB20x30.ldp (i:=2) sM) (zS (e:=104) rfl rfl rfl) (q_fldP (p:=(.pointer (some ⟨w8.heap.size,0,none⟩))) (b:=w8.heap.size) (o:=0) 2 fd32_2 rfl rfl (zS (e:=104) rfl rfl rfl) (q_load (p:=(padd (.pointer (some ⟨w8.heap.size,0,none⟩)) 2)) (.inr rfl) (.int .i64 ((rnU lD wD (kD)).st)) one2 rfl (hF25x30.ldp (i:=2) sM) (zS (e:=104) rfl rfl rfl) ?_)))))
      have hc33:(rnU (trmF lD) wD (kD)).st≤(rnU lD wD (kD)).st:=hTD.st
      refine q_leq true rfl rfl (decide_eq_true hc33) (zS (e:=104) rfl rfl rfl) (lw_tv 2 rfl (q_fldP (p:=(.pointer (some ⟨w17.heap.size,0,none⟩))) (b:=w17.heap.size) (o:=0) 3 fd32_3 rfl rfl (zS (e:=111) rfl rfl rfl) (q_load (p:=(padd (.pointer (some ⟨w17.heap.size,0,none⟩)) 3)) (.inr rfl) (.int .i64 ((rnU (trmF lD) wD (kD)).ld)) one2 rfl (hB20x30.ldp (i:=3) sM) (zS (e:=111) rfl rfl rfl) (q_fldP (p:=(.pointer (some ⟨w8.heap.size,0,none⟩))) (b:=w8.heap.size) (o:=0) 3 fd32_3 rfl rfl (zS (e:=111) rfl rfl rfl) (q_load (p:=(padd (.pointer (some ⟨w8.heap.size,0,none⟩)) 3)) (.inr rfl) (.int .i64 ((rnU lD wD (kD)).ld)) one2 rfl (hF25x30.ldp (i:=3) sM) (zS (e:=111) rfl rfl rfl) ?_)))))
      have hc34:(rnU (trmF lD) wD (kD)).ld≤(rnU lD wD (kD)).ld:=hTD.ld
      refine q_leq true rfl rfl (decide_eq_true hc34) (zS (e:=111) rfl rfl rfl) (lw_tv 2 rfl (q_fldP (p:=(.pointer (some ⟨w17.heap.size,0,none⟩))) (b:=w17.heap.size) (o:=0) 2 fd32_2 rfl rfl (zS (e:=118) rfl rfl rfl) (q_load (p:=(padd (.pointer (some ⟨w17.heap.size,0,none⟩)) 2)) (.inr rfl) (.int .i64 ((rnU (trmF lD) wD (kD)).st)) one2 rfl (hB20x30.ldp (i:=2) sM) (zS (e:=118) rfl rfl rfl) (q_fldP (p:=(.pointer (some ⟨w17.heap.size,0,none⟩))) (b:=w17.heap.size) (o:=0) 3 fd32_3 rfl rfl (zS (e:=118) rfl rfl rfl) (q_load (p:=(padd (.pointer (some ⟨w17.heap.size,0,none⟩)) 3)) (.inr rfl) (.int .i64 ((rnU (trmF lD) wD (kD)).ld)) one2 rfl (hB20x30.ldp (i:=3) sM) (zS (e:=118) rfl rfl rfl) ?_)))))
      have hc35:(rnU (trmF lD) wD (kD)).st≤(rnU (trmF lD) wD (kD)).ld:=hTD.sl
      refine q_leq true rfl rfl (decide_eq_true hc35) (zS (e:=118) rfl rfl rfl) (lw_tv 3 rfl (lw_call 11 [] [] [v6] rfl rfl cf11 (zS (e:=125) rfl rfl rfl) (c_laws_f6reversed _ v6 (trmF lD) (RN.of_frA (S:=[]) hF24x30 (fun b hb=>by cases hb)) oM) ?_))
      rintro e36 w36 ⟨rfl,hX36⟩
      refine ⟨_,rfl,hX36,?_⟩
      have hzs36:w30.heap.size≤w36.heap.size:=hX36.size
      have hE36:Ext w w36:=hE30.trans hX36
      exact lw_tv 1 rfl (q_eql (decide (cntK 4 (trmF lD) = ((wD.length:Nat):Int))) rfl rfl rfl (zS (e:=125) rfl rfl rfl) (lw_tvn 2 rfl (wp_ret (post_ret [2] rfl (.bool (decide (cntK 4 (trmF lD) = ((wD.length:Nat):Int)))) rfl ⟨z3_1,hE36⟩))))
  ·
    have hdc37:=of_decide_eq_true hb2
    exact c_cond_t (by first | rfl | (show Value.bool _ = _; rw [hb2])) (wp_seq (wp_plain _ [0] rfl (lw_tvn 1 rfl (wp_ret (t_ret (post_ret [2] rfl (.bool true) rfl ⟨z3_1,hE1⟩))))))
end Go.Proofs.Ytemfgblmfahllaa
