/- Ze: texts of this claim, joined; what the claim does not come to is left out. -/
import Derived.Test.YtlbefjfhfodnlaaGreatDoorQC3
import Derived.Test.YtlbefjfhfodnlaaGreatDoorProg
set_option linter.unusedVariables false
set_option linter.unusedSimpArgs false
namespace Go.Proofs.YtlbefjfhfodnlaaGreatDoor
open Go Go.RowKit
set_option linter.unusedVariables false
set_option linter.unusedSimpArgs false
set_option maxHeartbeats 4000000
set_option maxRecDepth 100000
attribute [local irreducible] LW
theorem c_laws_f6big (w:World) (vc:Value) (cs:List UInt8) (hcs:Rd (rdL rU) w.heap vc cs)  :
    Calls Tryz.prog 6 #[vc] w (fun e w'=>e = .returned (.bool (decide (((4096:Nat):Int) < ((cs.length:Nat):Int))))∧Ext w w'):=by
  refine calls_mk [vc] 6 Tryz.func6 rfl rfl sM ?_
  have hE0:Ext w w:=Ext.refl w
  have hl_vc:=hcs.lenle
  exact wp_seq (wp_plain _ [0] rfl (lw_tvn 1 rfl (wp_seq (wp_plain _ [0,0,0,0] rfl (lw_tv 1 rfl (q_len (v:=vc) u22 rfl hcs.isSl zN (q_gtr (decide (((4096:Nat):Int) < ((cs.length:Nat):Int))) rfl rfl rfl zN (lw_tvn 1 rfl (wp_ret (post_ret [2] rfl (.bool (decide (((4096:Nat):Int) < ((cs.length:Nat):Int)))) rfl ⟨rfl,hE0⟩))))))))))
theorem z44_0 {p:Prop} (h:p:=by first | (exfalso; (have h8:(!(decide (0≤ws.getD i 0) && decide (ws.getD i 0≤1000))) = true:=(by assumption)); rw [decide_eq_true hwi.1,decide_eq_true hwi.2] at h8; cases h8) | exact ret_bool rfl | exact ret_bool (by simp; omega)):p:=h
theorem c_spec_l06Weights (w:World) (va:Value) (ws:List Int) (hws:Rd (rdL rI) w.heap va ws) (hw:∀ i,0≤ws.getD i 0∧ws.getD i 0≤1000) (hwn:ws.length≤40) :
    Calls Tryz.prog 44 #[va] w (fun e w'=>e = .returned (.bool true)∧Ext w w'):=by
  refine calls_mk [va] 19 Tryz.func44 rfl rfl sM ?_
  have hE0:Ext w w:=Ext.refl w
  have hl_va:=hws.lenle
  refine wp_seq (wp_plain _ [0] rfl (lw_tvn 1 rfl (wp_seq (wp_seq (wp_plain _ [0] rfl (lw_tvn 1 rfl (wp_block (c_loop (S:=Nat) (fun (i:Nat)=>([(3,(.int .i64 ((i:Nat):Int))),(0,va)]:List (Nat × Value))) (fun (i:Nat) (W:World)=>Ext w W∧i≤ws.length) (fun (i:Nat)=>ws.length - i) 0 ⟨rfl,rfl,trivial⟩ ⟨hE0,sD⟩ ?_))))))))
  clear hE0
  rintro i ρ1 w1 ⟨hE1,hp1_0⟩
  have hzs1:w.heap.size≤w1.heap.size:=hE1.size
  refine wp_seq (wp_seq (wp_plain _ [0,0,0,0] rfl (lw_tv 2 rfl (q_len (v:=va) u25 rfl hws.isSl zN ?_))))
  by_cases hc2:((i:Nat):Int) < ((ws.length:Nat):Int)
  ·
    refine q_lss true rfl rfl (decide_eq_true hc2) zN (lw_nil (c_cond_t rfl (wp_skip (wp_seq (wp_block (wp_seq (wp_plain _ [0,0,0,2,0,0] rfl ?_)))))))
    have hwi:=hw i
    refine lw_tv 2 rfl (q_idx (v:=va) i u25 ti2 rfl rfl hws.isSl rfl sD zN ?_)
    refine q_load (p:=eptr va i 1) (.inr rfl) (.int .i64 (ws.getD i 0)) one2 rfl (ldH_ext hE1 (hws.getI sD).1) zN ?_
    refine lw_callq 45 [] [] [(.int .i64 (ws.getD i 0)),(.int .i64 ((0:Nat):Int)),(.int .i64 ((1000:Nat):Int))] rfl rfl cf45 zN (.bool (decide (((0:Nat):Int)≤(ws.getD i 0)) && decide ((ws.getD i 0)≤((1000:Nat):Int)))) (fun wq=>c_spec_l00In wq _ _ _ (hws.getI sD).2 oM oM) (q_not (!(decide (((0:Nat):Int)≤(ws.getD i 0)) && decide ((ws.getD i 0)≤((1000:Nat):Int)))) rfl rfl zN (lw_nil ?_))
    cases hb4:(!(decide (((0:Nat):Int)≤(ws.getD i 0)) && decide ((ws.getD i 0)≤((1000:Nat):Int))))
    ·
      refine c_cond_f (by first | rfl | (show Value.bool _ = _; rw [hb4])) (wp_skip (wp_plain _ [0,0,0] rfl (lw_tv 1 rfl (q_add ((i + 1:Nat):Int) rfl rfl (w64n oM sD) zN (lw_tvn 1 rfl ?_)))))
      exact ⟨(i + 1),_,rfl,⟨rfl,rfl,trivial⟩,⟨hE1,sD⟩,by first | omega | (dsimp only; omega)⟩
    ·
      exact c_cond_t (by first | rfl | (show Value.bool _ = _; rw [hb4])) (wp_seq (wp_plain _ [0] rfl (lw_tvn 1 rfl (wp_ret (b_ret (t_ret (t_ret (b_ret (t_ret (post_ret [2] rfl (.bool false) rfl ⟨z44_0,hE1⟩))))))))))
  ·
    exact q_lss false rfl rfl (decide_eq_false hc2) zN (lw_nil (c_cond_f rfl (wp_exit (t_exit (t_exit (c_exit_here (wp_seq (wp_plain _ [0,0,0,0] rfl (lw_tv 1 rfl (q_len (v:=va) u25 rfl hws.isSl zN (q_leq (decide (((ws.length:Nat):Int)≤((40:Nat):Int))) rfl rfl rfl zN (lw_tvn 1 rfl (wp_ret (post_ret [2] rfl (.bool (decide (((ws.length:Nat):Int)≤((40:Nat):Int)))) rfl ⟨z44_0,hE1⟩))))))))))))))
theorem z9_0 {p:Prop} (h:p:=by first | (exfalso; simp_all; done) | (exfalso; simp_all; omega) | ((have h8:bdB l ws.length kq = true:=(by assumption)); (have h7:fbS l (bgn ((ws.length:Nat):Int) kq) 0≠-1:=(by unfold bdB at h8; simpa using h8)); (have h6:=usC_4 h7); rw [rnU_n (by rw [hA,h6]; omega),hA,h6]; rfl) | (rw [hU,hA,usC_0 hfb]; rfl)):p:=h
theorem z9_1 {p:Prop} (h:p:=by intro u hu; simp only [List.mem_cons,List.not_mem_nil,or_false] at hu; rcases hu with rfl | rfl | rfl | rfl | rfl <;> first | exact ⟨rfl,rfl⟩):p:=h
theorem z9_2 {p:Prop} (h:p:=by simp only [List.map_toArray,List.map_cons,List.map_nil]):p:=h
theorem c_spec_RunSchedule (w:World) (va:Value) (l:List Av) (vw:Value) (ws:List Int) (k:Int) (hl:RN [] (rdS 2 rAv) w.heap va l) (hws:Rd (rdL rI) w.heap vw ws) (_hk:-9223372036854775808≤k∧k≤9223372036854775807) (hok:schB l = true∧wgB ws = true) (hk8:0≤k∧k≤8) :
    Calls Tryz.prog 9 #[va,vw,.int .i64 k] w (fun e w'=>e = .returned (.tuple #[usV (rnU l ws k),.int .i64 (rnA l ws k)])∧Ext w w'):=by
  refine calls_mk [va,vw,.int .i64 k] 37 Tryz.func9 rfl rfl sM ?_
  have hE0:Ext w w:=Ext.refl w
  have hl_vw:=hws.lenle
  have hsl:=schB_iff.1 hok.1
  have hwl:=wgB_iff.1 hok.2
  have hA:=rnA_0 hok hk8
  have hU:=rnU_u hok hk8
  refine wp_seq (wp_plain _ [3,0] rfl (r_allocA (z:=.agg #[.int .i64 0,.int .i64 0,.int .i64 0,.int .i64 0,.int .i64 0]) zr29 zN fun w1 hX1 hz1 hB1=>?_))
  have hzs1:w.heap.size≤w1.heap.size:=hX1.size
  have hE1:Ext w w1:=hE0.trans hX1
  replace hB1:BX w1.heap w.heap.size [(.int .i64 0),(.int .i64 0),(.int .i64 0),(.int .i64 0),(.int .i64 0)]:=hB1
  refine lw_tvn 1 rfl (wp_seq (wp_seq (wp_plain _ [0,3,0,0,0,3,0,0] rfl (lw_tv 1 rfl (lw_call 40 [] [] [va] rfl rfl cf40 zN (c_spec_l06Schedule _ va l (hl.ext (good_rdS good_rAv) hE1) oM) ?_)))))
  rintro e2 w2 ⟨rfl,hX2⟩
  refine ⟨_,rfl,hX2,?_⟩
  have hzs2:w1.heap.size≤w2.heap.size:=hX2.size
  have hE2:Ext w w2:=hE1.trans hX2
  have hB1x2:=hB1.ext hX2
  refine q_not (!(schB l)) rfl rfl zN (lw_tv 1 rfl ?_)
  cases hb3:(!(schB l))
  ·
    refine lw_tv 1 rfl (lw_call 44 [] [] [vw] rfl rfl cf44 (zS (e:=13) rfl rfl rfl) (c_spec_l06Weights _ _ _ (hws.ext g1 hE2) (by exact hwl.2) (by exact hwl.1)) ?_)
    rintro e4 w4 ⟨rfl,hX4⟩
    refine ⟨_,rfl,hX4,?_⟩
    have hzs4:w2.heap.size≤w4.heap.size:=hX4.size
    have hE4:Ext w w4:=hE2.trans hX4
    have hB1x4:=hB1x2.ext hX4
    refine q_not false rfl rfl (zS (e:=13) rfl rfl rfl) (lw_tvn 1 rfl (c_cond_f rfl (wp_skip (wp_seq (wp_seq (wp_plain _ [0,0,0] rfl (lw_tv 1 rfl (lw_callq 45 [] [] [(.int .i64 k),(.int .i64 ((0:Nat):Int)),(.int .i64 ((8:Nat):Int))] rfl rfl cf45 zN (.bool (decide (((0:Nat):Int)≤k) && decide (k≤((8:Nat):Int)))) (fun wq=>c_spec_l00In wq _ _ _ _hk oM oM) (q_not (!(decide (((0:Nat):Int)≤k) && decide (k≤((8:Nat):Int)))) rfl rfl zN (lw_nil ?_))))))))))
    cases hb6:(!(decide (((0:Nat):Int)≤k) && decide (k≤((8:Nat):Int))))
    ·
      refine c_cond_f (by first | rfl | (show Value.bool _ = _; rw [hb6])) (wp_skip (wp_seq (wp_seq (wp_plain _ [0,0,0,0,3,0,0,0,0,0] rfl ?_))))
      generalize hg_kq:k = kqI at *
      obtain ⟨kq,rfl⟩:∃ n:Nat,kqI = ((n:Nat):Int):=⟨kqI.toNat,by omega⟩
      rw [Int.toNat_natCast] at hA hU
      refine lw_tv 2 rfl (q_len (v:=vw) u25 rfl hws.isSl zN (lw_tv 1 rfl ?_))
      refine lw_call 46 [] [] [va,(.int .i64 ((ws.length:Nat):Int)),(.int .i64 ((kq:Nat):Int))] rfl rfl cf46 zN (c_spec_l06Bad _ va l (ws.length) (kq) (hl.ext (good_rdS good_rAv) hE4) sD sD oM oM (by exact hsl.2)) ?_
      rintro e7 w7 ⟨rfl,hX7⟩
      refine ⟨_,rfl,hX7,?_⟩
      have hzs7:w4.heap.size≤w7.heap.size:=hX7.size
      have hE7:Ext w w7:=hE4.trans hX7
      have hB1x7:=hB1x4.ext hX7
      refine lw_tv 1 rfl (q_extract (vs:=[(.int .i64 (bdI l ws.length kq)),(.bool (bdB l ws.length kq))]) (.int .i64 (bdI l ws.length kq)) rfl rfl zN (q_extract (vs:=[(.int .i64 (bdI l ws.length kq)),(.bool (bdB l ws.length kq))]) (.bool (bdB l ws.length kq)) rfl rfl zN (lw_tvn 2 rfl (wp_seq (wp_plain _ [0] rfl (lw_tvn 1 rfl ?_))))))
      cases hb8:(bdB l ws.length kq)
      ·
        refine c_cond_f (by first | rfl | (show Value.bool _ = _; rw [hb8])) (wp_skip (wp_seq (wp_plain _ [0,0,0,3,4,0] rfl ?_)))
        have hfb:fbS l (bgn ((ws.length:Nat):Int) kq) 0 = -1:=by (have h8:bdB l ws.length kq = false:=(by assumption)); unfold bdB at h8; simpa using h8
        refine lw_tv 3 rfl (lw_call 47 [] [] [va,vw,(.int .i64 ((kq:Nat):Int))] rfl rfl cf47 zN (c_spec_l06Used _ va l vw ws kq (hl.ext (good_rdS good_rAv) hE7) (hws.ext g1 hE7) oM oM oM (by exact hsl.2) (by exact hwl.2) (by exact hfb)) ?_)
        rintro e9 w9 ⟨rfl,hX9⟩
        refine ⟨_,rfl,hX9,?_⟩
        have hzs9:w7.heap.size≤w9.heap.size:=hX9.size
        have hE9:Ext w w9:=hE7.trans hX9
        have hB1x9:=hB1x7.ext hX9
        refine e_setA (vs:=[(.int .i64 ((usR l ws kq).cost)),(.int .i64 ((usR l ws kq).adv)),(.int .i64 ((usR l ws kq).st)),(.int .i64 ((usR l ws kq).ld)),(.int .i64 ((usR l ws kq).sl))]) agg29 rfl rfl z9_1 hB1x9 rfl rfl zN fun w10 hC10 hz10 hB10=>?_
        replace hB10:BX w10.heap w.heap.size [(.int .i64 ((usR l ws kq).cost)),(.int .i64 ((usR l ws kq).adv)),(.int .i64 ((usR l ws kq).st)),(.int .i64 ((usR l ws kq).ld)),(.int .i64 ((usR l ws kq).sl))]:=hB10
        have hE10:Ext w w10:=hC10.below hE9 (fun c hc=>by have:=List.mem_singleton.1 hc; omega) hE9.size
        have hzs10:w9.heap.size≤w10.heap.size:=hC10.size
        exact lw_tvn 1 rfl (wp_ret (post_retC (t0:=7) (ts:=[]) (cs:=[(.int .i64 ((usR l ws kq).cost)),(.int .i64 ((usR l ws kq).adv)),(.int .i64 ((usR l ws kq).st)),(.int .i64 ((usR l ws kq).ld)),(.int .i64 ((usR l ws kq).sl))]) [(.int .i64 ((0:Nat):Int))] rfl agg29 rfl hB10 rfl rfl ⟨z9_0,hE10⟩))
      ·
        refine c_cond_t (by first | rfl | (show Value.bool _ = _; rw [hb8])) (wp_seq (wp_plain _ [0,4,0] rfl ?_))
        have hbd11:∀ (wq:World),(Instr.build 29 #[]).run Tryz.prog wq = .ok (.agg #[(.int .i64 0),(.int .i64 0),(.int .i64 0),(.int .i64 0),(.int .i64 0)]) wq:=by intro wq; kernel_rfl
        refine q_build (ps:=#[]) (.agg #[(.int .i64 0),(.int .i64 0),(.int .i64 0),(.int .i64 0),(.int .i64 0)]) z9_2 (fun wq=>hbd11  wq) zN (e_setA (vs:=[(.int .i64 0),(.int .i64 0),(.int .i64 0),(.int .i64 0),(.int .i64 0)]) agg29 rfl rfl z9_1 hB1x7 rfl rfl zN fun w12 hC12 hz12 hB12=>?_)
        replace hB12:BX w12.heap w.heap.size [(.int .i64 0),(.int .i64 0),(.int .i64 0),(.int .i64 0),(.int .i64 0)]:=hB12
        have hE12:Ext w w12:=hC12.below hE7 (fun c hc=>by have:=List.mem_singleton.1 hc; omega) hE7.size
        have hzs12:w7.heap.size≤w12.heap.size:=hC12.size
        exact lw_tvn 1 rfl (wp_ret (t_ret (post_retC (t0:=7) (ts:=[]) (cs:=[(.int .i64 0),(.int .i64 0),(.int .i64 0),(.int .i64 0),(.int .i64 0)]) [(.int .i64 ((4:Nat):Int))] rfl agg29 rfl hB12 rfl rfl ⟨z9_0,hE12⟩)))
    ·
      refine c_cond_t (by first | rfl | (show Value.bool _ = _; rw [hb6])) (wp_seq (wp_plain _ [0,4,0] rfl ?_))
      have hbd13:∀ (wq:World),(Instr.build 29 #[]).run Tryz.prog wq = .ok (.agg #[(.int .i64 0),(.int .i64 0),(.int .i64 0),(.int .i64 0),(.int .i64 0)]) wq:=by intro wq; kernel_rfl
      refine q_build (ps:=#[]) (.agg #[(.int .i64 0),(.int .i64 0),(.int .i64 0),(.int .i64 0),(.int .i64 0)]) z9_2 (fun wq=>hbd13  wq) zN (e_setA (vs:=[(.int .i64 0),(.int .i64 0),(.int .i64 0),(.int .i64 0),(.int .i64 0)]) agg29 rfl rfl z9_1 hB1x4 rfl rfl zN fun w14 hC14 hz14 hB14=>?_)
      replace hB14:BX w14.heap w.heap.size [(.int .i64 0),(.int .i64 0),(.int .i64 0),(.int .i64 0),(.int .i64 0)]:=hB14
      have hE14:Ext w w14:=hC14.below hE4 (fun c hc=>by have:=List.mem_singleton.1 hc; omega) hE4.size
      have hzs14:w4.heap.size≤w14.heap.size:=hC14.size
      exact lw_tvn 1 rfl (wp_ret (t_ret (post_retC (t0:=7) (ts:=[]) (cs:=[(.int .i64 0),(.int .i64 0),(.int .i64 0),(.int .i64 0),(.int .i64 0)]) [(.int .i64 ((2:Nat):Int))] rfl agg29 rfl hB14 rfl rfl ⟨z9_0,hE14⟩)))
  ·
    refine lw_tvn 4 rfl (c_cond_t rfl (wp_seq (wp_plain _ [0,4,0] rfl ?_)))
    have hbd15:∀ (wq:World),(Instr.build 29 #[]).run Tryz.prog wq = .ok (.agg #[(.int .i64 0),(.int .i64 0),(.int .i64 0),(.int .i64 0),(.int .i64 0)]) wq:=by intro wq; kernel_rfl
    refine q_build (ps:=#[]) (.agg #[(.int .i64 0),(.int .i64 0),(.int .i64 0),(.int .i64 0),(.int .i64 0)]) z9_2 (fun wq=>hbd15  wq) zN (e_setA (vs:=[(.int .i64 0),(.int .i64 0),(.int .i64 0),(.int .i64 0),(.int .i64 0)]) agg29 rfl rfl z9_1 hB1x2 rfl rfl zN fun w16 hC16 hz16 hB16=>?_)
    replace hB16:BX w16.heap w.heap.size [(.int .i64 0),(.int .i64 0),(.int .i64 0),(.int .i64 0),(.int .i64 0)]:=hB16
    have hE16:Ext w w16:=hC16.below hE2 (fun c hc=>by have:=List.mem_singleton.1 hc; omega) hE2.size
    have hzs16:w2.heap.size≤w16.heap.size:=hC16.size
    exact lw_tvn 1 rfl (wp_ret (t_ret (post_retC (t0:=7) (ts:=[]) (cs:=[(.int .i64 0),(.int .i64 0),(.int .i64 0),(.int .i64 0),(.int .i64 0)]) [(.int .i64 ((1:Nat):Int))] rfl agg29 rfl hB16 rfl rfl ⟨z9_0,hE16⟩)))
theorem z15_0 {p:Prop} (h:p:=by first | exact ⟨ret_two (fbX_n oM) (fbY_n oM),hE3⟩ | exact ⟨ret_two (fbX_p oM) (fbY_p oM),hE3⟩):p:=h
theorem c_impl_FirstBadAction (w:World) (va:Value) (l:List Av) (n:Nat) (k:Nat) (hl:RN [] (rdS 2 rAv) w.heap va l) (_hn:n≤1000000000000) (_hk:k≤1000000000000) (hpl:schB l = true∧n≤40∧k≤8) :
    Calls Tryz.prog 15 #[va,.int .i64 ((n:Nat):Int),.int .i64 ((k:Nat):Int)] w (fun e w'=>e = .returned (.tuple #[.int .i64 (fbX l n k),.int .i64 (fbY l n k)])∧Ext w w'):=by
  refine calls_mk [va,.int .i64 ((n:Nat):Int),.int .i64 ((k:Nat):Int)] 28 Tryz.func15 rfl rfl sM ?_
  have hE0:Ext w w:=Ext.refl w
  have hsl:=schB_iff.1 hpl.1
  have hp0:plC l ((n:Nat):Int) ((k:Nat):Int) = 0:=plC_0 hpl.1 ⟨⟨by omega,by omega⟩,by omega,by omega⟩
  refine wp_seq (wp_plain _ [0,0] rfl (lw_tvn 2 rfl (wp_seq (wp_seq (wp_plain _ [0,0,0,3,0] rfl (lw_tv 3 rfl (lw_call 57 [] [] [va,(.int .i64 ((n:Nat):Int)),(.int .i64 ((k:Nat):Int))] rfl rfl cf57 zN (c_impl_isPlan _ va l _ _ (hl.ext (good_rdS good_rAv) hE0) oM oM oM) ?_)))))))
  rintro e1 w1 ⟨rfl,hX1⟩
  refine ⟨_,rfl,hX1,?_⟩
  have hzs1:w.heap.size≤w1.heap.size:=hX1.size
  have hE1:Ext w w1:=hE0.trans hX1
  refine lw_tvn 1 rfl (wp_seq (wp_plain _ [0,0] rfl (lw_tv 1 rfl ?_)))
  have hc2:¬ (plC l ((n:Nat):Int) ((k:Nat):Int)≠((0:Nat):Int)):=(fun h9=>h9 hp0)
  refine q_neq false rfl rfl (decide_eq_false hc2) zN (lw_nil (c_cond_f rfl (wp_skip (wp_seq (wp_plain _ [0,0,0,3,0,0,0,0,0] rfl (lw_tv 3 rfl (lw_call 58 [] [] [va,(.int .i64 ((n:Nat):Int)),(.int .i64 ((k:Nat):Int))] rfl rfl cf58 zN (c_impl_firstBad _ va l n k (hl.ext (good_rdS good_rAv) hE1) oM oM oM oM (by exact hsl.2)) ?_)))))))
  rintro e3 w3 ⟨g,gm,vs,vo,Fs,Fo,z,rfl,hX3,hK,hlow,hfin⟩
  refine ⟨_,rfl,hX3,?_⟩
  have hzs3:w1.heap.size≤w3.heap.size:=hX3.size
  have hE3:Ext w w3:=hE1.trans hX3
  have hlw9:w.heap.size≤w1.heap.size:=hE1.size
  have hfr3:=fb_rng l (bgn ((n:Nat):Int) k)
  refine lw_tv 1 rfl (q_extract (vs:=[(.pointer (some ⟨g,0,none⟩)),(.int .i64 (fbS l (bgn ((n:Nat):Int) k) 0))]) (.pointer (some ⟨g,0,none⟩)) rfl rfl zN (q_extract (vs:=[(.pointer (some ⟨g,0,none⟩)),(.int .i64 (fbS l (bgn ((n:Nat):Int) k) 0))]) (.int .i64 (fbS l (bgn ((n:Nat):Int) k) 0)) rfl rfl zN (lw_tvn 2 rfl (wp_seq (wp_seq (wp_plain _ [0,0] rfl (lw_tv 1 rfl ?_)))))))
  by_cases hc4:(fbS l (bgn ((n:Nat):Int) k) 0) < ((0:Nat):Int)
  ·
    exact q_lss true rfl rfl (decide_eq_true hc4) zN (lw_nil (c_cond_t rfl (wp_seq (wp_plain _ [0,0] rfl (lw_tvn 2 rfl (wp_ret (t_ret (post_ret [6,7] rfl (.tuple #[(.int .i64 ((0:Nat):Int)),(.int .i64 ((9:Nat):Int))]) rfl z15_0))))))))
  ·
    exact q_lss false rfl rfl (decide_eq_false hc4) zN (lw_nil (c_cond_f rfl (wp_skip (wp_seq (wp_plain _ [0,0,0] rfl (lw_tvn 3 rfl (wp_ret (post_ret [6,7] rfl (.tuple #[(.int .i64 (fbS l (bgn ((n:Nat):Int) k) 0)),(.int .i64 ((0:Nat):Int))]) rfl z15_0))))))))
theorem c_impl_AdvancesOf (w:World) (va:Value) (l:List Av) (n:Nat) (k:Nat) (hl:RN [] (rdS 2 rAv) w.heap va l) (_hn:n≤1000000000000) (_hk:k≤1000000000000) (hpl:schB l = true∧n≤40∧k≤8) (hfb:fbS l (bgn ((n:Nat):Int) k) 0 = -1) :
    Calls Tryz.prog 16 #[va,.int .i64 ((n:Nat):Int),.int .i64 ((k:Nat):Int)] w (fun e w'=>∃ v,e = .returned (.tuple #[v,.int .i64 0])∧Ext w w'∧Fr (owL rI 2) w.heap.size w'.heap.size w'.heap v (rnC l (bgS n k)).ov):=by
  refine calls_mk [va,.int .i64 ((n:Nat):Int),.int .i64 ((k:Nat):Int)] 31 Tryz.func16 rfl rfl sM ?_
  have hE0:Ext w w:=Ext.refl w
  have hsl:=schB_iff.1 hpl.1
  have hp0:plC l ((n:Nat):Int) ((k:Nat):Int) = 0:=plC_0 hpl.1 ⟨⟨by omega,by omega⟩,by omega,by omega⟩
  refine wp_seq (wp_plain _ [0,0] rfl (lw_tvn 2 rfl (wp_seq (wp_seq (wp_plain _ [0,0,0,3,0] rfl (lw_tv 3 rfl (lw_call 57 [] [] [va,(.int .i64 ((n:Nat):Int)),(.int .i64 ((k:Nat):Int))] rfl rfl cf57 zN (c_impl_isPlan _ va l _ _ (hl.ext (good_rdS good_rAv) hE0) oM oM oM) ?_)))))))
  rintro e1 w1 ⟨rfl,hX1⟩
  refine ⟨_,rfl,hX1,?_⟩
  have hzs1:w.heap.size≤w1.heap.size:=hX1.size
  have hE1:Ext w w1:=hE0.trans hX1
  refine lw_tvn 1 rfl (wp_seq (wp_plain _ [0,0] rfl (lw_tv 1 rfl ?_)))
  have hc2:¬ (plC l ((n:Nat):Int) ((k:Nat):Int)≠((0:Nat):Int)):=(fun h9=>h9 hp0)
  refine q_neq false rfl rfl (decide_eq_false hc2) zN (lw_nil (c_cond_f rfl (wp_skip (wp_seq (wp_plain _ [0,0,0,3,0,0,0,0,0] rfl (lw_tv 3 rfl (lw_call 58 [] [] [va,(.int .i64 ((n:Nat):Int)),(.int .i64 ((k:Nat):Int))] rfl rfl cf58 zN (c_impl_firstBad _ va l n k (hl.ext (good_rdS good_rAv) hE1) oM oM oM oM (by exact hsl.2)) ?_)))))))
  rintro e3 w3 ⟨g,gm,vs,vo,Fs,Fo,z,rfl,hX3,hK,hlow,hfin⟩
  refine ⟨_,rfl,hX3,?_⟩
  have hzs3:w1.heap.size≤w3.heap.size:=hX3.size
  have hE3:Ext w w3:=hE1.trans hX3
  have hlw9:w.heap.size≤w1.heap.size:=hE1.size
  have hfr3:=fb_rng l (bgn ((n:Nat):Int) k)
  refine lw_tv 1 rfl (q_extract (vs:=[(.pointer (some ⟨g,0,none⟩)),(.int .i64 (fbS l (bgn ((n:Nat):Int) k) 0))]) (.pointer (some ⟨g,0,none⟩)) rfl rfl zN (q_extract (vs:=[(.pointer (some ⟨g,0,none⟩)),(.int .i64 (fbS l (bgn ((n:Nat):Int) k) 0))]) (.int .i64 (fbS l (bgn ((n:Nat):Int) k) 0)) rfl rfl zN (lw_tvn 2 rfl (wp_seq (wp_seq (wp_plain _ [0,0] rfl (lw_tv 1 rfl ?_)))))))
  have hc4:¬ (((0:Nat):Int)≤(fbS l (bgn ((n:Nat):Int) k) 0)):=oM
  refine q_geq false rfl rfl (decide_eq_false hc4) zN (lw_nil (c_cond_f rfl (wp_skip (wp_seq (wp_plain _ [0,0,0,2,0,0] rfl ?_)))))
  obtain ⟨hzr,hB9⟩:=hfin oM
  have hcz:=hB9.z
  have hol:=hB9.len
  have hadv:=hB9.adv
  have hst:=hB9.st
  have hld:=hB9.ld
  have hat0:=hB9.k.at0
  have hatn:=hB9.k.atn
  have hl0:=hB9.k.l0
  have hln:=hB9.k.ln
  have hbx5:BX w3.heap g [(.int .i64 z.c.left),(.int .i64 z.c.at_),vs,vo,(.int .i64 z.u.cost),(.int .i64 z.u.adv),(.int .i64 z.u.st),(.int .i64 z.u.ld),(.int .i64 z.u.sl),(.map (some gm))]:=hK.bx
  have hsl5:owL rI 2 w3.heap vs z.c.slots Fs:=hK.sl
  have hov5:owL rI 2 w3.heap vo z.ov Fo:=hK.ov
  have hmp5:MapI w3.heap gm z.us:=hK.mp
  exact lw_tv 1 rfl (q_nil rfl zN (q_fldP (p:=(.pointer (some ⟨g,0,none⟩))) (b:=g) (o:=0) 3 fd94_3 rfl rfl zN (q_load (p:=(padd (.pointer (some ⟨g,0,none⟩)) 3)) (.inr rfl) vo one25 rfl (hbx5.ldp (i:=3) sM) zN (lw_tvn 2 rfl (wp_ret (post_ret [6,7] rfl (.tuple #[vo,(.int .i64 ((0:Nat):Int))]) rfl (by exact ⟨_,rfl,hE3,by rw [← hzr]; exact ⟨Fo,hK.ov,hK.on,fun b hb=>⟨Nat.le_trans hlw9 (hlow b (zl_o b hb)),o1.lt hK.ov b hb⟩⟩⟩)))))))
theorem z3_0 {p:Prop} (h:p:=by intro u hu; simp only [List.mem_cons,List.not_mem_nil,or_false] at hu; rcases hu with rfl | rfl | rfl | rfl | rfl <;> first | exact ⟨rfl,rfl⟩):p:=h
theorem c_laws_FnSchedules (w:World) (vc:Value) (cs:List UInt8) (hcs:Rd (rdL rU) w.heap vc cs) (hG:GW w) :
    Calls Tryz.prog 3 #[vc] w (fun e w'=>e = .returned (.bool true)∧Ext w w'):=by
  refine calls_mk [vc] 183 Tryz.func3 rfl rfl sM ?_
  have hE0:Ext w w:=Ext.refl w
  have hl_vc:=hcs.lenle
  refine wp_seq (wp_plain _ [0] rfl (lw_tvn 1 rfl (wp_seq (wp_seq (wp_plain _ [0,3] rfl (lw_tv 1 rfl (lw_call 6 [] [] [vc] rfl rfl cf6 zN (c_laws_f6big _ _ _ (hcs.ext good_u hE0)) ?_)))))))
  rintro e1 w1 ⟨rfl,hX1⟩
  refine ⟨_,rfl,hX1,?_⟩
  have hzs1:w.heap.size≤w1.heap.size:=hX1.size
  have hE1:Ext w w1:=hE0.trans hX1
  refine lw_nil ?_
  cases hb2:(decide (((4096:Nat):Int) < ((cs.length:Nat):Int)))
  ·
    have hdc3:=of_decide_eq_false hb2
    refine c_cond_f (by first | rfl | (show Value.bool _ = _; rw [hb2])) (wp_skip (wp_seq (wp_plain _ [0,3,0,0,0,0,0,0,0] rfl (lw_tv 1 rfl (lw_call 7 [] [] [vc] rfl rfl cf7 zN (c_spec_LawChain _ vc _ (hcs.ext good_u hE1) oM) ?_)))))
    rintro e4 w4 ⟨vlD,vwD,lD,wD,kD,rfl,hX4,hlD,hwD,hLD⟩
    refine ⟨_,rfl,hX4,?_⟩
    have hzs4:w1.heap.size≤w4.heap.size:=hX4.size
    have hE4:Ext w w4:=hE1.trans hX4
    refine lw_tv 1 rfl (q_extract (vs:=[vlD,vwD,(.int .i64 kD)]) vlD rfl rfl zN (q_extract (vs:=[vlD,vwD,(.int .i64 kD)]) vwD rfl rfl zN (q_extract (vs:=[vlD,vwD,(.int .i64 kD)]) (.int .i64 kD) rfl rfl zN (lw_tvn 3 rfl (wp_seq (wp_plain _ [0,0,0] rfl ?_))))))
    have hkq:=hLD.k
    generalize hg_kq:kD = kqI at *
    obtain ⟨kq,rfl⟩:∃ n:Nat,kqI = ((n:Nat):Int):=⟨kqI.toNat,by omega⟩
    have hsc:=hLD.sch
    have hwl:=hLD.wl
    have hwg:=lch_wg hLD
    have hsl:=schB_iff.1 hsc
    have hwg2:=wgB_iff.1 hwg
    have hA:=rnA_0 ⟨hsc,hwg⟩ (show 0≤((kq:Nat):Int)∧((kq:Nat):Int)≤8 by omega)
    rw [Int.toNat_natCast] at hA
    have hfr:=fb_rng lD (bgn ((wD.length:Nat):Int) kq)
    refine lw_tv 1 rfl (q_len (v:=vwD) u25 rfl hwD.isSl zN (lw_tvn 1 rfl (wp_seq (wp_plain _ [0,0,0,3,0,0,0,3,4,0] rfl (lw_tv 3 rfl (lw_call 8 [] [] [vlD,vwD,(.int .i64 ((kq:Nat):Int))] rfl rfl cf8 zN (c_impl_RunSchedule _ vlD lD vwD wD (((kq:Nat):Int)) (RN.of_frA (S:=[]) hlD (fun b hb=>by cases hb)) hwD.rd1 oM) ?_))))))
    rintro e5 w5 ⟨rfl,hX5⟩
    refine ⟨_,rfl,hX5,?_⟩
    have hzs5:w4.heap.size≤w5.heap.size:=hX5.size
    have hE5:Ext w w5:=hE4.trans hX5
    have hlDx5:=hlD.ext ((good_owS good_rAv)) hX5
    have hwDx5:=hwD.ext (o1) hX5
    refine lw_tv 1 rfl (q_extract (vs:=[(.agg #[(.int .i64 ((rnU lD wD (((kq:Nat):Int))).cost)),(.int .i64 ((rnU lD wD (((kq:Nat):Int))).adv)),(.int .i64 ((rnU lD wD (((kq:Nat):Int))).st)),(.int .i64 ((rnU lD wD (((kq:Nat):Int))).ld)),(.int .i64 ((rnU lD wD (((kq:Nat):Int))).sl))]),(.int .i64 (rnA lD wD (((kq:Nat):Int))))]) (.agg #[(.int .i64 ((rnU lD wD (((kq:Nat):Int))).cost)),(.int .i64 ((rnU lD wD (((kq:Nat):Int))).adv)),(.int .i64 ((rnU lD wD (((kq:Nat):Int))).st)),(.int .i64 ((rnU lD wD (((kq:Nat):Int))).ld)),(.int .i64 ((rnU lD wD (((kq:Nat):Int))).sl))]) rfl rfl zN ?_)
    refine q_extract (vs:=[(.agg #[(.int .i64 ((rnU lD wD (((kq:Nat):Int))).cost)),(.int .i64 ((rnU lD wD (((kq:Nat):Int))).adv)),(.int .i64 ((rnU lD wD (((kq:Nat):Int))).st)),(.int .i64 ((rnU lD wD (((kq:Nat):Int))).ld)),(.int .i64 ((rnU lD wD (((kq:Nat):Int))).sl))]),(.int .i64 (rnA lD wD (((kq:Nat):Int))))]) (.int .i64 (rnA lD wD (((kq:Nat):Int)))) rfl rfl zN (r_allocA (z:=.agg #[.int .i64 0,.int .i64 0,.int .i64 0,.int .i64 0,.int .i64 0]) zr29 zN fun w6 hX6 hz6 hB6=>?_)
    have hzs6:w5.heap.size≤w6.heap.size:=hX6.size
    have hE6:Ext w w6:=hE5.trans hX6
    have hlDx6:=hlDx5.ext ((good_owS good_rAv)) hX6
    have hwDx6:=hwDx5.ext (o1) hX6
    replace hB6:BX w6.heap w5.heap.size [(.int .i64 0),(.int .i64 0),(.int .i64 0),(.int .i64 0),(.int .i64 0)]:=hB6
    refine e_setA (vs:=[(.int .i64 ((rnU lD wD (((kq:Nat):Int))).cost)),(.int .i64 ((rnU lD wD (((kq:Nat):Int))).adv)),(.int .i64 ((rnU lD wD (((kq:Nat):Int))).st)),(.int .i64 ((rnU lD wD (((kq:Nat):Int))).ld)),(.int .i64 ((rnU lD wD (((kq:Nat):Int))).sl))]) agg29 rfl rfl z3_0 hB6 rfl rfl zN fun w7 hC7 hz7 hB7=>?_
    replace hB7:BX w7.heap w5.heap.size [(.int .i64 ((rnU lD wD (((kq:Nat):Int))).cost)),(.int .i64 ((rnU lD wD (((kq:Nat):Int))).adv)),(.int .i64 ((rnU lD wD (((kq:Nat):Int))).st)),(.int .i64 ((rnU lD wD (((kq:Nat):Int))).ld)),(.int .i64 ((rnU lD wD (((kq:Nat):Int))).sl))]:=hB7
    have hE7:Ext w w7:=hC7.below hE6 (fun c hc=>by have:=List.mem_singleton.1 hc; omega) hE6.size
    have hzs7:w6.heap.size≤w7.heap.size:=hC7.size
    have hF8:=hlDx6.chg ((good_owS good_rAv)) hC7 (fun c hc=>by have:=List.mem_singleton.1 hc; omega)
    have hF9:=hwDx6.chg (o1) hC7 (fun c hc=>by have:=List.mem_singleton.1 hc; omega)
    refine lw_tvn 1 rfl (wp_seq (wp_plain _ [0,0,0,3,0,0,0,3,4,0] rfl (lw_tv 3 rfl (lw_call 9 [] [] [vlD,vwD,(.int .i64 ((kq:Nat):Int))] rfl rfl cf9 zN (c_spec_RunSchedule _ vlD lD vwD wD (((kq:Nat):Int)) (RN.of_frA (S:=[]) hF8 (fun b hb=>by cases hb)) hF9.rd1 oM (by exact ⟨hsc,hwg⟩) oM) ?_))))
    rintro e10 w10 ⟨rfl,hX10⟩
    refine ⟨_,rfl,hX10,?_⟩
    have hzs10:w7.heap.size≤w10.heap.size:=hX10.size
    have hE10:Ext w w10:=hE7.trans hX10
    have hF8x10:=hF8.ext ((good_owS good_rAv)) hX10
    have hF9x10:=hF9.ext (o1) hX10
    have hB7x10:=hB7.ext hX10
    refine lw_tv 1 rfl (q_extract (vs:=[(.agg #[(.int .i64 ((rnU lD wD (((kq:Nat):Int))).cost)),(.int .i64 ((rnU lD wD (((kq:Nat):Int))).adv)),(.int .i64 ((rnU lD wD (((kq:Nat):Int))).st)),(.int .i64 ((rnU lD wD (((kq:Nat):Int))).ld)),(.int .i64 ((rnU lD wD (((kq:Nat):Int))).sl))]),(.int .i64 (rnA lD wD (((kq:Nat):Int))))]) (.agg #[(.int .i64 ((rnU lD wD (((kq:Nat):Int))).cost)),(.int .i64 ((rnU lD wD (((kq:Nat):Int))).adv)),(.int .i64 ((rnU lD wD (((kq:Nat):Int))).st)),(.int .i64 ((rnU lD wD (((kq:Nat):Int))).ld)),(.int .i64 ((rnU lD wD (((kq:Nat):Int))).sl))]) rfl rfl zN ?_)
    refine q_extract (vs:=[(.agg #[(.int .i64 ((rnU lD wD (((kq:Nat):Int))).cost)),(.int .i64 ((rnU lD wD (((kq:Nat):Int))).adv)),(.int .i64 ((rnU lD wD (((kq:Nat):Int))).st)),(.int .i64 ((rnU lD wD (((kq:Nat):Int))).ld)),(.int .i64 ((rnU lD wD (((kq:Nat):Int))).sl))]),(.int .i64 (rnA lD wD (((kq:Nat):Int))))]) (.int .i64 (rnA lD wD (((kq:Nat):Int)))) rfl rfl zN ?_
    have hq12:=hB7x10.lt
    refine r_allocA (z:=.agg #[.int .i64 0,.int .i64 0,.int .i64 0,.int .i64 0,.int .i64 0]) zr29 zN fun w11 hX11 hz11 hB11=>?_
    have hzs11:w10.heap.size≤w11.heap.size:=hX11.size
    have hE11:Ext w w11:=hE10.trans hX11
    have hF8x11:=hF8x10.ext ((good_owS good_rAv)) hX11
    have hF9x11:=hF9x10.ext (o1) hX11
    have hB7x11:=hB7x10.ext hX11
    replace hB11:BX w11.heap w10.heap.size [(.int .i64 0),(.int .i64 0),(.int .i64 0),(.int .i64 0),(.int .i64 0)]:=hB11
    refine e_setA (vs:=[(.int .i64 ((rnU lD wD (((kq:Nat):Int))).cost)),(.int .i64 ((rnU lD wD (((kq:Nat):Int))).adv)),(.int .i64 ((rnU lD wD (((kq:Nat):Int))).st)),(.int .i64 ((rnU lD wD (((kq:Nat):Int))).ld)),(.int .i64 ((rnU lD wD (((kq:Nat):Int))).sl))]) agg29 rfl rfl z3_0 hB11 rfl rfl zN fun w13 hC13 hz13 hB13=>?_
    replace hB13:BX w13.heap w10.heap.size [(.int .i64 ((rnU lD wD (((kq:Nat):Int))).cost)),(.int .i64 ((rnU lD wD (((kq:Nat):Int))).adv)),(.int .i64 ((rnU lD wD (((kq:Nat):Int))).st)),(.int .i64 ((rnU lD wD (((kq:Nat):Int))).ld)),(.int .i64 ((rnU lD wD (((kq:Nat):Int))).sl))]:=hB13
    have hE13:Ext w w13:=hC13.below hE11 (fun c hc=>by have:=List.mem_singleton.1 hc; omega) hE11.size
    have hzs13:w11.heap.size≤w13.heap.size:=hC13.size
    have hF14:=hF8x11.chg ((good_owS good_rAv)) hC13 (fun c hc=>by have:=List.mem_singleton.1 hc; omega)
    have hF15:=hF9x11.chg (o1) hC13 (fun c hc=>by have:=List.mem_singleton.1 hc; omega)
    have hF16:=hB7x11.chg hC13 (fun hm=>by have:=List.mem_singleton.1 hm; omega)
    refine lw_tvn 1 rfl (wp_seq (wp_seq (wp_plain _ [0,0,0,0,2,2,0,0] rfl (lw_tv 2 rfl (q_neq false rfl rfl sM zN (lw_tv 1 rfl (q_loadA (p:=(.pointer (some ⟨w5.heap.size,0,none⟩))) (.inr rfl) [(.int .i64 ((rnU lD wD (((kq:Nat):Int))).cost)),(.int .i64 ((rnU lD wD (((kq:Nat):Int))).adv)),(.int .i64 ((rnU lD wD (((kq:Nat):Int))).st)),(.int .i64 ((rnU lD wD (((kq:Nat):Int))).ld)),(.int .i64 ((rnU lD wD (((kq:Nat):Int))).sl))] agg29 rfl (fun wq9 hw9=>LD.of_box (BX.ext (w:=w13) hF16 hw9)) rfl (zS (e:=48) rfl rfl rfl) ?_)))))))
    refine q_loadA (p:=(.pointer (some ⟨w10.heap.size,0,none⟩))) (.inr rfl) [(.int .i64 ((rnU lD wD (((kq:Nat):Int))).cost)),(.int .i64 ((rnU lD wD (((kq:Nat):Int))).adv)),(.int .i64 ((rnU lD wD (((kq:Nat):Int))).st)),(.int .i64 ((rnU lD wD (((kq:Nat):Int))).ld)),(.int .i64 ((rnU lD wD (((kq:Nat):Int))).sl))] agg29 rfl (fun wq9 hw9=>LD.of_box (BX.ext (w:=w13) hB13 hw9)) rfl (zS (e:=48) rfl rfl rfl) ?_
    have hea17:([(rnU lD wD (((kq:Nat):Int))).cost,(rnU lD wD (((kq:Nat):Int))).adv,(rnU lD wD (((kq:Nat):Int))).st,(rnU lD wD (((kq:Nat):Int))).ld,(rnU lD wD (((kq:Nat):Int))).sl]:List Int) = [(rnU lD wD (((kq:Nat):Int))).cost,(rnU lD wD (((kq:Nat):Int))).adv,(rnU lD wD (((kq:Nat):Int))).st,(rnU lD wD (((kq:Nat):Int))).ld,(rnU lD wD (((kq:Nat):Int))).sl]:=rfl
    refine q_neqA (us:=[(rnU lD wD (((kq:Nat):Int))).cost,(rnU lD wD (((kq:Nat):Int))).adv,(rnU lD wD (((kq:Nat):Int))).st,(rnU lD wD (((kq:Nat):Int))).ld,(rnU lD wD (((kq:Nat):Int))).sl]) (vs:=[(rnU lD wD (((kq:Nat):Int))).cost,(rnU lD wD (((kq:Nat):Int))).adv,(rnU lD wD (((kq:Nat):Int))).st,(rnU lD wD (((kq:Nat):Int))).ld,(rnU lD wD (((kq:Nat):Int))).sl]) false (by kernel_rfl) rfl rfl rfl rfl rfl (by rw [decide_eq_true hea17]; rfl) (zS (e:=48) rfl rfl rfl) (lw_tvn 1 rfl (c_cond_f rfl (wp_skip (wp_seq (wp_plain _ [0,3,0] rfl (lw_tv 1 rfl (lw_call 10 [] [] [vlD] rfl rfl cf10 zN (c_impl_ScheduleText _ vlD lD (RN.of_frA (S:=[]) hF14 (fun b hb=>by cases hb)) oM (hG.ext hE13)) ?_)))))))
    rintro e18 w18 ⟨rfl,hX18⟩
    refine ⟨_,rfl,hX18,?_⟩
    have hzs18:w13.heap.size≤w18.heap.size:=hX18.size
    have hE18:Ext w w18:=hE13.trans hX18
    have hF14x18:=hF14.ext ((good_owS good_rAv)) hX18
    have hF15x18:=hF15.ext (o1) hX18
    have hF16x18:=hF16.ext hX18
    have hB13x18:=hB13.ext hX18
    refine lw_tvn 1 rfl (wp_seq (wp_plain _ [0,3,0,0,0,0,0] rfl (lw_tv 1 rfl (lw_call 11 [] [] [(.string (ba (scL lD)))] rfl rfl cf11 zN (c_impl_ReadSchedule _ (ba (scL lD)) (by rw [ba_size]; have:=sc_len hsc; omega) (hG.ext hE18)) ?_))))
    rintro e19 w19 ⟨v19,rfl,hX19,hO19⟩
    refine ⟨_,rfl,hX19,?_⟩
    have hzs19:w18.heap.size≤w19.heap.size:=hX19.size
    have hE19:Ext w w19:=hE18.trans hX19
    have hF14x19:=hF14x18.ext ((good_owS good_rAv)) hX19
    have hF15x19:=hF15x18.ext (o1) hX19
    have hF16x19:=hF16x18.ext hX19
    have hB13x19:=hB13x18.ext hX19
    refine lw_tv 1 rfl (q_extract (vs:=[v19,(.int .i64 (rsC (ba (scL lD)).data.toList))]) v19 rfl rfl zN (q_extract (vs:=[v19,(.int .i64 (rsC (ba (scL lD)).data.toList))]) (.int .i64 (rsC (ba (scL lD)).data.toList)) rfl rfl zN (lw_tvn 2 rfl (wp_seq (wp_seq (wp_plain _ [0,0,3,0,0,0,0,0,0,0,0,3,0,0,0,0,3,0,0] rfl ?_))))))
    have hrl:=rsQ_len (ba (scL lD)).data.toList
    refine lw_tv 2 rfl (lw_call 12 [] [] [vlD] rfl rfl cf12 zN (c_spec_ScheduleText _ vlD lD (RN.of_frA (S:=[]) hF14x19 (fun b hb=>by cases hb)) oM) ?_)
    rintro e20 w20 ⟨rfl,hX20⟩
    refine ⟨_,rfl,hX20,?_⟩
    have hzs20:w19.heap.size≤w20.heap.size:=hX20.size
    have hE20:Ext w w20:=hE19.trans hX20
    have hF14x20:=hF14x19.ext ((good_owS good_rAv)) hX20
    have hF15x20:=hF15x19.ext (o1) hX20
    have hF16x20:=hF16x19.ext hX20
    have hB13x20:=hB13x19.ext hX20
    have hO19x20:=hO19.ext ((good_owS good_rAv)) hX20
    cases hc21:(!strE (ba (scL lD)) (ba (scL lD)))
    ·
      refine q_neqs false u9 rfl rfl hc21 zN (lw_tv 2 rfl ?_)
      have hc22:¬ (rsC (ba (scL lD)).data.toList≠((0:Nat):Int)):=(fun h9=>h9 (rsC_sc hsc))
      refine q_neq false rfl rfl (decide_eq_false hc22) (zS (e:=64) rfl rfl rfl) (lw_tv 4 rfl (lw_call 13 [] [] [v19,vlD] rfl rfl cf13 (zS (e:=68) rfl rfl rfl) (c_laws_f6actions _ v19 (rsQ (ba (scL lD)).data.toList) vlD lD (RN.of_frA (S:=[]) hO19x20 (fun b hb=>by cases hb)) (RN.of_frA (S:=[]) hF14x20 (fun b hb=>by cases hb)) oM oM) ?_))
      rintro e23 w23 ⟨rfl,hX23⟩
      refine ⟨_,rfl,hX23,?_⟩
      have hzs23:w20.heap.size≤w23.heap.size:=hX23.size
      have hE23:Ext w w23:=hE20.trans hX23
      have hF14x23:=hF14x20.ext ((good_owS good_rAv)) hX23
      have hF15x23:=hF15x20.ext (o1) hX23
      have hF16x23:=hF16x20.ext hX23
      have hB13x23:=hB13x20.ext hX23
      have hO19x23:=hO19x20.ext ((good_owS good_rAv)) hX23
      refine q_not (!(decide ((rsQ (ba (scL lD)).data.toList) = lD))) rfl rfl (zS (e:=68) rfl rfl rfl) (lw_tv 2 rfl ?_)
      cases hb24:(!(decide ((rsQ (ba (scL lD)).data.toList) = lD)))
      ·
        refine lw_tv 1 rfl (lw_call 14 [] [] [vlD] rfl rfl cf14 (zS (e:=74) rfl rfl rfl) (c_impl_ValidSchedule _ vlD lD (RN.of_frA (S:=[]) hF14x23 (fun b hb=>by cases hb))) ?_)
        rintro e25 w25 ⟨rfl,hX25⟩
        refine ⟨_,rfl,hX25,?_⟩
        have hzs25:w23.heap.size≤w25.heap.size:=hX25.size
        have hE25:Ext w w25:=hE23.trans hX25
        have hF14x25:=hF14x23.ext ((good_owS good_rAv)) hX25
        have hF15x25:=hF15x23.ext (o1) hX25
        have hF16x25:=hF16x23.ext hX25
        have hB13x25:=hB13x23.ext hX25
        have hO19x25:=hO19x23.ext ((good_owS good_rAv)) hX25
        refine q_not (!(schB lD)) rfl rfl (zS (e:=74) rfl rfl rfl) (lw_tvn 1 rfl ?_)
        cases hb26:(!(schB lD))
        ·
          refine c_cond_f (by first | rfl | (show Value.bool _ = _; rw [hb26])) (wp_skip (wp_seq (wp_plain _ [0,0,0,3,0,0,0,0,0] rfl (lw_tv 3 rfl (lw_call 15 [] [] [vlD,(.int .i64 ((wD.length:Nat):Int)),(.int .i64 ((kq:Nat):Int))] rfl rfl cf15 zN (c_impl_FirstBadAction _ vlD lD wD.length kq (RN.of_frA (S:=[]) hF14x25 (fun b hb=>by cases hb)) oM oM (by exact ⟨hsc,by omega,by omega⟩)) ?_)))))
          rintro e27 w27 ⟨rfl,hX27⟩
          refine ⟨_,rfl,hX27,?_⟩
          have hzs27:w25.heap.size≤w27.heap.size:=hX27.size
          have hE27:Ext w w27:=hE25.trans hX27
          have hF14x27:=hF14x25.ext ((good_owS good_rAv)) hX27
          have hF15x27:=hF15x25.ext (o1) hX27
          have hF16x27:=hF16x25.ext hX27
          have hB13x27:=hB13x25.ext hX27
          have hO19x27:=hO19x25.ext ((good_owS good_rAv)) hX27
          refine lw_tv 1 rfl (q_extract (vs:=[(.int .i64 (fbX lD wD.length kq)),(.int .i64 (fbY lD wD.length kq))]) (.int .i64 (fbX lD wD.length kq)) rfl rfl zN (q_extract (vs:=[(.int .i64 (fbX lD wD.length kq)),(.int .i64 (fbY lD wD.length kq))]) (.int .i64 (fbY lD wD.length kq)) rfl rfl zN (lw_tvn 2 rfl (wp_seq (wp_seq (wp_plain _ [0,0] rfl (lw_tv 1 rfl ?_)))))))
          by_cases hc28:(rnA lD wD (((kq:Nat):Int)))≠((0:Nat):Int)
          ·
            refine q_neq true rfl rfl (decide_eq_true hc28) zN (lw_nil (c_cond_t rfl (wp_seq (wp_plain _ [0,0,0,0,0,0,0,0,0,0,0,0,0] rfl ?_))))
            have hfy:fbY lD wD.length kq = 0:=(fbY_p (by have h9:¬ fbS lD (bgn ((wD.length:Nat):Int) kq) 0 = -1:=(fun h9=>absurd (hA.trans (usC_0 h9)) oM); omega)).symm
            have hfx:=fbX_le (l:=lD) (n:=wD.length) (k:=kq)
            refine lw_tv 1 rfl ?_
            have hc29:fbY lD wD.length kq = ((0:Nat):Int):=hfy
            refine q_eql true rfl rfl (decide_eq_true hc29) zN (lw_tv 2 rfl ?_)
            have hc30:((0:Nat):Int)≤fbX lD wD.length kq:=hfx.1
            refine q_geq true rfl rfl (decide_eq_true hc30) (zS (e:=90) rfl rfl rfl) (lw_tv 4 rfl (q_len (v:=vlD) u24 rfl hF14x27.isSlS (zS (e:=94) rfl rfl rfl) (q_leq (decide (fbX lD wD.length kq≤((lD.length:Nat):Int))) rfl rfl rfl (zS (e:=94) rfl rfl rfl) (lw_tvn 2 rfl (wp_ret (t_ret ?_))))))
            exact post_ret [2] rfl (.bool (decide (fbX lD wD.length kq≤((lD.length:Nat):Int)))) rfl (by first | (exfalso; exact absurd (rsQ_sc hsc) (by assumption)) | (exfalso; (have h8:(!schB lD) = true:=(by assumption)); rw [hsc] at h8; cases h8) | (exfalso; (have h8:(!strE (ba (scL lD)) (ba (scL lD))) = true:=(by assumption)); rw [strE_refl] at h8; exact absurd h8 (by decide)) | (exfalso; (have h8:(!decide (rsQ (ba (scL lD)).data.toList = lD)) = true:=(by assumption)); rw [decide_eq_true (rsQ_sc hsc)] at h8; exact absurd h8 (by decide)) | (exfalso; exact absurd hrv.1.last (by assumption)) | exact ⟨rfl,hE27⟩ | exact ⟨ret_bool (decide_eq_true hfx.2),hE27⟩ | exact ⟨ret_bool (decide_eq_true hrv.2),hE27⟩)
          ·
            refine q_neq false rfl rfl (decide_eq_false hc28) zN (lw_nil (c_cond_f rfl (wp_skip (wp_seq (wp_plain _ [0,0,0,3,0,0,0,0,0] rfl ?_)))))
            have hfb:=usC_i (l:=lD) (n:=wD.length) (k:=kq) oM
            have hrv:=run_all hsc hfb
            have hov:=run_ov hsc hfb
            have hru:=run_u hsc hwg (k:=kq) oM hfb
            have hol:=hrv.1.len
            refine lw_tv 3 rfl (lw_call 16 [] [] [vlD,(.int .i64 ((wD.length:Nat):Int)),(.int .i64 ((kq:Nat):Int))] rfl rfl cf16 zN (c_impl_AdvancesOf _ vlD lD wD.length kq (RN.of_frA (S:=[]) hF14x27 (fun b hb=>by cases hb)) oM oM (by exact ⟨hsc,by omega,by omega⟩) (by exact hfb)) ?_)
            rintro e31 w31 ⟨v31,rfl,hX31,hR31⟩
            refine ⟨_,rfl,hX31,?_⟩
            have hzs31:w27.heap.size≤w31.heap.size:=hX31.size
            have hE31:Ext w w31:=hE27.trans hX31
            have hF14x31:=hF14x27.ext ((good_owS good_rAv)) hX31
            have hF15x31:=hF15x27.ext (o1) hX31
            have hF16x31:=hF16x27.ext hX31
            have hB13x31:=hB13x27.ext hX31
            have hO19x31:=hO19x27.ext ((good_owS good_rAv)) hX31
            refine lw_tv 1 rfl (q_extract (vs:=[v31,(.int .i64 0)]) v31 rfl rfl zN (q_extract (vs:=[v31,(.int .i64 0)]) (.int .i64 0) rfl rfl zN (lw_tvn 2 rfl (wp_seq (wp_seq (wp_plain _ [0,0,0,0,0,0,0,0,0,0,0,0] rfl (lw_tv 1 rfl ?_)))))))
            have hc32:¬ (fbY lD wD.length kq≠((9:Nat):Int)):=(fun h9=>h9 (fbY_n oM).symm)
            refine q_neq false rfl rfl (decide_eq_false hc32) zN (lw_tv 2 rfl ?_)
            have hc33:¬ (0≠((0:Nat):Int)):=(fun h9=>h9 rfl)
            refine q_neq false rfl rfl (decide_eq_false hc33) (zS (e:=109) rfl rfl rfl) (lw_tv 3 rfl (q_len (v:=v31) u25 rfl hR31.isSl (zS (e:=113) rfl rfl rfl) (lw_tv 1 rfl ?_)))
            have hc34:¬ (((((rnC lD (bgS wD.length kq)).ov).length:Nat):Int)≠((wD.length:Nat):Int)):=(fun h9=>h9 oM)
            refine q_neq false rfl rfl (decide_eq_false hc34) (zS (e:=113) rfl rfl rfl) (lw_tvn 1 rfl (c_cond_f rfl (wp_skip (wp_seq (wp_plain _ [0] rfl (lw_tvn 1 rfl (wp_seq (wp_plain _ [0] rfl (lw_tvn 1 rfl (wp_seq (wp_seq (wp_plain _ [0] rfl (lw_tvn 1 rfl (wp_block ?_))))))))))))))
            refine c_loop (S:=Nat × Int × Int) (fun (⟨i,x,y⟩:Nat × Int × Int)=>([(18,(.int .i64 x)),(19,(.int .i64 y)),(20,(.int .i64 ((i:Nat):Int))),(3,vlD),(4,vwD),(5,(.int .i64 ((kq:Nat):Int))),(6,(.int .i64 ((wD.length:Nat):Int))),(7,(.pointer (some ⟨w5.heap.size,0,none⟩))),(16,v31)]:List (Nat × Value))) (fun (⟨i,x,y⟩:Nat × Int × Int) (W:World)=>Ext w W∧Fr (owS 2 rAv 79) w1.heap.size w4.heap.size W.heap vlD lD∧Fr (owL rI 2) w1.heap.size w4.heap.size W.heap vwD wD∧Fr (owL rI 2) w27.heap.size w31.heap.size W.heap v31 ((rnC lD (bgS wD.length kq)).ov)∧BX W.heap w5.heap.size [(.int .i64 ((rnU lD wD (((kq:Nat):Int))).cost)),(.int .i64 ((rnU lD wD (((kq:Nat):Int))).adv)),(.int .i64 ((rnU lD wD (((kq:Nat):Int))).st)),(.int .i64 ((rnU lD wD (((kq:Nat):Int))).ld)),(.int .i64 ((rnU lD wD (((kq:Nat):Int))).sl))]∧i≤wD.length∧x = dotI (rnC lD (bgS wD.length kq)).ov wD i∧y = sumO (rnC lD (bgS wD.length kq)).ov i∧((0≤x∧x≤400000 * ((i:Nat):Int))∧(0≤y∧y≤400 * ((i:Nat):Int)))) (fun (⟨i,x,y⟩:Nat × Int × Int)=>(rnC lD (bgS wD.length kq)).ov.length - i) (0,((0:Nat):Int),((0:Nat):Int)) ⟨rfl,rfl,rfl,rfl,rfl,rfl,rfl,rfl,rfl,trivial⟩ ⟨hE31,hF14x31,hF15x31,hR31,hF16x31,oM,(by rfl),(by rfl),oM⟩ ?_
            clear hE0 hX1 hX4 hX5 hzs5 hE5 hz6 hX6 hzs6 hE6 hz7 hC7 hE7 hzs7 hF8 hF9 hX10 hzs10 hE10 hF8x10 hF9x10 hz11 hX11 hzs11 hE11 hF8x11 hF9x11 hz13 hC13 hE13 hzs13 hF14 hF15 hF16 hX18 hzs18 hE18 hF14x18 hF15x18 hF16x18 hO19 hX19 hzs19 hE19 hF14x19 hF15x19 hF16x19 hX20 hzs20 hE20 hF14x20 hF15x20 hF16x20 hO19x20 hX23 hzs23 hE23 hF14x23 hF15x23 hF16x23 hO19x23 hX25 hzs25 hE25 hF14x25 hF15x25 hF16x25 hO19x25 hX27 hF14x27 hF15x27 hF16x27 hO19x27 hX31 hF14x31 hF15x31 hF16x31 hO19x31
            rintro ⟨i,x,y⟩ ρ35 w35 ⟨hE35,hL35_0,hL35_1,hL35_2,hL35_3,hp35_0,hqx,hqy,hp35_3⟩
            have hzs35:w.heap.size≤w35.heap.size:=hE35.size
            have hq36:=hL35_3.lt
            refine wp_seq (wp_seq (wp_plain _ [0,0,0,0] rfl (lw_tv 2 rfl (q_len (v:=v31) u25 rfl hL35_2.isSl zN ?_))))
            by_cases hc37:((i:Nat):Int) < ((((rnC lD (bgS wD.length kq)).ov).length:Nat):Int)
            ·
              refine q_lss true rfl rfl (decide_eq_true hc37) zN (lw_nil (c_cond_t rfl (wp_skip (wp_seq (wp_block (wp_seq (wp_draw _ [0,0,0,0,1,0,0,0,1,0,0,0] mixed (by kernel_rfl) ?_)))))))
              have hb1:=dotI_b hov hwg2.2 i
              have hb2:=ovW (hov i) (hwg2.2 i)
              refine lw_tv 3 rfl (q_idx (v:=v31) i u25 ti2 rfl rfl hL35_2.isSl rfl sD zN ?_)
              refine q_load (p:=eptr v31 i 1) (.inl rfl) (.int .i64 (((rnC lD (bgS wD.length kq)).ov).getD i 0)) one2 rfl (hL35_2.rd1.getI sD).1 zN (lw_tv 2 rfl ?_)
              refine q_idx (v:=vwD) i u25 ti2 rfl rfl hL35_1.isSl rfl sD zN ?_
              refine q_load (p:=eptr vwD i 1) (.inl rfl) (.int .i64 (wD.getD i 0)) one2 rfl (hL35_1.rd1.getI sD).1 zN ?_
              refine q_mul ((((rnC lD (bgS wD.length kq)).ov).getD i 0) * (wD.getD i 0)) rfl rfl (w64 sD sD) zN ?_
              refine q_add (x + ((((rnC lD (bgS wD.length kq)).ov).getD i 0) * (wD.getD i 0))) rfl rfl (w64 sD sD) zN (lw_tvn 1 rfl ?_)
              refine wp_plain _ [0,0,0,0,2,0,0] rfl ?_
              have hb3:=sumO_bnd hov i
              have hovi:=hov i
              refine lw_tv 3 rfl (q_idx (v:=v31) i u25 ti2 rfl rfl hL35_2.isSl rfl sD zN ?_)
              refine q_load (p:=eptr v31 i 1) (.inr rfl) (.int .i64 (((rnC lD (bgS wD.length kq)).ov).getD i 0)) one2 rfl (hL35_2.rd1.getI sD).1 zN ?_
              refine q_add (y + (((rnC lD (bgS wD.length kq)).ov).getD i 0)) rfl rfl (w64 sD sD) zN (lw_tvn 1 rfl (wp_plain _ [0,0,0] rfl ?_))
              exact lw_tv 1 rfl (q_add ((i + 1:Nat):Int) rfl rfl (w64n oM sD) zN (lw_tvn 1 rfl ⟨((i + 1),(x + ((((rnC lD (bgS wD.length kq)).ov).getD i 0) * (wD.getD i 0))),(y + (((rnC lD (bgS wD.length kq)).ov).getD i 0))),_,rfl,⟨rfl,rfl,rfl,rfl,rfl,rfl,rfl,rfl,rfl,trivial⟩,⟨hE35.drew,hL35_0,hL35_1,hL35_2,hL35_3,oM,(by rw [hqx]; rfl),(by rw [hqy]; rfl),oM⟩,by first | omega | (dsimp only; omega)⟩))
            ·
              refine q_lss false rfl rfl (decide_eq_false hc37) zN (lw_nil (c_cond_f rfl (wp_exit (t_exit (t_exit (c_exit_here (wp_seq (wp_plain _ [0,0,2,0,0,0,0,2,0,0,0,0,2,0,0,0,0,0,2,0,2,0,0,0,0,0,0,0,0,0,0,2,0,0,0,0,0,3,0,0,0,0] rfl ?_))))))))
              have hie:i = wD.length:=by omega
              refine lw_tv 1 rfl (q_fldP (p:=(.pointer (some ⟨w5.heap.size,0,none⟩))) (b:=w5.heap.size) (o:=0) 0 fd29_0 rfl rfl zN (q_load (p:=(padd (.pointer (some ⟨w5.heap.size,0,none⟩)) 0)) (.inr rfl) (.int .i64 ((rnU lD wD (((kq:Nat):Int))).cost)) one2 rfl (hL35_3.ldp (i:=0) sM) zN ?_))
              have hc38:x = (rnU lD wD (((kq:Nat):Int))).cost:=(by rw [hqx,hie]; exact hru.1.symm)
              refine q_eql true rfl rfl (decide_eq_true hc38) zN (lw_tv 2 rfl (q_fldP (p:=(.pointer (some ⟨w5.heap.size,0,none⟩))) (b:=w5.heap.size) (o:=0) 1 fd29_1 rfl rfl (zS (e:=146) rfl rfl rfl) (q_load (p:=(padd (.pointer (some ⟨w5.heap.size,0,none⟩)) 1)) (.inr rfl) (.int .i64 ((rnU lD wD (((kq:Nat):Int))).adv)) one2 rfl (hL35_3.ldp (i:=1) sM) (zS (e:=146) rfl rfl rfl) ?_)))
              have hc39:y = (rnU lD wD (((kq:Nat):Int))).adv:=(by rw [hqy,hie]; exact hru.2.1.symm)
              refine q_eql true rfl rfl (decide_eq_true hc39) (zS (e:=146) rfl rfl rfl) (lw_tv 2 rfl (q_fldP (p:=(.pointer (some ⟨w5.heap.size,0,none⟩))) (b:=w5.heap.size) (o:=0) 4 fd29_4 rfl rfl (zS (e:=152) rfl rfl rfl) (q_load (p:=(padd (.pointer (some ⟨w5.heap.size,0,none⟩)) 4)) (.inr rfl) (.int .i64 ((rnU lD wD (((kq:Nat):Int))).sl)) one2 rfl (hL35_3.ldp (i:=4) sM) (zS (e:=152) rfl rfl rfl) (lw_tv 1 rfl ?_))))
              have hc40:(rnU lD wD (((kq:Nat):Int))).sl≤((kq:Nat):Int):=hru.2.2.1
              refine q_leq true rfl rfl (decide_eq_true hc40) (zS (e:=152) rfl rfl rfl) (lw_tv 2 rfl (q_fldP (p:=(.pointer (some ⟨w5.heap.size,0,none⟩))) (b:=w5.heap.size) (o:=0) 4 fd29_4 rfl rfl (zS (e:=158) rfl rfl rfl) (q_load (p:=(padd (.pointer (some ⟨w5.heap.size,0,none⟩)) 4)) (.inr rfl) (.int .i64 ((rnU lD wD (((kq:Nat):Int))).sl)) one2 rfl (hL35_3.ldp (i:=4) sM) (zS (e:=158) rfl rfl rfl) (q_fldP (p:=(.pointer (some ⟨w5.heap.size,0,none⟩))) (b:=w5.heap.size) (o:=0) 2 fd29_2 rfl rfl (zS (e:=158) rfl rfl rfl) (q_load (p:=(padd (.pointer (some ⟨w5.heap.size,0,none⟩)) 2)) (.inr rfl) (.int .i64 ((rnU lD wD (((kq:Nat):Int))).st)) one2 rfl (hL35_3.ldp (i:=2) sM) (zS (e:=158) rfl rfl rfl) ?_)))))
              have hc41:(rnU lD wD (((kq:Nat):Int))).sl≤(rnU lD wD (((kq:Nat):Int))).st:=hru.2.2.2
              refine q_leq true rfl rfl (decide_eq_true hc41) (zS (e:=158) rfl rfl rfl) (lw_tv 3 rfl ?_)
              by_cases hc42:((wD.length:Nat):Int) = ((0:Nat):Int)
              ·
                refine q_eql true rfl rfl (decide_eq_true hc42) (zS (e:=165) rfl rfl rfl) (lw_tv 11 rfl (lw_call 17 [] [] [vlD] rfl rfl cf17 (zS (e:=177) rfl rfl rfl) (c_laws_f6reversed _ vlD lD (RN.of_frA (S:=[]) hL35_0 (fun b hb=>by cases hb)) oM) ?_))
                rintro e43 w43 ⟨rfl,hX43⟩
                refine ⟨_,rfl,hX43,?_⟩
                have hzs43:w35.heap.size≤w43.heap.size:=hX43.size
                have hE43:Ext w w43:=hE35.trans hX43
                have hL35_0x43:=hL35_0.ext ((good_owS good_rAv)) hX43
                have hL35_1x43:=hL35_1.ext (o1) hX43
                have hL35_2x43:=hL35_2.ext (o1) hX43
                have hL35_3x43:=hL35_3.ext hX43
                exact lw_tv 1 rfl (q_eql (decide (cntK 4 lD = ((wD.length:Nat):Int))) rfl rfl rfl (zS (e:=177) rfl rfl rfl) (lw_tvn 2 rfl (wp_ret (post_ret [2] rfl (.bool (decide (cntK 4 lD = ((wD.length:Nat):Int)))) rfl (by first | (exfalso; exact absurd (rsQ_sc hsc) (by assumption)) | (exfalso; (have h8:(!schB lD) = true:=(by assumption)); rw [hsc] at h8; cases h8) | (exfalso; (have h8:(!strE (ba (scL lD)) (ba (scL lD))) = true:=(by assumption)); rw [strE_refl] at h8; exact absurd h8 (by decide)) | (exfalso; (have h8:(!decide (rsQ (ba (scL lD)).data.toList = lD)) = true:=(by assumption)); rw [decide_eq_true (rsQ_sc hsc)] at h8; exact absurd h8 (by decide)) | (exfalso; exact absurd hrv.1.last (by assumption)) | exact ⟨rfl,hE43⟩ | exact ⟨ret_bool (decide_eq_true hfx.2),hE43⟩ | exact ⟨ret_bool (decide_eq_true hrv.2),hE43⟩)))))
              ·
                refine q_eql false rfl rfl (decide_eq_false hc42) (zS (e:=165) rfl rfl rfl) (lw_tv 3 rfl (q_sub ((wD.length - 1:Nat):Int) rfl rfl (w64n oM oM) (zS (e:=168) rfl rfl rfl) (q_idx (v:=v31) (wD.length - 1) u25 ti2 rfl rfl hL35_2.isSl rfl sD (zS (e:=168) rfl rfl rfl) ?_)))
                refine q_load (p:=eptr v31 (wD.length - 1) 1) (.inr rfl) (.int .i64 (((rnC lD (bgS wD.length kq)).ov).getD (wD.length - 1) 0)) one2 rfl (hL35_2.rd1.getI sD).1 (zS (e:=168) rfl rfl rfl) ?_
                by_cases hc44:((rnC lD (bgS wD.length kq)).ov).getD (wD.length - 1) 0 = ((0:Nat):Int)
                ·
                  refine q_eql true rfl rfl (decide_eq_true hc44) (zS (e:=168) rfl rfl rfl) (lw_tv 4 rfl (lw_call 17 [] [] [vlD] rfl rfl cf17 (zS (e:=177) rfl rfl rfl) (c_laws_f6reversed _ vlD lD (RN.of_frA (S:=[]) hL35_0 (fun b hb=>by cases hb)) oM) ?_))
                  rintro e45 w45 ⟨rfl,hX45⟩
                  refine ⟨_,rfl,hX45,?_⟩
                  have hzs45:w35.heap.size≤w45.heap.size:=hX45.size
                  have hE45:Ext w w45:=hE35.trans hX45
                  have hL35_0x45:=hL35_0.ext ((good_owS good_rAv)) hX45
                  have hL35_1x45:=hL35_1.ext (o1) hX45
                  have hL35_2x45:=hL35_2.ext (o1) hX45
                  have hL35_3x45:=hL35_3.ext hX45
                  exact lw_tv 1 rfl (q_eql (decide (cntK 4 lD = ((wD.length:Nat):Int))) rfl rfl rfl (zS (e:=177) rfl rfl rfl) (lw_tvn 2 rfl (wp_ret (post_ret [2] rfl (.bool (decide (cntK 4 lD = ((wD.length:Nat):Int)))) rfl (by first | (exfalso; exact absurd (rsQ_sc hsc) (by assumption)) | (exfalso; (have h8:(!schB lD) = true:=(by assumption)); rw [hsc] at h8; cases h8) | (exfalso; (have h8:(!strE (ba (scL lD)) (ba (scL lD))) = true:=(by assumption)); rw [strE_refl] at h8; exact absurd h8 (by decide)) | (exfalso; (have h8:(!decide (rsQ (ba (scL lD)).data.toList = lD)) = true:=(by assumption)); rw [decide_eq_true (rsQ_sc hsc)] at h8; exact absurd h8 (by decide)) | (exfalso; exact absurd hrv.1.last (by assumption)) | exact ⟨rfl,hE45⟩ | exact ⟨ret_bool (decide_eq_true hfx.2),hE45⟩ | exact ⟨ret_bool (decide_eq_true hrv.2),hE45⟩)))))
                ·
                  exact q_eql false rfl rfl (decide_eq_false hc44) (zS (e:=168) rfl rfl rfl) (lw_tvn 9 rfl (wp_ret (post_ret [2] rfl (.bool false) rfl (by first | (exfalso; exact absurd (rsQ_sc hsc) (by assumption)) | (exfalso; (have h8:(!schB lD) = true:=(by assumption)); rw [hsc] at h8; cases h8) | (exfalso; (have h8:(!strE (ba (scL lD)) (ba (scL lD))) = true:=(by assumption)); rw [strE_refl] at h8; exact absurd h8 (by decide)) | (exfalso; (have h8:(!decide (rsQ (ba (scL lD)).data.toList = lD)) = true:=(by assumption)); rw [decide_eq_true (rsQ_sc hsc)] at h8; exact absurd h8 (by decide)) | (exfalso; exact absurd hrv.1.last (by assumption)) | exact ⟨rfl,hE35⟩ | exact ⟨ret_bool (decide_eq_true hfx.2),hE35⟩ | exact ⟨ret_bool (decide_eq_true hrv.2),hE35⟩))))
        ·
          exact c_cond_t (by first | rfl | (show Value.bool _ = _; rw [hb26])) (wp_seq (wp_plain _ [0] rfl (lw_tvn 1 rfl (wp_ret (t_ret (post_ret [2] rfl (.bool false) rfl (by first | (exfalso; exact absurd (rsQ_sc hsc) (by assumption)) | (exfalso; (have h8:(!schB lD) = true:=(by assumption)); rw [hsc] at h8; cases h8) | (exfalso; (have h8:(!strE (ba (scL lD)) (ba (scL lD))) = true:=(by assumption)); rw [strE_refl] at h8; exact absurd h8 (by decide)) | (exfalso; (have h8:(!decide (rsQ (ba (scL lD)).data.toList = lD)) = true:=(by assumption)); rw [decide_eq_true (rsQ_sc hsc)] at h8; exact absurd h8 (by decide)) | (exfalso; exact absurd hrv.1.last (by assumption)) | exact ⟨rfl,hE25⟩ | exact ⟨ret_bool (decide_eq_true hfx.2),hE25⟩ | exact ⟨ret_bool (decide_eq_true hrv.2),hE25⟩)))))))
      ·
        exact lw_tvn 4 rfl (c_cond_t rfl (wp_seq (wp_plain _ [0] rfl (lw_tvn 1 rfl (wp_ret (t_ret (post_ret [2] rfl (.bool false) rfl (by first | (exfalso; exact absurd (rsQ_sc hsc) (by assumption)) | (exfalso; (have h8:(!schB lD) = true:=(by assumption)); rw [hsc] at h8; cases h8) | (exfalso; (have h8:(!strE (ba (scL lD)) (ba (scL lD))) = true:=(by assumption)); rw [strE_refl] at h8; exact absurd h8 (by decide)) | (exfalso; (have h8:(!decide (rsQ (ba (scL lD)).data.toList = lD)) = true:=(by assumption)); rw [decide_eq_true (rsQ_sc hsc)] at h8; exact absurd h8 (by decide)) | (exfalso; exact absurd hrv.1.last (by assumption)) | exact ⟨rfl,hE23⟩ | exact ⟨ret_bool (decide_eq_true hfx.2),hE23⟩ | exact ⟨ret_bool (decide_eq_true hrv.2),hE23⟩))))))))
    ·
      exact q_neqs true u9 rfl rfl hc21 zN (lw_tvn 15 rfl (c_cond_t rfl (wp_seq (wp_plain _ [0] rfl (lw_tvn 1 rfl (wp_ret (t_ret (post_ret [2] rfl (.bool false) rfl (by first | (exfalso; exact absurd (rsQ_sc hsc) (by assumption)) | (exfalso; (have h8:(!schB lD) = true:=(by assumption)); rw [hsc] at h8; cases h8) | (exfalso; (have h8:(!strE (ba (scL lD)) (ba (scL lD))) = true:=(by assumption)); rw [strE_refl] at h8; exact absurd h8 (by decide)) | (exfalso; (have h8:(!decide (rsQ (ba (scL lD)).data.toList = lD)) = true:=(by assumption)); rw [decide_eq_true (rsQ_sc hsc)] at h8; exact absurd h8 (by decide)) | (exfalso; exact absurd hrv.1.last (by assumption)) | exact ⟨rfl,hE20⟩ | exact ⟨ret_bool (decide_eq_true hfx.2),hE20⟩ | exact ⟨ret_bool (decide_eq_true hrv.2),hE20⟩)))))))))
  ·
    have hdc46:=of_decide_eq_true hb2
    exact c_cond_t (by first | rfl | (show Value.bool _ = _; rw [hb2])) (wp_seq (wp_plain _ [0] rfl (lw_tvn 1 rfl (wp_ret (t_ret (post_ret [2] rfl (.bool true) rfl (by first | (exfalso; exact absurd (rsQ_sc hsc) (by assumption)) | (exfalso; (have h8:(!schB lD) = true:=(by assumption)); rw [hsc] at h8; cases h8) | (exfalso; (have h8:(!strE (ba (scL lD)) (ba (scL lD))) = true:=(by assumption)); rw [strE_refl] at h8; exact absurd h8 (by decide)) | (exfalso; (have h8:(!decide (rsQ (ba (scL lD)).data.toList = lD)) = true:=(by assumption)); rw [decide_eq_true (rsQ_sc hsc)] at h8; exact absurd h8 (by decide)) | (exfalso; exact absurd hrv.1.last (by assumption)) | exact ⟨rfl,hE1⟩ | exact ⟨ret_bool (decide_eq_true hfx.2),hE1⟩ | exact ⟨ret_bool (decide_eq_true hrv.2),hE1⟩)))))))
end Go.Proofs.YtlbefjfhfodnlaaGreatDoor
