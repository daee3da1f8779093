/- Ue, Ul, Sw, Um, Un, Uo, Up, Zb, Lc, Ld, Lh, Zc: texts of this claim, joined; what the claim does not come to is left out. -/
import Derived.Test.YtlbefjfhfodnlaaGreatDoorQC2
import Derived.Test.YtlbefjfhfodnlaaGreatDoorProg
import Derived.Shelf.LaySoft
import Derived.Shelf.Strings.OnBuilder
import Derived.Shelf.Small.Strs
import Derived.Shelf.LaysM
import Derived.Shelf.LaysC
import Derived.Shelf.Strconv.Itoa4
import Derived.Shelf.Strconv.ParseIntPublic10
import Derived.Shelf.Strings.Split
import Derived.Ground.NamesProg
import Derived.WalkSmall
import Derived.Lib.LaidU8
import Derived.LaidLaws
set_option linter.unusedVariables false
set_option linter.unusedSimpArgs false
namespace Go.Proofs.YtlbefjfhfodnlaaGreatDoor
open Go Go.RowKit
set_option linter.unusedVariables false
set_option linter.unusedSimpArgs false
set_option maxHeartbeats 4000000
set_option maxRecDepth 100000
attribute [local irreducible] LW
theorem c_spec_l06Bad (w:World) (va:Value) (l:List Av) (n:Nat) (k:Nat) (hl:RN [] (rdS 2 rAv) w.heap va l) (_hn:n≤1000000000000) (_hk:k≤1000000000000) (hnk:n≤40∧k≤8) (hll:l.length≤400) (havl:∀ i,i < l.length→avK (l.getD i Av.zero)) :
    Calls Tryz.prog 46 #[va,.int .i64 ((n:Nat):Int),.int .i64 ((k:Nat):Int)] w (fun e w'=>e = .returned (.tuple #[.int .i64 (bdI l n k),.bool (bdB l n k)])∧Ext w w'):=by
  refine calls_mk [va,.int .i64 ((n:Nat):Int),.int .i64 ((k:Nat):Int)] 40 Tryz.func46 rfl rfl sM ?_
  have hE0:Ext w w:=Ext.refl w
  refine wp_seq (wp_plain _ [0,0] rfl (lw_tvn 2 rfl (wp_seq (wp_plain _ [0,0,3,0] rfl (lw_tv 2 rfl (lw_call 88 [] [] [(.int .i64 ((n:Nat):Int)),(.int .i64 ((k:Nat):Int))] rfl rfl cf88 zN (c_spec_l06Begin _ n k oM oM oM) ?_))))))
  rintro e1 w1 ⟨g,vs,Fs,rfl,hX1,hK,hlow⟩
  refine ⟨_,rfl,hX1,?_⟩
  have hzs1:w.heap.size≤w1.heap.size:=hX1.size
  have hE1:Ext w w1:=hE0.trans hX1
  have hlw9:w.heap.size≤w.heap.size:=hE0.size
  refine lw_tvn 1 rfl (wp_seq (wp_seq (wp_plain _ [0] rfl (lw_tvn 1 rfl (wp_block ?_)))))
  have hK0:=hK
  refine c_loop (S:=Nat × Cn) (fun (⟨i,z⟩:Nat × Cn)=>([(9,(.int .i64 ((i:Nat):Int))),(0,va),(8,(.pointer (some ⟨g,0,none⟩)))]:List (Nat × Value))) (fun (⟨i,z⟩:Nat × Cn) (W:World)=>Ext w W∧i≤l.length∧RnK 2 W.heap g vs Fs z∧CnK ((n:Nat):Int) z∧fbS (l.drop i) z ((i:Nat):Int) = fbS l (bgn ((n:Nat):Int) k) 0) (fun (⟨i,z⟩:Nat × Cn)=>l.length - i) (0,bgn ((n:Nat):Int) k) ⟨rfl,rfl,rfl,trivial⟩ ⟨hE1,oM,(by exact hK0),(by exact bgn_k oM k),(by rfl)⟩ ?_
  clear hE0 hX1 hzs1 hE1
  rintro ⟨i,z⟩ ρ2 w2 ⟨hE2,hp2_0,hKl,hBl,hfl⟩
  have hzs2:w.heap.size≤w2.heap.size:=hE2.size
  refine wp_seq (wp_seq (wp_plain _ [0,0,0,0] rfl (lw_tv 2 rfl (q_len (v:=va) u24 rfl hl.isSl zN ?_))))
  by_cases hc3:((i:Nat):Int) < ((l.length:Nat):Int)
  ·
    refine q_lss true rfl rfl (decide_eq_true hc3) zN (lw_nil (c_cond_t rfl (wp_skip (wp_seq (wp_block (wp_seq (wp_seq (wp_plain _ [0,0,0,0,2,3,0] rfl (lw_tv 3 rfl (q_idx (v:=va) i u24 tiS79 rfl rfl hl.isSl rfl sD zN ?_))))))))))
    obtain ⟨cs4,hr4,hl4⟩:=hl.get good_rAv Av.zero (k:=i) sD
    obtain ⟨rfl,hx4⟩:=rn_av hr4
    refine q_loadA (p:=eptr va i 2) (.inr rfl) [(.int .i64 ((l.getD i Av.zero).kind)),(.int .i64 ((l.getD i Av.zero).arg))] agg79 rfl (fun wq9 hw9=>hl4 wq9 (Chg.of_ext [] (hE2.trans hw9))) rfl zN (lw_call 94 [] [] [(.pointer (some ⟨g,0,none⟩)),(.agg #[(.int .i64 ((l.getD i Av.zero).kind)),(.int .i64 ((l.getD i Av.zero).arg))])] rfl rfl cf94 zN (c_spec_l06Run_possible _ g vs Fs z ((n:Nat):Int) (l.getD i Av.zero) hKl ⟨hx4.1,hx4.2⟩ oM (by exact hBl) (by exact havl i oM)) ?_)
    rintro e5 w5 ⟨rfl,hX5⟩
    refine ⟨_,rfl,hX5,?_⟩
    have hzs5:w2.heap.size≤w5.heap.size:=hX5.size
    have hE5:Ext w w5:=hE2.trans hX5
    have hKx6:=hKl.ext hX5
    refine q_not (!(posA z (l.getD i Av.zero))) rfl rfl zN (lw_nil ?_)
    cases hb7:(!(posA z (l.getD i Av.zero)))
    ·
      refine c_cond_f (by first | rfl | (show Value.bool _ = _; rw [hb7])) (wp_skip (wp_plain _ [0,0,0,0,2,4] rfl (lw_tv 3 rfl (q_idx (v:=va) i u24 tiS79 rfl rfl hl.isSl rfl sD zN (q_loadA (p:=eptr va i 2) (.inr rfl) [(.int .i64 ((l.getD i Av.zero).kind)),(.int .i64 ((l.getD i Av.zero).arg))] agg79 rfl (fun wq9 hw9=>hl4 wq9 (Chg.of_ext [] (hE5.trans hw9))) rfl zN ?_)))))
      refine lw_callE 95 [] [] [(.pointer (some ⟨g,0,none⟩)),(.agg #[(.int .i64 ((l.getD i Av.zero).kind)),(.int .i64 ((l.getD i Av.zero).arg))])] rfl rfl cf95 zN (c_spec_l06Run_act _ g vs Fs z ((n:Nat):Int) (l.getD i Av.zero) hKx6 ⟨hx4.1,hx4.2⟩ oM (by exact hBl) (by exact havl i oM) (by (have h8:(!posA z (l.getD i Av.zero)) = false:=(by assumption)); (have h7:posA z (l.getD i Av.zero) = true:=by simpa using h8); exact h7)) ?_
      rintro e8 w8 ⟨rfl,hC8,hK8⟩
      refine ⟨_,rfl,?_⟩
      have hzs8:w5.heap.size≤w8.heap.size:=hC8.size
      have hE8:Ext w w8:=hC8.below hE5 (fun c hc=>by have:=hlow c hc; omega) hE5.size
      refine lw_nil (wp_plain _ [0,0,0] rfl (lw_tv 1 rfl (q_add ((i + 1:Nat):Int) rfl rfl (w64n oM oM) zN (lw_tvn 1 rfl ?_))))
      have hKe:=hK8
      (have h8:(!posA z (l.getD i Av.zero)) = false:=(by assumption)); (have h7:posA z (l.getD i Av.zero) = true:=by simpa using h8)
      exact ⟨((i + 1),(actA z (l.getD i Av.zero))),_,rfl,⟨rfl,rfl,rfl,trivial⟩,⟨hE8,oM,(by exact hKe),(by exact hBl.act (havl i oM) h7),(by have h9:=(fb_step (l:=l) (i:=i) (c:=z) oM h7 ((i:Nat):Int)).symm; rw [show ((i:Nat):Int) + 1 = ((i + 1:Nat):Int) from by omega] at h9; rw [h9]; exact hfl)⟩,by first | omega | (dsimp only; omega)⟩
    ·
      exact c_cond_t (by first | rfl | (show Value.bool _ = _; rw [hb7])) (wp_seq (wp_plain _ [0,0,0] rfl (lw_tvn 3 rfl (wp_ret (t_ret (b_ret (t_ret (t_ret (b_ret (t_ret (post_ret [6,7] rfl (.tuple #[(.int .i64 ((i:Nat):Int)),(.bool true)]) rfl ⟨(by (have h8:(!posA z (l.getD i Av.zero)) = true:=(by assumption)); (have h7:posA z (l.getD i Av.zero) = false:=by simpa using h8); exact bd_bad hfl oM h7),hE5⟩)))))))))))
  ·
    refine q_lss false rfl rfl (decide_eq_false hc3) zN (lw_nil (c_cond_f rfl (wp_exit (t_exit (t_exit (c_exit_here (wp_seq (wp_draw _ [0,0,0,0,0,1,0,0,0] mixed (by kernel_rfl) (lw_tv 1 rfl (q_len (v:=va) u24 rfl hl.isSl zN (lw_tv 1 rfl (q_nilP ⟨_,_,rfl⟩ rfl zN (q_fldP (p:=(.pointer (some ⟨g,0,none⟩))) (b:=g) (o:=0) 1 fd137_1 rfl rfl zN (q_load (p:=(padd (.pointer (some ⟨g,0,none⟩)) 1)) (.inl rfl) (.int .i64 z.left) one2 rfl ((hKl.bx).ldp (i:=1) sM) zN (q_gtr (decide (((0:Nat):Int) < z.left)) rfl rfl rfl zN (lw_tvn 2 rfl (wp_ret ?_)))))))))))))))))
    exact post_ret [6,7] rfl (.tuple #[(.int .i64 ((l.length:Nat):Int)),(.bool (decide (((0:Nat):Int) < z.left)))]) rfl ⟨(bd_end hfl oM oM),hE2.drew⟩
theorem px_len {dn:Bool} {a:Int} {l:List Int} {j:Nat} (h:l.length≤j):(if dn = true then putI a l else l).length≤j + 1:=by
  split
  · have:=putI_len (a:=a) (l:=l); omega
  · omega
theorem z96_0 {p:Prop} (h:p:=by rw [take_snoc 0 (show j < xs.length by omega)]; first | ((have hdt:dn = true:=(by have h8:(!dn) = false:=(by assumption); simpa using h8)); subst hdt; exact ⟨fun h9=>(by cases h9),fun _=>(hdn.2 rfl).elim fun x h6=>⟨x,List.mem_append_left _ h6.1,h6.2⟩⟩) | ((have hdf:dn = false:=(by have h8:(!dn) = true:=(by assumption); simpa using h8)); subst hdf; first | exact ⟨fun h9=>(by cases h9),fun _=>⟨_,List.mem_append_right _ (List.mem_singleton.2 rfl),by omega⟩⟩ | exact ⟨fun _ x hx=>(List.mem_append.1 hx).elim (hdn.1 rfl x) (fun h8=>by rw [List.mem_singleton.1 h8]; omega),fun h9=>(by cases h9)⟩)):p:=h
theorem z96_1 {p:Prop} (h:p:=by unfold maxLen; first | omega | assumption | (simp only [List.length_nil,List.length_cons,List.length_append,List.length_set,List.length_replicate]; omega) | (simp [List.length_nil,List.length_cons,List.length_append,List.length_set,List.length_replicate]; done) | (simp [List.length_nil,List.length_cons,List.length_append,List.length_set,List.length_replicate]; omega)):p:=h
theorem c_spec_l00Put (w:World) (vx:Value) (xs:List Int) (a:Int) (hxs:Rd (rdL rI) w.heap vx xs) (_ha:-9223372036854775808≤a∧a≤9223372036854775807) (hlx:xs.length≤1000000) :
    Calls Tryz.prog 96 #[vx,.int .i64 a] w (fun e w'=>∃ v0:Value,e = .returned (v0)∧Ext w w'∧Fr (owL rI 2) w.heap.size w'.heap.size w'.heap v0 (putI a xs)):=by
  refine calls_mk [vx,.int .i64 a] 49 Tryz.func96 rfl rfl sM ?_
  have hE0:Ext w w:=Ext.refl w
  have hl_vx:=hxs.lenle
  refine wp_seq (wp_plain _ [0] rfl (lw_tvn 1 rfl (wp_seq (wp_plain _ [3,0] rfl (r_nil (rI) good_rI u25 ti2 zN fun v1 w1 hX1 hz1 hO1=>?_)))))
  have hzs1:w.heap.size≤w1.heap.size:=hX1.size
  have hE1:Ext w w1:=hE0.trans hX1
  refine lw_tvn 1 rfl (wp_seq (wp_plain _ [0] rfl (lw_tvn 1 rfl (wp_seq (wp_seq (wp_plain _ [0] rfl (lw_tvn 1 rfl (wp_block (c_loop (S:=Nat × Bool × Value) (fun (⟨j,dn,vo⟩:Nat × Bool × Value)=>([(5,vo),(6,(.bool dn)),(7,(.int .i64 ((j:Nat):Int))),(0,vx),(1,(.int .i64 a))]:List (Nat × Value))) (fun (⟨j,dn,vo⟩:Nat × Bool × Value) (W:World)=>Ext w W∧Fr (owL rI 2) w.heap.size W.heap.size W.heap vo (if dn = true then putI a (xs.take j) else xs.take j)∧j≤xs.length∧((dn = false→∀ x∈xs.take j,x < a)∧(dn = true→∃ x∈xs.take j,a≤x))) (fun (⟨j,dn,vo⟩:Nat × Bool × Value)=>xs.length - j) (0,false,v1) ⟨rfl,rfl,rfl,rfl,rfl,trivial⟩ ⟨hE1,hO1.up o1,oM,(by exact ⟨fun _ x hx=>by simp at hx,fun h9=>by cases h9⟩)⟩ ?_)))))))))
  clear hE0 hO1 hz1 hX1 hzs1 hE1
  rintro ⟨j,dn,vo⟩ ρ2 w2 ⟨hE2,hL2_0,hp2_0,hdn⟩
  have hzs2:w.heap.size≤w2.heap.size:=hE2.size
  have hpl:=px_len (dn:=dn) (a:=a) (l:=xs.take j) (j:=j) (by rw [List.length_take]; omega)
  refine wp_seq (wp_seq (wp_plain _ [0,0,0,0] rfl (lw_tv 2 rfl (q_len (v:=vx) u25 rfl hxs.isSl zN ?_))))
  by_cases hc3:((j:Nat):Int) < ((xs.length:Nat):Int)
  ·
    refine q_lss true rfl rfl (decide_eq_true hc3) zN (lw_nil (c_cond_t rfl (wp_skip (wp_seq (wp_block (wp_seq (wp_seq (wp_plain _ [0,0,0,0,0,0,2,0,0,0] rfl (lw_tv 1 rfl (q_not (!dn) rfl rfl zN (lw_tv 1 rfl ?_)))))))))))
    cases hb4:(!dn)
    ·
      refine lw_tvn 7 rfl (c_cond_f rfl (wp_skip (wp_plain _ [0,0,0,0,2,3,4,0] rfl (lw_tv 3 rfl (q_idx (v:=vx) j u25 ti2 rfl rfl hxs.isSl rfl sD zN ?_)))))
      refine q_load (p:=eptr vx j 1) (.inr rfl) (.int .i64 (xs.getD j 0)) one2 rfl (ldH_ext hE2 (hxs.getI sD).1) zN ?_
      refine r_one (u:=(.int .i64 (xs.getD j 0))) (B:=w2.heap.size) good_rI u25 ti2 rfl rfl (frI w2.heap.size w2.heap.size _ _ (hxs.getI sD).2) (Nat.le_refl _) zN fun v5 w5 hX5 hz5 hO5=>?_
      have hzs5:w2.heap.size≤w5.heap.size:=hX5.size
      have hE5:Ext w w5:=hE2.trans hX5
      have hL2_0x5:=hL2_0.ext (o1) hX5
      refine e_appI (v:=vo) (a:=v5) u25 ti2 rfl rfl rfl hL2_0x5 hE5.size hO5.rd1 sD z96_1 zN fun v6 w6 F6 hC6 hF6 hO6=>?_
      have hE6:Ext w w6:=hC6.below hE5 (fun c hc=>Nat.le_trans (Nat.le_refl _) (hF6 c hc).1) hE5.size
      have hzs6:w5.heap.size≤w6.heap.size:=hC6.size
      have hF7:=hO5.chg (o1) hC6 (fun c hc=>by have:=hF6 c hc; omega)
      refine lw_tvn 1 rfl (wp_plain _ [0,0,0] rfl (lw_tv 1 rfl (q_add ((j + 1:Nat):Int) rfl rfl (w64n oM oM) zN (lw_tvn 1 rfl ?_))))
      exact ⟨((j + 1),dn,v6),_,rfl,⟨rfl,rfl,rfl,rfl,rfl,trivial⟩,⟨hE6,(by have h:=hO6.up o1; rw [take_snoc 0 (show j < xs.length by omega)]; first | ((have hdt:dn = true:=(by have h8:(!dn) = false:=(by assumption); simpa using h8)); subst hdt; rw [if_pos rfl] at h; rw [if_pos rfl,putI_snoc (hdn.2 rfl)]; exact h) | ((have hdf:dn = false:=(by have h8:(!dn) = true:=(by assumption); simpa using h8)); subst hdf; rw [if_neg Bool.false_ne_true] at h; first | (rw [if_pos rfl,putI_ge (hdn.1 rfl) oM,if_pos oM]; exact h) | (rw [if_pos rfl,putI_ge (hdn.1 rfl) oM,if_neg oM]; exact h) | (rw [if_neg Bool.false_ne_true]; exact h))),oM,z96_0⟩,by first | omega | (dsimp only; omega)⟩
    ·
      refine lw_tv 2 rfl (q_idx (v:=vx) j u25 ti2 rfl rfl hxs.isSl rfl sD (zS (e:=17) rfl rfl rfl) ?_)
      refine q_load (p:=eptr vx j 1) (.inr rfl) (.int .i64 (xs.getD j 0)) one2 rfl (ldH_ext hE2 (hxs.getI sD).1) (zS (e:=17) rfl rfl rfl) (lw_tv 1 rfl ?_)
      by_cases hc8:a≤xs.getD j 0
      ·
        refine q_geq true rfl rfl (decide_eq_true hc8) (zS (e:=17) rfl rfl rfl) (lw_tvn 1 rfl (c_cond_t rfl (wp_seq (wp_plain _ [0] rfl (lw_tvn 1 rfl (wp_seq (wp_plain _ [0,0,0,2,0,0] rfl (lw_tv 2 rfl (q_idx (v:=vx) j u25 ti2 rfl rfl hxs.isSl rfl sD zN ?_)))))))))
        refine q_load (p:=eptr vx j 1) (.inr rfl) (.int .i64 (xs.getD j 0)) one2 rfl (ldH_ext hE2 (hxs.getI sD).1) zN (lw_tv 1 rfl ?_)
        by_cases hc9:a < xs.getD j 0
        ·
          refine q_gtr true rfl rfl (decide_eq_true hc9) zN (lw_nil (c_cond_t rfl (wp_plain _ [0,0,3,4,0] rfl (lw_tv 2 rfl (r_one (u:=(.int .i64 a)) (B:=w2.heap.size) good_rI u25 ti2 rfl rfl (frI w2.heap.size w2.heap.size _ _ _ha) (Nat.le_refl _) zN fun v10 w10 hX10 hz10 hO10=>?_)))))
          have hzs10:w2.heap.size≤w10.heap.size:=hX10.size
          have hE10:Ext w w10:=hE2.trans hX10
          have hL2_0x10:=hL2_0.ext (o1) hX10
          refine e_appI (v:=vo) (a:=v10) u25 ti2 rfl rfl rfl hL2_0x10 hE10.size hO10.rd1 sD z96_1 zN fun v11 w11 F11 hC11 hF11 hO11=>?_
          have hE11:Ext w w11:=hC11.below hE10 (fun c hc=>Nat.le_trans (Nat.le_refl _) (hF11 c hc).1) hE10.size
          have hzs11:w10.heap.size≤w11.heap.size:=hC11.size
          have hF12:=hO10.chg (o1) hC11 (fun c hc=>by have:=hF11 c hc; omega)
          refine lw_tvn 1 rfl (wp_plain _ [0,0,0,0,2,3,4,0] rfl (lw_tv 3 rfl (q_idx (v:=vx) j u25 ti2 rfl rfl hxs.isSl rfl sD zN ?_)))
          refine q_load (p:=eptr vx j 1) (.inr rfl) (.int .i64 (xs.getD j 0)) one2 rfl (ldH_ext hE11 (hxs.getI sD).1) zN ?_
          refine r_one (u:=(.int .i64 (xs.getD j 0))) (B:=w11.heap.size) good_rI u25 ti2 rfl rfl (frI w11.heap.size w11.heap.size _ _ (hxs.getI sD).2) (Nat.le_refl _) zN fun v13 w13 hX13 hz13 hO13=>?_
          have hzs13:w11.heap.size≤w13.heap.size:=hX13.size
          have hE13:Ext w w13:=hE11.trans hX13
          have hO11x13:=hO11.ext (o1) hX13
          refine e_appI (v:=v11) (a:=v13) u25 ti2 rfl rfl rfl hO11x13 hE13.size hO13.rd1 sD z96_1 zN fun v14 w14 F14 hC14 hF14 hO14=>?_
          have hE14:Ext w w14:=hC14.below hE13 (fun c hc=>Nat.le_trans (Nat.le_refl _) (hF14 c hc).1) hE13.size
          have hzs14:w13.heap.size≤w14.heap.size:=hC14.size
          have hF15:=hO13.chg (o1) hC14 (fun c hc=>by have:=hF14 c hc; omega)
          refine lw_tvn 1 rfl (wp_plain _ [0,0,0] rfl (lw_tv 1 rfl (q_add ((j + 1:Nat):Int) rfl rfl (w64n oM oM) zN (lw_tvn 1 rfl ?_))))
          exact ⟨((j + 1),true,v14),_,rfl,⟨rfl,rfl,rfl,rfl,rfl,trivial⟩,⟨hE14,(by have h:=hO14.up o1; rw [take_snoc 0 (show j < xs.length by omega)]; first | ((have hdt:dn = true:=(by have h8:(!dn) = false:=(by assumption); simpa using h8)); subst hdt; rw [if_pos rfl] at h; rw [if_pos rfl,putI_snoc (hdn.2 rfl)]; exact h) | ((have hdf:dn = false:=(by have h8:(!dn) = true:=(by assumption); simpa using h8)); subst hdf; rw [if_neg Bool.false_ne_true] at h; first | (rw [if_pos rfl,putI_ge (hdn.1 rfl) oM,if_pos oM]; exact h) | (rw [if_pos rfl,putI_ge (hdn.1 rfl) oM,if_neg oM]; exact h) | (rw [if_neg Bool.false_ne_true]; exact h))),oM,z96_0⟩,by first | omega | (dsimp only; omega)⟩
        ·
          refine q_gtr false rfl rfl (decide_eq_false hc9) zN (lw_nil (c_cond_f rfl (wp_skip (wp_plain _ [0,0,0,0,2,3,4,0] rfl (lw_tv 3 rfl (q_idx (v:=vx) j u25 ti2 rfl rfl hxs.isSl rfl sD zN ?_))))))
          refine q_load (p:=eptr vx j 1) (.inr rfl) (.int .i64 (xs.getD j 0)) one2 rfl (ldH_ext hE2 (hxs.getI sD).1) zN ?_
          refine r_one (u:=(.int .i64 (xs.getD j 0))) (B:=w2.heap.size) good_rI u25 ti2 rfl rfl (frI w2.heap.size w2.heap.size _ _ (hxs.getI sD).2) (Nat.le_refl _) zN fun v16 w16 hX16 hz16 hO16=>?_
          have hzs16:w2.heap.size≤w16.heap.size:=hX16.size
          have hE16:Ext w w16:=hE2.trans hX16
          have hL2_0x16:=hL2_0.ext (o1) hX16
          refine e_appI (v:=vo) (a:=v16) u25 ti2 rfl rfl rfl hL2_0x16 hE16.size hO16.rd1 sD z96_1 zN fun v17 w17 F17 hC17 hF17 hO17=>?_
          have hE17:Ext w w17:=hC17.below hE16 (fun c hc=>Nat.le_trans (Nat.le_refl _) (hF17 c hc).1) hE16.size
          have hzs17:w16.heap.size≤w17.heap.size:=hC17.size
          have hF18:=hO16.chg (o1) hC17 (fun c hc=>by have:=hF17 c hc; omega)
          refine lw_tvn 1 rfl (wp_plain _ [0,0,0] rfl (lw_tv 1 rfl (q_add ((j + 1:Nat):Int) rfl rfl (w64n oM oM) zN (lw_tvn 1 rfl ?_))))
          exact ⟨((j + 1),true,v17),_,rfl,⟨rfl,rfl,rfl,rfl,rfl,trivial⟩,⟨hE17,(by have h:=hO17.up o1; rw [take_snoc 0 (show j < xs.length by omega)]; first | ((have hdt:dn = true:=(by have h8:(!dn) = false:=(by assumption); simpa using h8)); subst hdt; rw [if_pos rfl] at h; rw [if_pos rfl,putI_snoc (hdn.2 rfl)]; exact h) | ((have hdf:dn = false:=(by have h8:(!dn) = true:=(by assumption); simpa using h8)); subst hdf; rw [if_neg Bool.false_ne_true] at h; first | (rw [if_pos rfl,putI_ge (hdn.1 rfl) oM,if_pos oM]; exact h) | (rw [if_pos rfl,putI_ge (hdn.1 rfl) oM,if_neg oM]; exact h) | (rw [if_neg Bool.false_ne_true]; exact h))),oM,z96_0⟩,by first | omega | (dsimp only; omega)⟩
      ·
        refine q_geq false rfl rfl (decide_eq_false hc8) (zS (e:=17) rfl rfl rfl) (lw_tvn 1 rfl (c_cond_f rfl (wp_skip (wp_plain _ [0,0,0,0,2,3,4,0] rfl (lw_tv 3 rfl (q_idx (v:=vx) j u25 ti2 rfl rfl hxs.isSl rfl sD zN ?_))))))
        refine q_load (p:=eptr vx j 1) (.inr rfl) (.int .i64 (xs.getD j 0)) one2 rfl (ldH_ext hE2 (hxs.getI sD).1) zN ?_
        refine r_one (u:=(.int .i64 (xs.getD j 0))) (B:=w2.heap.size) good_rI u25 ti2 rfl rfl (frI w2.heap.size w2.heap.size _ _ (hxs.getI sD).2) (Nat.le_refl _) zN fun v19 w19 hX19 hz19 hO19=>?_
        have hzs19:w2.heap.size≤w19.heap.size:=hX19.size
        have hE19:Ext w w19:=hE2.trans hX19
        have hL2_0x19:=hL2_0.ext (o1) hX19
        refine e_appI (v:=vo) (a:=v19) u25 ti2 rfl rfl rfl hL2_0x19 hE19.size hO19.rd1 sD z96_1 zN fun v20 w20 F20 hC20 hF20 hO20=>?_
        have hE20:Ext w w20:=hC20.below hE19 (fun c hc=>Nat.le_trans (Nat.le_refl _) (hF20 c hc).1) hE19.size
        have hzs20:w19.heap.size≤w20.heap.size:=hC20.size
        have hF21:=hO19.chg (o1) hC20 (fun c hc=>by have:=hF20 c hc; omega)
        refine lw_tvn 1 rfl (wp_plain _ [0,0,0] rfl (lw_tv 1 rfl (q_add ((j + 1:Nat):Int) rfl rfl (w64n oM oM) zN (lw_tvn 1 rfl ?_))))
        exact ⟨((j + 1),dn,v20),_,rfl,⟨rfl,rfl,rfl,rfl,rfl,trivial⟩,⟨hE20,(by have h:=hO20.up o1; rw [take_snoc 0 (show j < xs.length by omega)]; first | ((have hdt:dn = true:=(by have h8:(!dn) = false:=(by assumption); simpa using h8)); subst hdt; rw [if_pos rfl] at h; rw [if_pos rfl,putI_snoc (hdn.2 rfl)]; exact h) | ((have hdf:dn = false:=(by have h8:(!dn) = true:=(by assumption); simpa using h8)); subst hdf; rw [if_neg Bool.false_ne_true] at h; first | (rw [if_pos rfl,putI_ge (hdn.1 rfl) oM,if_pos oM]; exact h) | (rw [if_pos rfl,putI_ge (hdn.1 rfl) oM,if_neg oM]; exact h) | (rw [if_neg Bool.false_ne_true]; exact h))),oM,z96_0⟩,by first | omega | (dsimp only; omega)⟩
  ·
    refine q_lss false rfl rfl (decide_eq_false hc3) zN (lw_nil (c_cond_f rfl (wp_exit (t_exit (t_exit (c_exit_here (wp_seq (wp_seq (wp_plain _ [0,0] rfl (lw_tv 1 rfl (q_not (!dn) rfl rfl zN (lw_nil ?_))))))))))))
    cases hb22:(!dn)
    ·
      exact c_cond_f (by first | rfl | (show Value.bool _ = _; rw [hb22])) (wp_skip (wp_seq (wp_plain _ [0,0] rfl (lw_tvn 2 rfl (wp_ret (post_ret [4] rfl vo rfl ⟨vo,rfl,hE2,(by have h:=hL2_0.up o1; have h9:xs.take j = xs:=List.take_of_length_le oM; rw [h9] at h hdn; first | ((have hdt:dn = true:=(by have h8:(!dn) = false:=(by assumption); simpa using h8)); subst hdt; rw [if_pos rfl] at h; exact h) | ((have hdf:dn = false:=(by have h8:(!dn) = true:=(by assumption); simpa using h8)); subst hdf; rw [if_neg Bool.false_ne_true] at h; rw [putI_lt (hdn.1 rfl)]; exact h))⟩))))))
    ·
      refine c_cond_t (by first | rfl | (show Value.bool _ = _; rw [hb22])) (wp_plain _ [0,0,3,4,0] rfl (lw_tv 2 rfl (r_one (u:=(.int .i64 a)) (B:=w2.heap.size) good_rI u25 ti2 rfl rfl (frI w2.heap.size w2.heap.size _ _ _ha) (Nat.le_refl _) zN fun v23 w23 hX23 hz23 hO23=>?_)))
      have hzs23:w2.heap.size≤w23.heap.size:=hX23.size
      have hE23:Ext w w23:=hE2.trans hX23
      have hL2_0x23:=hL2_0.ext (o1) hX23
      refine e_appI (v:=vo) (a:=v23) u25 ti2 rfl rfl rfl hL2_0x23 hE23.size hO23.rd1 sD z96_1 zN fun v24 w24 F24 hC24 hF24 hO24=>?_
      have hE24:Ext w w24:=hC24.below hE23 (fun c hc=>Nat.le_trans (Nat.le_refl _) (hF24 c hc).1) hE23.size
      have hzs24:w23.heap.size≤w24.heap.size:=hC24.size
      have hF25:=hO23.chg (o1) hC24 (fun c hc=>by have:=hF24 c hc; omega)
      exact lw_tvn 1 rfl (wp_seq (wp_plain _ [0,0] rfl (lw_tvn 2 rfl (wp_ret (post_ret [4] rfl v24 rfl ⟨v24,rfl,hE24,(by have h:=hO24.up o1; have h9:xs.take j = xs:=List.take_of_length_le oM; rw [h9] at h hdn; first | ((have hdt:dn = true:=(by have h8:(!dn) = false:=(by assumption); simpa using h8)); subst hdt; rw [if_pos rfl] at h; exact h) | ((have hdf:dn = false:=(by have h8:(!dn) = true:=(by assumption); simpa using h8)); subst hdf; rw [if_neg Bool.false_ne_true] at h; rw [putI_lt (hdn.1 rfl)]; exact h))⟩)))))
theorem z47_0 {p:Prop} (h:p:=by (have hak9:=havl i oM); (unfold avK at hak9); (have e1:=dot_step (w:=ws) hBl (havl i oM) hps); (have e2:=stp_adv (s:=Z) (a:=(l.getD i Av.zero))); (have e3:=stp_st (s:=Z) (a:=(l.getD i Av.zero))); (have e4:=stp_ld (s:=Z) (a:=(l.getD i Av.zero))); rw [Int.toNat_natCast] at e1; first | ((have h1:(l.getD i Av.zero).kind = 1:=by omega); rw [if_pos h1] at e1 e2; rw [if_neg oM] at e3 e4; rw [show (l.getD i Av.zero).arg.toNat = j from by omega] at e1; exact ⟨by omega,by omega,by omega,by omega⟩) | ((have h1:(l.getD i Av.zero).kind = 2:=by omega); rw [if_neg oM] at e1 e2 e4; rw [if_pos h1] at e3; exact ⟨by omega,by omega,by omega,by omega⟩) | ((have h1:(l.getD i Av.zero).kind = 3:=by omega); rw [if_neg oM] at e1 e2 e3; rw [if_pos h1] at e4; exact ⟨by omega,by omega,by omega,by omega⟩) | ((have h1:(l.getD i Av.zero).kind = 4:=by omega); rw [if_neg oM] at e1 e2 e3 e4; exact ⟨by omega,by omega,by omega,by omega⟩)):p:=h
theorem z47_1 {p:Prop} (h:p:=by intro u hu; simp only [List.mem_cons,List.not_mem_nil,or_false] at hu; rcases hu with rfl | rfl | rfl | rfl | rfl <;> first | exact ⟨rfl,rfl⟩):p:=h
theorem z47_2 {p:Prop} (h:p:=by (have h9:=(rnC_next (l:=l) (s:=bgS ws.length k) (i:=i) oM).symm); rw [← hZr] at h9; exact h9):p:=h
theorem z47_3 {p:Prop} (h:p:=by rw [stp_us]; first | (rw [if_pos oM]; exact sm_put hsm _) | (rw [if_neg oM]; exact hsm)):p:=h
theorem z47_4 {p:Prop} (h:p:=by first | omega | (have h9:=putI_len (a:=(l.getD i Av.zero).arg) (l:=xs); omega)):p:=h
theorem z47_5 {p:Prop} (h:p:=by exact hBl.stpS (havl i oM) hps):p:=h
theorem c_spec_l06Used (w:World) (va:Value) (l:List Av) (vw:Value) (ws:List Int) (k:Nat) (hl:RN [] (rdS 2 rAv) w.heap va l) (hws:Rd (rdL rI) w.heap vw ws) (_hk:k≤1000000000000) (hnk:ws.length≤40∧k≤8) (hll:l.length≤400) (havl:∀ i,i < l.length→avK (l.getD i Av.zero)) (hw9:∀ i,0≤ws.getD i 0∧ws.getD i 0≤1000) (hfb:fbS l (bgn ((ws.length:Nat):Int) k) 0 = -1) :
    Calls Tryz.prog 47 #[va,vw,.int .i64 ((k:Nat):Int)] w (fun e w'=>e = .returned (usV (usR l ws k))∧Ext w w'):=by
  refine calls_mk [va,vw,.int .i64 ((k:Nat):Int)] 85 Tryz.func47 rfl rfl sM ?_
  have hE0:Ext w w:=Ext.refl w
  have hl_vw:=hws.lenle
  refine wp_seq (wp_plain _ [3] rfl (r_allocA (z:=.agg #[.int .i64 0,.int .i64 0,.int .i64 0,.int .i64 0,.int .i64 0]) zr29 zN fun w1 hX1 hz1 hB1=>?_))
  have hzs1:w.heap.size≤w1.heap.size:=hX1.size
  have hE1:Ext w w1:=hE0.trans hX1
  replace hB1:BX w1.heap w.heap.size [(.int .i64 0),(.int .i64 0),(.int .i64 0),(.int .i64 0),(.int .i64 0)]:=hB1
  refine lw_nil (wp_seq (wp_plain _ [0,3,4] rfl ?_))
  have hbd2:∀ (wq:World),(Instr.build 29 #[]).run Tryz.prog wq = .ok (.agg #[(.int .i64 0),(.int .i64 0),(.int .i64 0),(.int .i64 0),(.int .i64 0)]) wq:=by intro wq; kernel_rfl
  refine q_build (ps:=#[]) (.agg #[(.int .i64 0),(.int .i64 0),(.int .i64 0),(.int .i64 0),(.int .i64 0)]) (by simp only [List.map_toArray,List.map_cons,List.map_nil]) (fun wq=>hbd2  wq) zN ?_
  have hq4:=hB1.lt
  refine r_allocA (z:=.agg #[.int .i64 0,.int .i64 0,.int .i64 0,.int .i64 0,.int .i64 0]) zr29 zN fun w3 hX3 hz3 hB3=>?_
  have hzs3:w1.heap.size≤w3.heap.size:=hX3.size
  have hE3:Ext w w3:=hE1.trans hX3
  have hB1x3:=hB1.ext hX3
  replace hB3:BX w3.heap w1.heap.size [(.int .i64 0),(.int .i64 0),(.int .i64 0),(.int .i64 0),(.int .i64 0)]:=hB3
  refine e_setA (vs:=[(.int .i64 0),(.int .i64 0),(.int .i64 0),(.int .i64 0),(.int .i64 0)]) agg29 rfl rfl z47_1 hB3 rfl rfl zN fun w5 hC5 hz5 hB5=>?_
  replace hB5:BX w5.heap w1.heap.size [(.int .i64 0),(.int .i64 0),(.int .i64 0),(.int .i64 0),(.int .i64 0)]:=hB5
  have hE5:Ext w w5:=hC5.below hE3 (fun c hc=>by have:=List.mem_singleton.1 hc; omega) hE3.size
  have hzs5:w3.heap.size≤w5.heap.size:=hC5.size
  have hF6:=hB1x3.chg hC5 (fun hm=>by have:=List.mem_singleton.1 hm; omega)
  refine lw_nil (wp_seq (wp_plain _ [0,0,0,3,0] rfl (lw_tv 1 rfl (q_len (v:=vw) u25 rfl hws.isSl zN (lw_tv 1 rfl ?_)))))
  have hlb8:=(hF6).lt
  have hlb9:=(hB5).lt
  refine lw_call 88 [] [] [(.int .i64 ((ws.length:Nat):Int)),(.int .i64 ((k:Nat):Int))] rfl rfl cf88 zN (c_spec_l06Begin _ ws.length k oM oM oM) ?_
  rintro e7 w7 ⟨g,vs,Fs,rfl,hX7,hK,hlow⟩
  refine ⟨_,rfl,hX7,?_⟩
  have hzs7:w5.heap.size≤w7.heap.size:=hX7.size
  have hE7:Ext w w7:=hE5.trans hX7
  have hF6x7:=hF6.ext hX7
  have hB5x7:=hB5.ext hX7
  have hlw9:w.heap.size≤w5.heap.size:=hE5.size
  refine lw_tvn 1 rfl (wp_seq (wp_plain _ [3,0] rfl (r_nil (rI) good_rI u25 ti2 zN fun v10 w10 hX10 hz10 hO10=>?_)))
  have hzs10:w7.heap.size≤w10.heap.size:=hX10.size
  have hE10:Ext w w10:=hE7.trans hX10
  have hF6x10:=hF6x7.ext hX10
  have hB5x10:=hB5x7.ext hX10
  have hKx11:=hK.ext hX10
  refine lw_tvn 1 rfl (wp_seq (wp_seq (wp_plain _ [0] rfl (lw_tvn 1 rfl (wp_block ?_)))))
  have hK0:=hKx11
  have hKlt:=(hK).lt
  refine c_loop (S:=Nat × CS × Value × List Int × Int × Int × Int × Int) (fun (⟨i,Z,vo,xs,u0,u1,u2,u3⟩:Nat × CS × Value × List Int × Int × Int × Int × Int)=>([(9,vo),(10,(.int .i64 ((i:Nat):Int))),(0,va),(1,vw),(6,(.pointer (some ⟨w.heap.size,0,none⟩))),(7,(.pointer (some ⟨w1.heap.size,0,none⟩))),(8,(.pointer (some ⟨g,0,none⟩)))]:List (Nat × Value))) (fun (⟨i,Z,vo,xs,u0,u1,u2,u3⟩:Nat × CS × Value × List Int × Int × Int × Int × Int) (W:World)=>Ext w W∧Fr (owL rI 2) w7.heap.size W.heap.size W.heap vo xs∧BX W.heap w.heap.size [(.int .i64 0),(.int .i64 0),(.int .i64 0),(.int .i64 0),(.int .i64 0)]∧BX W.heap w1.heap.size [(.int .i64 u0),(.int .i64 u1),(.int .i64 u2),(.int .i64 u3),(.int .i64 0)]∧i≤l.length∧RnK 2 W.heap g vs Fs Z.c∧CsB ((ws.length:Nat):Int) i Z∧fbS (l.drop i) Z.c ((i:Nat):Int) = -1∧Z = rnC (l.take i) (bgS ws.length k)∧SmL xs Z.us∧(u0 = dotI Z.ov ws ws.length∧u1 = Z.u.adv∧u2 = Z.u.st∧u3 = Z.u.ld)∧xs.length≤i∧w.heap.size < w7.heap.size∧w1.heap.size < w7.heap.size∧w7.heap.size≤W.heap.size) (fun (⟨i,Z,vo,xs,u0,u1,u2,u3⟩:Nat × CS × Value × List Int × Int × Int × Int × Int)=>l.length - i) (0,bgS ws.length k,v10,[],0,0,0,0) ⟨rfl,rfl,rfl,rfl,rfl,rfl,rfl,trivial⟩ ⟨hE10,hO10.up o1,hF6x10,hB5x10,oM,(by exact hK0),(by exact bg_b oM k rfl),(by exact hfb),(by rfl),(by exact sm_nil),(by exact ⟨(dot_0 _).symm,rfl,rfl,rfl⟩),(by exact Nat.le_refl _),oM,oM,oM⟩ ?_
  clear hE0 hz1 hX1 hzs1 hE1 hz3 hX3 hzs3 hE3 hz5 hC5 hE5 hzs5 hF6 hX7 hF6x7 hO10 hz10 hX10 hzs10 hE10 hF6x10
  rintro ⟨i,Z,vo,xs,u0,u1,u2,u3⟩ ρ14 w14 ⟨hE14,hL14_0,hL14_1,hL14_2,hp14_0,hKl,hBl,hfl,hZr,hsm,husl,hp14_7,hkg12,hkg13,hkB15⟩
  have hzs14:w.heap.size≤w14.heap.size:=hE14.size
  have hq16:=hL14_1.lt
  have hq17:=hL14_2.lt
  refine wp_seq (wp_seq (wp_plain _ [0,0,0,0] rfl (lw_tv 2 rfl (q_len (v:=va) u24 rfl hl.isSl zN ?_))))
  by_cases hc18:((i:Nat):Int) < ((l.length:Nat):Int)
  ·
    refine q_lss true rfl rfl (decide_eq_true hc18) zN (lw_nil (c_cond_t rfl (wp_skip (wp_seq (wp_block (wp_seq (wp_plain _ [0,0,0,2,3,4] rfl ?_)))))))
    have hps:=fb_pos hfl oM
    have hak:=havl i oM
    have hdb:0≤dotI Z.ov ws ws.length∧dotI Z.ov ws ws.length≤16000000:=(by have h9:=dotI_bnd hBl.ov hw9 ws.length; have:(1000 * (i:Int) * (ws.length:Int))≤400000 * 40:=Int.mul_le_mul oM oM oM oM; omega)
    have hadv:=hBl.adv
    have hst:=hBl.st
    have hld:=hBl.ld
    have hat0:=hBl.k.at0
    have hatn:=hBl.k.atn
    have hl0:=hBl.k.l0
    have hln:=hBl.k.ln
    refine lw_tv 2 rfl (q_idx (v:=va) i u24 tiS79 rfl rfl hl.isSl rfl sD zN ?_)
    obtain ⟨cs19,hr19,hl19⟩:=hl.get good_rAv Av.zero (k:=i) sD
    obtain ⟨rfl,hx19⟩:=rn_av hr19
    refine q_loadA (p:=eptr va i 2) (.inr rfl) [(.int .i64 ((l.getD i Av.zero).kind)),(.int .i64 ((l.getD i Av.zero).arg))] agg79 rfl (fun wq9 hw9=>hl19 wq9 (Chg.of_ext [] (hE14.trans hw9))) rfl zN ?_
    have hq21:=hL14_1.lt
    have hq22:=hL14_2.lt
    refine r_allocA (z:=.agg #[.int .i64 0,.int .i64 0]) zr79 zN fun w20 hX20 hz20 hB20=>?_
    have hzs20:w14.heap.size≤w20.heap.size:=hX20.size
    have hE20:Ext w w20:=hE14.trans hX20
    have hL14_0x20:=hL14_0.ext (o1) hX20
    have hL14_1x20:=hL14_1.ext hX20
    have hL14_2x20:=hL14_2.ext hX20
    have hKx23:=hKl.ext hX20
    replace hB20:BX w20.heap w14.heap.size [(.int .i64 0),(.int .i64 0)]:=hB20
    refine e_setA (vs:=[(.int .i64 ((l.getD i Av.zero).kind)),(.int .i64 ((l.getD i Av.zero).arg))]) agg79 rfl rfl (by intro u hu; simp only [List.mem_cons,List.not_mem_nil,or_false] at hu; rcases hu with rfl | rfl <;> first | exact ⟨rfl,rfl⟩) hB20 rfl rfl zN fun w24 hC24 hz24 hB24=>?_
    replace hB24:BX w24.heap w14.heap.size [(.int .i64 ((l.getD i Av.zero).kind)),(.int .i64 ((l.getD i Av.zero).arg))]:=hB24
    have hE24:Ext w w24:=hC24.below hE20 (fun c hc=>by have:=List.mem_singleton.1 hc; omega) hE20.size
    have hzs24:w20.heap.size≤w24.heap.size:=hC24.size
    have hF25:=hL14_0x20.chg (o1) hC24 (fun c hc=>by have:=List.mem_singleton.1 hc; omega)
    have hF26:=hL14_1x20.chg hC24 (fun hm=>by have:=List.mem_singleton.1 hm; omega)
    have hF27:=hL14_2x20.chg hC24 (fun hm=>by have:=List.mem_singleton.1 hm; omega)
    have hKx28:=hKx23.chg hC24 (fun b hb hm=>by have h91:=hlow b hb; have h92:=hKl.lt b hb; have h93:=List.mem_singleton.1 hm; omega)
    refine lw_nil (wp_seq (wp_seq (wp_plain _ [0,2] rfl (q_fldP (p:=(.pointer (some ⟨w14.heap.size,0,none⟩))) (b:=w14.heap.size) (o:=0) 0 fd79_0 rfl rfl zN (q_load (p:=(padd (.pointer (some ⟨w14.heap.size,0,none⟩)) 0)) (.inr rfl) (.int .i64 ((l.getD i Av.zero).kind)) one2 rfl (hB24.ldp (i:=0) sM) zN (lw_nil (wp_block (wp_seq (wp_plain _ [0,0] rfl ?_)))))))))
    by_cases hc29:(l.getD i Av.zero).kind = ((1:Nat):Int)
    ·
      refine q_eql true rfl rfl (decide_eq_true hc29) zN (lw_tvn 1 rfl (c_cond_t rfl (wp_seq (wp_seq (wp_plain _ [0,0,0,2,0] rfl ?_)))))
      have hk1:(l.getD i Av.zero).kind = 1:=by omega
      have hpl:Z.c.at_ + (l.getD i Av.zero).arg < Z.c.left:=by rw [ps_1 hk1] at hps; exact of_decide_eq_true hps
      unfold avK at hak
      refine lw_tv 1 rfl (q_nilP ⟨_,_,rfl⟩ rfl zN (q_fldP (p:=(.pointer (some ⟨g,0,none⟩))) (b:=g) (o:=0) 0 fd137_0 rfl rfl zN (q_load (p:=(padd (.pointer (some ⟨g,0,none⟩)) 0)) (.inr rfl) (.int .i64 Z.c.at_) one2 rfl ((hKx28.bx).ldp (i:=0) sM) zN (lw_tvn 1 rfl (wp_block ?_)))))
      have hK1:=hKx28
      refine c_loop (S:=Nat × Int × Int) (fun (⟨j,kk,y0⟩:Nat × Int × Int)=>([(12,(.int .i64 kk)),(0,va),(1,vw),(6,(.pointer (some ⟨w.heap.size,0,none⟩))),(7,(.pointer (some ⟨w1.heap.size,0,none⟩))),(8,(.pointer (some ⟨g,0,none⟩))),(9,vo),(10,(.int .i64 ((i:Nat):Int))),(11,(.pointer (some ⟨w14.heap.size,0,none⟩)))]:List (Nat × Value))) (fun (⟨j,kk,y0⟩:Nat × Int × Int) (W:World)=>Ext w W∧Fr (owL rI 2) w7.heap.size w14.heap.size W.heap vo xs∧BX W.heap w.heap.size [(.int .i64 0),(.int .i64 0),(.int .i64 0),(.int .i64 0),(.int .i64 0)]∧BX W.heap w1.heap.size [(.int .i64 y0),(.int .i64 u1),(.int .i64 u2),(.int .i64 u3),(.int .i64 0)]∧BX W.heap w14.heap.size [(.int .i64 ((l.getD i Av.zero).kind)),(.int .i64 ((l.getD i Av.zero).arg))]∧j≤(l.getD i Av.zero).arg.toNat∧kk = Z.c.at_ + ((j:Nat):Int)∧RnK 2 W.heap g vs Fs Z.c∧y0 = u0 + sumW ws Z.c.at_.toNat j) (fun (⟨j,kk,y0⟩:Nat × Int × Int)=>(l.getD i Av.zero).arg.toNat - j) (0,Z.c.at_,u0) ⟨rfl,rfl,rfl,rfl,rfl,rfl,rfl,rfl,rfl,trivial⟩ ⟨hE24,hF25,hF26,hF27,hB24,oM,oM,(by exact hK1),(by (show u0 = u0 + 0); omega)⟩ ?_
      clear hL14_2 hL14_1 hL14_0 hz20 hX20 hzs20 hE20 hL14_0x20 hL14_1x20 hL14_2x20 hz24 hC24 hE24 hzs24 hF25 hF26 hF27
      rintro ⟨j,kk,y0⟩ ρ30 w30 ⟨hE30,hL30_0,hL30_1,hL30_2,hL30_3,hp30_0,hkk,hKm,hy0⟩
      have hzs30:w.heap.size≤w30.heap.size:=hE30.size
      have hq31:=hL30_1.lt
      have hq32:=hL30_2.lt
      have hq33:=hL30_3.lt
      refine wp_seq (wp_seq (wp_draw _ [0,0,0,0,1,0,1,0,0] mixed (by kernel_rfl) (lw_tv 2 rfl (q_nilP ⟨_,_,rfl⟩ rfl zN (q_fldP (p:=(.pointer (some ⟨g,0,none⟩))) (b:=g) (o:=0) 0 fd137_0 rfl rfl zN (q_load (p:=(padd (.pointer (some ⟨g,0,none⟩)) 0)) (.inl rfl) (.int .i64 Z.c.at_) one2 rfl ((hKm.bx).ldp (i:=0) sM) zN (q_fldP (p:=(.pointer (some ⟨w14.heap.size,0,none⟩))) (b:=w14.heap.size) (o:=0) 1 fd79_1 rfl rfl zN (q_load (p:=(padd (.pointer (some ⟨w14.heap.size,0,none⟩)) 1)) (.inl rfl) (.int .i64 ((l.getD i Av.zero).arg)) one2 rfl (hL30_3.ldp (i:=1) sM) zN ?_))))))))
      refine q_add (Z.c.at_ + ((l.getD i Av.zero).arg)) rfl rfl (w64 sD sD) zN ?_
      by_cases hc34:kk < Z.c.at_ + ((l.getD i Av.zero).arg)
      ·
        refine q_lss true rfl rfl (decide_eq_true hc34) zN (lw_nil (c_cond_t rfl (wp_skip (wp_seq (wp_block (wp_draw _ [0,1,0,0,0,1,0,0,4] mixed (by kernel_rfl) ?_))))))
        have hsb:=sumW_bnd (M:=1000) (fun q=>by have:=hw9 q; omega) Z.c.at_.toNat j (w:=ws)
        have hwk:=hw9 (Z.c.at_.toNat + j)
        refine q_fldP (p:=(.pointer (some ⟨w1.heap.size,0,none⟩))) (b:=w1.heap.size) (o:=0) 0 fd29_0 rfl rfl zN (q_load (p:=(padd (.pointer (some ⟨w1.heap.size,0,none⟩)) 0)) (.inl rfl) (.int .i64 y0) one2 rfl (hL30_2.ldp (i:=0) sM) zN (lw_tv 2 rfl (q_idx (v:=vw) (Z.c.at_.toNat + j) u25 ti2 rfl rfl hws.isSl oM oM zN (q_load (p:=eptr vw (Z.c.at_.toNat + j) 1) (.inl rfl) (.int .i64 (ws.getD (Z.c.at_.toNat + j) 0)) one2 rfl (ldH_ext hE30.drew.drew (hws.getI oM).1) zN ?_))))
        refine q_add (y0 + (ws.getD (Z.c.at_.toNat + j) 0)) rfl rfl (w64 sD sD) zN ?_
        refine q_fldP (p:=(.pointer (some ⟨w1.heap.size,0,none⟩))) (b:=w1.heap.size) (o:=0) 0 fd29_0 rfl rfl zN (e_setB (k:=0) (w:=w30.drew.drew) sz2 rfl rfl ⟨rfl,rfl⟩ hL30_2 sM zN fun w35 hC35 hz35 hB35=>?_)
        replace hC35:=hC35.of_drew
        replace hC35:=hC35.of_drew
        replace hB35:BX w35.heap w1.heap.size [(.int .i64 (y0 + (ws.getD (Z.c.at_.toNat + j) 0))),(.int .i64 u1),(.int .i64 u2),(.int .i64 u3),(.int .i64 0)]:=hB35
        have hE35:Ext w w35:=hC35.below hE30 (fun c hc=>by have:=List.mem_singleton.1 hc; omega) hE30.size
        have hzs35:w30.heap.size≤w35.heap.size:=hC35.size
        have hF36:=hL30_0.chg (o1) hC35 (fun c hc=>by have:=List.mem_singleton.1 hc; omega)
        have hF37:=hL30_1.chg hC35 (fun hm=>by have:=List.mem_singleton.1 hm; omega)
        have hF38:=hL30_3.chg hC35 (fun hm=>by have:=List.mem_singleton.1 hm; omega)
        have hKx39:=hKm.chg hC35 (fun b hb hm=>by have h91:=hlow b hb; have h92:=hKm.lt b hb; have h93:=List.mem_singleton.1 hm; omega)
        refine lw_nil (wp_plain _ [0,0,0] rfl (lw_tv 1 rfl (q_add (kk + 1) rfl rfl (w64 oM oM) zN (lw_tvn 1 rfl ?_))))
        have hKf:=hKx39
        exact ⟨((j + 1),(kk + 1),(y0 + (ws.getD (Z.c.at_.toNat + j) 0))),_,rfl,⟨rfl,rfl,rfl,rfl,rfl,rfl,rfl,rfl,rfl,trivial⟩,⟨hE35,hF36,hF37,hB35,hF38,oM,oM,(by exact hKf),(by (show _ = u0 + (sumW ws Z.c.at_.toNat j + ws.getD (Z.c.at_.toNat + j) 0)); omega)⟩,by first | omega | (dsimp only; omega)⟩
      ·
        refine q_lss false rfl rfl (decide_eq_false hc34) zN (lw_nil (c_cond_f rfl (wp_exit (t_exit (t_exit (c_exit_here (wp_plain _ [0,2,0,2,0,0,4] rfl (q_fldP (p:=(.pointer (some ⟨w1.heap.size,0,none⟩))) (b:=w1.heap.size) (o:=0) 1 fd29_1 rfl rfl zN (q_load (p:=(padd (.pointer (some ⟨w1.heap.size,0,none⟩)) 1)) (.inr rfl) (.int .i64 u1) one2 rfl (hL30_2.ldp (i:=1) sM) zN (q_fldP (p:=(.pointer (some ⟨w14.heap.size,0,none⟩))) (b:=w14.heap.size) (o:=0) 1 fd79_1 rfl rfl zN (q_load (p:=(padd (.pointer (some ⟨w14.heap.size,0,none⟩)) 1)) (.inr rfl) (.int .i64 ((l.getD i Av.zero).arg)) one2 rfl (hL30_3.ldp (i:=1) sM) zN ?_)))))))))))
        refine q_add (u1 + ((l.getD i Av.zero).arg)) rfl rfl (w64 sD sD) zN ?_
        refine q_fldP (p:=(.pointer (some ⟨w1.heap.size,0,none⟩))) (b:=w1.heap.size) (o:=0) 1 fd29_1 rfl rfl zN (e_setB (k:=1) (w:=w30.drew) sz2 rfl rfl ⟨rfl,rfl⟩ hL30_2 sM zN fun w40 hC40 hz40 hB40=>?_)
        replace hC40:=hC40.of_drew
        replace hB40:BX w40.heap w1.heap.size [(.int .i64 y0),(.int .i64 (u1 + ((l.getD i Av.zero).arg))),(.int .i64 u2),(.int .i64 u3),(.int .i64 0)]:=hB40
        have hE40:Ext w w40:=hC40.below hE30 (fun c hc=>by have:=List.mem_singleton.1 hc; omega) hE30.size
        have hzs40:w30.heap.size≤w40.heap.size:=hC40.size
        have hF41:=hL30_0.chg (o1) hC40 (fun c hc=>by have:=List.mem_singleton.1 hc; omega)
        have hF42:=hL30_1.chg hC40 (fun hm=>by have:=List.mem_singleton.1 hm; omega)
        have hF43:=hL30_3.chg hC40 (fun hm=>by have:=List.mem_singleton.1 hm; omega)
        have hKx44:=hKm.chg hC40 (fun b hb hm=>by have h91:=hlow b hb; have h92:=hKm.lt b hb; have h93:=List.mem_singleton.1 hm; omega)
        refine lw_nil (wp_plain _ [0,2,4] rfl (lw_tv 1 rfl (q_loadA (p:=(.pointer (some ⟨w14.heap.size,0,none⟩))) (.inr rfl) [(.int .i64 ((l.getD i Av.zero).kind)),(.int .i64 ((l.getD i Av.zero).arg))] agg79 rfl (fun wq9 hw9=>LD.of_box (BX.ext (w:=w40) hF43 hw9)) rfl zN (lw_callE 95 [] [] [(.pointer (some ⟨g,0,none⟩)),(.agg #[(.int .i64 ((l.getD i Av.zero).kind)),(.int .i64 ((l.getD i Av.zero).arg))])] rfl rfl cf95 zN (c_spec_l06Run_act _ g vs Fs Z.c ((ws.length:Nat):Int) (l.getD i Av.zero) hKx44 ⟨hx19.1,hx19.2⟩ oM (by exact hBl.k) (by exact havl i oM) (by exact hps)) ?_))))
        rintro e45 w45 ⟨rfl,hC45,hK45⟩
        refine ⟨_,rfl,?_⟩
        have hzs45:w40.heap.size≤w45.heap.size:=hC45.size
        have hE45:Ext w w45:=hC45.below hE40 (fun c hc=>by have:=hlow c hc; omega) hE40.size
        have hF46:=hF41.chg (o1) hC45 (fun c hc=>by have h91:=hlow c hc; have h92:=hKlt c hc; omega)
        have hF47:=hF42.chg hC45 (fun hm=>by have h91:=hlow _ hm; have h92:=hKl.lt _ hm; omega)
        have hF48:=hB40.chg hC45 (fun hm=>by have h91:=hlow _ hm; have h92:=hKl.lt _ hm; omega)
        refine lw_nil (wp_plain _ [0,0,0] rfl (lw_tv 1 rfl (q_add ((i + 1:Nat):Int) rfl rfl (w64n oM oM) zN (lw_tvn 1 rfl ?_))))
        have hKe:=hK45
        exact ⟨((i + 1),(stpS Z (l.getD i Av.zero)),vo,xs,y0,(u1 + ((l.getD i Av.zero).arg)),u2,u3),_,rfl,⟨rfl,rfl,rfl,rfl,rfl,rfl,rfl,trivial⟩,⟨hE45,hF46.up o1,hF47,hF48,oM,(by exact hKe),z47_5,(by exact fb_next hfl oM),z47_2,z47_3,z47_0,z47_4,oM,oM,oM⟩,by first | omega | (dsimp only; omega)⟩
    ·
      refine q_eql false rfl rfl (decide_eq_false hc29) zN (lw_tvn 1 rfl (c_cond_f rfl (wp_seq (wp_plain _ [0,0] rfl ?_))))
      by_cases hc50:(l.getD i Av.zero).kind = ((2:Nat):Int)
      ·
        refine q_eql true rfl rfl (decide_eq_true hc50) zN (lw_tvn 1 rfl (c_cond_t rfl (wp_seq (wp_plain _ [0,2,0,0,4] rfl (q_fldP (p:=(.pointer (some ⟨w1.heap.size,0,none⟩))) (b:=w1.heap.size) (o:=0) 2 fd29_2 rfl rfl zN (q_load (p:=(padd (.pointer (some ⟨w1.heap.size,0,none⟩)) 2)) (.inr rfl) (.int .i64 u2) one2 rfl (hF27.ldp (i:=2) sM) zN ?_))))))
        refine q_add (u2 + ((1:Nat):Int)) rfl rfl (w64 sD sD) zN ?_
        refine q_fldP (p:=(.pointer (some ⟨w1.heap.size,0,none⟩))) (b:=w1.heap.size) (o:=0) 2 fd29_2 rfl rfl zN (e_setB (k:=2) (w:=w24) sz2 rfl rfl ⟨rfl,rfl⟩ hF27 sM zN fun w51 hC51 hz51 hB51=>?_)
        replace hB51:BX w51.heap w1.heap.size [(.int .i64 u0),(.int .i64 u1),(.int .i64 (u2 + ((1:Nat):Int))),(.int .i64 u3),(.int .i64 0)]:=hB51
        have hE51:Ext w w51:=hC51.below hE24 (fun c hc=>by have:=List.mem_singleton.1 hc; omega) hE24.size
        have hzs51:w24.heap.size≤w51.heap.size:=hC51.size
        have hF52:=hF25.chg (o1) hC51 (fun c hc=>by have:=List.mem_singleton.1 hc; omega)
        have hF53:=hF26.chg hC51 (fun hm=>by have:=List.mem_singleton.1 hm; omega)
        have hF54:=hB24.chg hC51 (fun hm=>by have:=List.mem_singleton.1 hm; omega)
        have hKx55:=hKx28.chg hC51 (fun b hb hm=>by have h91:=hlow b hb; have h92:=hKx28.lt b hb; have h93:=List.mem_singleton.1 hm; omega)
        refine lw_nil (wp_plain _ [0,0,2,3,0] rfl (lw_tv 1 rfl (q_fldP (p:=(.pointer (some ⟨w14.heap.size,0,none⟩))) (b:=w14.heap.size) (o:=0) 1 fd79_1 rfl rfl zN (q_load (p:=(padd (.pointer (some ⟨w14.heap.size,0,none⟩)) 1)) (.inr rfl) (.int .i64 ((l.getD i Av.zero).arg)) one2 rfl (hF54.ldp (i:=1) sM) zN (lw_call 96 [] [] [vo,(.int .i64 ((l.getD i Av.zero).arg))] rfl rfl cf96 zN (c_spec_l00Put _ _ _ _ hF52.rd1 hx19.2 oM) ?_)))))
        rintro e56 w56 ⟨v56_0,rfl,hX56,hO56_0⟩
        refine ⟨_,rfl,hX56,?_⟩
        have hzs56:w51.heap.size≤w56.heap.size:=hX56.size
        have hE56:Ext w w56:=hE51.trans hX56
        have hF53x56:=hF53.ext hX56
        have hB51x56:=hB51.ext hX56
        have hF54x56:=hF54.ext hX56
        have hKx57:=hKx55.ext hX56
        refine lw_tvn 1 rfl (wp_plain _ [0,2,4] rfl (lw_tv 1 rfl (q_loadA (p:=(.pointer (some ⟨w14.heap.size,0,none⟩))) (.inr rfl) [(.int .i64 ((l.getD i Av.zero).kind)),(.int .i64 ((l.getD i Av.zero).arg))] agg79 rfl (fun wq9 hw9=>LD.of_box (BX.ext (w:=w56) hF54x56 hw9)) rfl zN (lw_callE 95 [] [] [(.pointer (some ⟨g,0,none⟩)),(.agg #[(.int .i64 ((l.getD i Av.zero).kind)),(.int .i64 ((l.getD i Av.zero).arg))])] rfl rfl cf95 zN (c_spec_l06Run_act _ g vs Fs Z.c ((ws.length:Nat):Int) (l.getD i Av.zero) hKx57 ⟨hx19.1,hx19.2⟩ oM (by exact hBl.k) (by exact havl i oM) (by exact hps)) ?_))))
        rintro e58 w58 ⟨rfl,hC58,hK58⟩
        refine ⟨_,rfl,?_⟩
        have hzs58:w56.heap.size≤w58.heap.size:=hC58.size
        have hE58:Ext w w58:=hC58.below hE56 (fun c hc=>by have:=hlow c hc; omega) hE56.size
        have hF60:=hF53x56.chg hC58 (fun hm=>by have h91:=hlow _ hm; have h92:=hKl.lt _ hm; omega)
        have hF61:=hB51x56.chg hC58 (fun hm=>by have h91:=hlow _ hm; have h92:=hKl.lt _ hm; omega)
        have hF63:=hO56_0.chg (o1) hC58 (fun c hc=>by have h91:=hlow c hc; have h92:=hKlt c hc; omega)
        refine lw_nil (wp_plain _ [0,0,0] rfl (lw_tv 1 rfl (q_add ((i + 1:Nat):Int) rfl rfl (w64n oM oM) zN (lw_tvn 1 rfl ?_))))
        have hKe:=hK58
        exact ⟨((i + 1),(stpS Z (l.getD i Av.zero)),v56_0,(putI ((l.getD i Av.zero).arg) xs),u0,u1,(u2 + ((1:Nat):Int)),u3),_,rfl,⟨rfl,rfl,rfl,rfl,rfl,rfl,rfl,trivial⟩,⟨hE58,(hF63.up o1).low oM,hF60,hF61,oM,(by exact hKe),z47_5,(by exact fb_next hfl oM),z47_2,z47_3,z47_0,z47_4,oM,oM,oM⟩,by first | omega | (dsimp only; omega)⟩
      ·
        refine q_eql false rfl rfl (decide_eq_false hc50) zN (lw_tvn 1 rfl (c_cond_f rfl (wp_seq (wp_plain _ [0,0] rfl ?_))))
        by_cases hc64:(l.getD i Av.zero).kind = ((3:Nat):Int)
        ·
          refine q_eql true rfl rfl (decide_eq_true hc64) zN (lw_tvn 1 rfl (c_cond_t rfl (wp_plain _ [0,2,0,0,4] rfl (q_fldP (p:=(.pointer (some ⟨w1.heap.size,0,none⟩))) (b:=w1.heap.size) (o:=0) 3 fd29_3 rfl rfl zN (q_load (p:=(padd (.pointer (some ⟨w1.heap.size,0,none⟩)) 3)) (.inr rfl) (.int .i64 u3) one2 rfl (hF27.ldp (i:=3) sM) zN ?_)))))
          refine q_add (u3 + ((1:Nat):Int)) rfl rfl (w64 sD sD) zN ?_
          refine q_fldP (p:=(.pointer (some ⟨w1.heap.size,0,none⟩))) (b:=w1.heap.size) (o:=0) 3 fd29_3 rfl rfl zN (e_setB (k:=3) (w:=w24) sz2 rfl rfl ⟨rfl,rfl⟩ hF27 sM zN fun w65 hC65 hz65 hB65=>?_)
          replace hB65:BX w65.heap w1.heap.size [(.int .i64 u0),(.int .i64 u1),(.int .i64 u2),(.int .i64 (u3 + ((1:Nat):Int))),(.int .i64 0)]:=hB65
          have hE65:Ext w w65:=hC65.below hE24 (fun c hc=>by have:=List.mem_singleton.1 hc; omega) hE24.size
          have hzs65:w24.heap.size≤w65.heap.size:=hC65.size
          have hF66:=hF25.chg (o1) hC65 (fun c hc=>by have:=List.mem_singleton.1 hc; omega)
          have hF67:=hF26.chg hC65 (fun hm=>by have:=List.mem_singleton.1 hm; omega)
          have hF68:=hB24.chg hC65 (fun hm=>by have:=List.mem_singleton.1 hm; omega)
          have hKx69:=hKx28.chg hC65 (fun b hb hm=>by have h91:=hlow b hb; have h92:=hKx28.lt b hb; have h93:=List.mem_singleton.1 hm; omega)
          refine lw_nil (wp_plain _ [0,2,4] rfl (lw_tv 1 rfl (q_loadA (p:=(.pointer (some ⟨w14.heap.size,0,none⟩))) (.inr rfl) [(.int .i64 ((l.getD i Av.zero).kind)),(.int .i64 ((l.getD i Av.zero).arg))] agg79 rfl (fun wq9 hw9=>LD.of_box (BX.ext (w:=w65) hF68 hw9)) rfl zN (lw_callE 95 [] [] [(.pointer (some ⟨g,0,none⟩)),(.agg #[(.int .i64 ((l.getD i Av.zero).kind)),(.int .i64 ((l.getD i Av.zero).arg))])] rfl rfl cf95 zN (c_spec_l06Run_act _ g vs Fs Z.c ((ws.length:Nat):Int) (l.getD i Av.zero) hKx69 ⟨hx19.1,hx19.2⟩ oM (by exact hBl.k) (by exact havl i oM) (by exact hps)) ?_))))
          rintro e70 w70 ⟨rfl,hC70,hK70⟩
          refine ⟨_,rfl,?_⟩
          have hzs70:w65.heap.size≤w70.heap.size:=hC70.size
          have hE70:Ext w w70:=hC70.below hE65 (fun c hc=>by have:=hlow c hc; omega) hE65.size
          have hF71:=hF66.chg (o1) hC70 (fun c hc=>by have h91:=hlow c hc; have h92:=hKlt c hc; omega)
          have hF72:=hF67.chg hC70 (fun hm=>by have h91:=hlow _ hm; have h92:=hKl.lt _ hm; omega)
          have hF73:=hB65.chg hC70 (fun hm=>by have h91:=hlow _ hm; have h92:=hKl.lt _ hm; omega)
          refine lw_nil (wp_plain _ [0,0,0] rfl (lw_tv 1 rfl (q_add ((i + 1:Nat):Int) rfl rfl (w64n oM oM) zN (lw_tvn 1 rfl ?_))))
          have hKe:=hK70
          exact ⟨((i + 1),(stpS Z (l.getD i Av.zero)),vo,xs,u0,u1,u2,(u3 + ((1:Nat):Int))),_,rfl,⟨rfl,rfl,rfl,rfl,rfl,rfl,rfl,trivial⟩,⟨hE70,hF71.up o1,hF72,hF73,oM,(by exact hKe),z47_5,(by exact fb_next hfl oM),z47_2,z47_3,z47_0,z47_4,oM,oM,oM⟩,by first | omega | (dsimp only; omega)⟩
        ·
          refine q_eql false rfl rfl (decide_eq_false hc64) zN (lw_tvn 1 rfl (c_cond_f rfl (wp_skip (wp_plain _ [0,2,4] rfl (lw_tv 1 rfl (q_loadA (p:=(.pointer (some ⟨w14.heap.size,0,none⟩))) (.inr rfl) [(.int .i64 ((l.getD i Av.zero).kind)),(.int .i64 ((l.getD i Av.zero).arg))] agg79 rfl (fun wq9 hw9=>LD.of_box (BX.ext (w:=w24) hB24 hw9)) rfl zN (lw_callE 95 [] [] [(.pointer (some ⟨g,0,none⟩)),(.agg #[(.int .i64 ((l.getD i Av.zero).kind)),(.int .i64 ((l.getD i Av.zero).arg))])] rfl rfl cf95 zN (c_spec_l06Run_act _ g vs Fs Z.c ((ws.length:Nat):Int) (l.getD i Av.zero) hKx28 ⟨hx19.1,hx19.2⟩ oM (by exact hBl.k) (by exact havl i oM) (by exact hps)) ?_)))))))
          rintro e75 w75 ⟨rfl,hC75,hK75⟩
          refine ⟨_,rfl,?_⟩
          have hzs75:w24.heap.size≤w75.heap.size:=hC75.size
          have hE75:Ext w w75:=hC75.below hE24 (fun c hc=>by have:=hlow c hc; omega) hE24.size
          have hF76:=hF25.chg (o1) hC75 (fun c hc=>by have h91:=hlow c hc; have h92:=hKlt c hc; omega)
          have hF77:=hF26.chg hC75 (fun hm=>by have h91:=hlow _ hm; have h92:=hKl.lt _ hm; omega)
          have hF78:=hF27.chg hC75 (fun hm=>by have h91:=hlow _ hm; have h92:=hKl.lt _ hm; omega)
          refine lw_nil (wp_plain _ [0,0,0] rfl (lw_tv 1 rfl (q_add ((i + 1:Nat):Int) rfl rfl (w64n oM oM) zN (lw_tvn 1 rfl ?_))))
          have hKe:=hK75
          exact ⟨((i + 1),(stpS Z (l.getD i Av.zero)),vo,xs,u0,u1,u2,u3),_,rfl,⟨rfl,rfl,rfl,rfl,rfl,rfl,rfl,trivial⟩,⟨hE75,hF76.up o1,hF77,hF78,oM,(by exact hKe),z47_5,(by exact fb_next hfl oM),z47_2,z47_3,z47_0,z47_4,oM,oM,oM⟩,by first | omega | (dsimp only; omega)⟩
  ·
    refine q_lss false rfl rfl (decide_eq_false hc18) zN (lw_nil (c_cond_f rfl (wp_exit (t_exit (t_exit (c_exit_here (wp_seq (wp_plain _ [0,0,0,4] rfl (lw_tv 1 rfl (q_len (v:=vo) u25 rfl hL14_0.isSl zN (q_fldP (p:=(.pointer (some ⟨w1.heap.size,0,none⟩))) (b:=w1.heap.size) (o:=0) 4 fd29_4 rfl rfl zN (e_setB (k:=4) (w:=w14) sz2 rfl rfl ⟨rfl,rfl⟩ hL14_2 sM zN fun w80 hC80 hz80 hB80=>?_))))))))))))
    replace hB80:BX w80.heap w1.heap.size [(.int .i64 u0),(.int .i64 u1),(.int .i64 u2),(.int .i64 u3),(.int .i64 ((xs.length:Nat):Int))]:=hB80
    have hE80:Ext w w80:=hC80.below hE14 (fun c hc=>by have:=List.mem_singleton.1 hc; omega) hE14.size
    have hzs80:w14.heap.size≤w80.heap.size:=hC80.size
    have hF82:=hL14_1.chg hC80 (fun hm=>by have:=List.mem_singleton.1 hm; omega)
    refine lw_nil (wp_seq (wp_plain _ [2,4] rfl (q_loadA (p:=(.pointer (some ⟨w1.heap.size,0,none⟩))) (.inr rfl) [(.int .i64 u0),(.int .i64 u1),(.int .i64 u2),(.int .i64 u3),(.int .i64 ((xs.length:Nat):Int))] agg29 rfl (fun wq9 hw9=>LD.of_box (BX.ext (w:=w80) hB80 hw9)) rfl zN (e_setA (vs:=[(.int .i64 u0),(.int .i64 u1),(.int .i64 u2),(.int .i64 u3),(.int .i64 ((xs.length:Nat):Int))]) agg29 rfl rfl z47_1 hF82 rfl rfl zN fun w84 hC84 hz84 hB84=>?_))))
    replace hB84:BX w84.heap w.heap.size [(.int .i64 u0),(.int .i64 u1),(.int .i64 u2),(.int .i64 u3),(.int .i64 ((xs.length:Nat):Int))]:=hB84
    have hE84:Ext w w84:=hC84.below hE80 (fun c hc=>by have:=List.mem_singleton.1 hc; omega) hE80.size
    have hzs84:w80.heap.size≤w84.heap.size:=hC84.size
    exact lw_nil (wp_ret (post_retA (cs:=[(.int .i64 u0),(.int .i64 u1),(.int .i64 u2),(.int .i64 u3),(.int .i64 ((xs.length:Nat):Int))]) rfl agg29 rfl hB84 rfl ⟨(by (have h91:i = l.length:=by omega); (have h92:=hZr); rw [h91,List.take_of_length_le (Nat.le_refl _)] at h92; rw [usR_0 (usC_0 hfb),← h92,← hsm.2.2,← husl.1,← husl.2.1,← husl.2.2.1,← husl.2.2.2]; rfl),hE84⟩))
end Go.Proofs.YtlbefjfhfodnlaaGreatDoor
namespace Go.Proofs.YtlbefjfhfodnlaaGreatDoor
open Go Go.RowKit
set_option linter.unusedVariables false
set_option linter.unusedSimpArgs false
set_option maxHeartbeats 4000000
set_option maxRecDepth 100000
attribute [local irreducible] LW
theorem c_impl_ValidWeights_1 (w:World) (x:Int) (_hx:-9223372036854775808≤x∧x≤9223372036854775807)  :
    Calls Tryz.prog 92 #[.int .i64 x] w (fun e w'=>e = .returned (.bool (!(decide (0≤x) && decide (x≤1000))))∧Ext w w'):=by
  refine calls_mk [.int .i64 x] 6 Tryz.func92 rfl rfl sM ?_
  have hE0:Ext w w:=Ext.refl w
  exact wp_seq (wp_plain _ [0] rfl (lw_tvn 1 rfl (wp_seq (wp_plain _ [0,0,0,0] rfl (lw_tv 1 rfl (lw_callq 93 [] [] [(.int .i64 x),(.int .i64 ((0:Nat):Int)),(.int .i64 ((1000:Nat):Int))] rfl rfl cf93 zN (.bool (decide (((0:Nat):Int)≤x) && decide (x≤((1000:Nat):Int)))) (fun wq=>c_impl_within wq _ _ _ _hx oM oM) (q_not (!(decide (((0:Nat):Int)≤x) && decide (x≤((1000:Nat):Int)))) rfl rfl zN (lw_tvn 1 rfl (wp_ret (post_ret [2] rfl (.bool (!(decide (((0:Nat):Int)≤x) && decide (x≤((1000:Nat):Int))))) rfl ⟨rfl,hE0⟩))))))))))
theorem c_impl_ValidWeights (w:World) (va:Value) (a:List Int) (ha:Rd (rdL rI) w.heap va a)  :
    Calls Tryz.prog 41 #[va] w (fun e w'=>e = .returned (.bool (wgB a))∧Ext w w'):=by
  refine calls_mk [va] 11 Tryz.func41 rfl rfl sM ?_
  have hE0:Ext w w:=Ext.refl w
  have hl_va:=ha.lenle
  refine wp_seq (wp_plain _ [0] rfl (lw_tvn 1 rfl (wp_seq (wp_plain _ [0,0,0,0,0,3,0,0,0] rfl (lw_tv 1 rfl (q_len (v:=va) u25 rfl ha.isSl zN ?_))))))
  by_cases hc1:((a.length:Nat):Int)≤((40:Nat):Int)
  ·
    refine q_leq true rfl rfl (decide_eq_true hc1) zN (lw_tv 2 rfl (lw_call 91 [] [] [va,(.func (.func 92) #[] #[])] rfl rfl cf91 (zS (e:=6) rfl rfl rfl) (c_slices_ContainsFunc___int64_int64_ _ _ _ 92 [] [] (fun x=>!(decide (0≤x) && decide (x≤1000))) (ha.ext g1 hE0) cf92 (fun x hx w1 hw=>c_impl_ValidWeights_1 w1 x hx)) ?_))
    rintro e2 w2 ⟨rfl,hX2⟩
    refine ⟨_,rfl,hX2,?_⟩
    have hzs2:w.heap.size≤w2.heap.size:=hX2.size
    have hE2:Ext w w2:=hE0.trans hX2
    exact q_not (!(a.any (fun x=>!(decide (0≤x) && decide (x≤1000))))) rfl rfl (zS (e:=6) rfl rfl rfl) (lw_tvn 2 rfl (wp_ret (post_ret [2] rfl (.bool (!(a.any (fun x=>!(decide (0≤x) && decide (x≤1000)))))) rfl ⟨(by first | exact ret_bool (wgB_big oM) | exact ret_bool (wgB_any oM)),hE2⟩)))
  ·
    exact q_leq false rfl rfl (decide_eq_false hc1) zN (lw_tvn 6 rfl (wp_ret (post_ret [2] rfl (.bool false) rfl ⟨(by first | exact ret_bool (wgB_big oM) | exact ret_bool (wgB_any oM)),hE0⟩)))
theorem z8_0 {p:Prop} (h:p:=by intro u hu; simp only [List.mem_cons,List.not_mem_nil,or_false] at hu; rcases hu with rfl | rfl | rfl | rfl | rfl <;> first | exact ⟨rfl,rfl⟩):p:=h
theorem z8_1 {p:Prop} (h:p:=by first | (rw [hA,hU]; rfl) | (rw [rnU_n (by rw [hA]; omega),hA]; rfl)):p:=h
theorem z8_2 {p:Prop} (h:p:=by simp only [List.map_toArray,List.map_cons,List.map_nil]):p:=h
theorem c_impl_RunSchedule (w:World) (va:Value) (l:List Av) (vw:Value) (ws:List Int) (k:Int) (hl:RN [] (rdS 2 rAv) w.heap va l) (hws:Rd (rdL rI) w.heap vw ws) (_hk:-9223372036854775808≤k∧k≤9223372036854775807)  :
    Calls Tryz.prog 8 #[va,vw,.int .i64 k] w (fun e w'=>e = .returned (.tuple #[usV (rnU l ws k),.int .i64 (rnA l ws k)])∧Ext w w'):=by
  refine calls_mk [va,vw,.int .i64 k] 29 Tryz.func8 rfl rfl sM ?_
  have hE0:Ext w w:=Ext.refl w
  have hl_vw:=hws.lenle
  refine wp_seq (wp_plain _ [3,0] rfl (r_allocA (z:=.agg #[.int .i64 0,.int .i64 0,.int .i64 0,.int .i64 0,.int .i64 0]) zr29 zN fun w1 hX1 hz1 hB1=>?_))
  have hzs1:w.heap.size≤w1.heap.size:=hX1.size
  have hE1:Ext w w1:=hE0.trans hX1
  replace hB1:BX w1.heap w.heap.size [(.int .i64 0),(.int .i64 0),(.int .i64 0),(.int .i64 0),(.int .i64 0)]:=hB1
  refine lw_tvn 1 rfl (wp_seq (wp_block (wp_seq (wp_plain _ [0,3,0,0,0,3,0,0,0] rfl (lw_tv 1 rfl (lw_call 14 [] [] [va] rfl rfl cf14 zN (c_impl_ValidSchedule _ va l (hl.ext (good_rdS good_rAv) hE1)) ?_))))))
  rintro e2 w2 ⟨rfl,hX2⟩
  refine ⟨_,rfl,hX2,?_⟩
  have hzs2:w1.heap.size≤w2.heap.size:=hX2.size
  have hE2:Ext w w2:=hE1.trans hX2
  have hB1x2:=hB1.ext hX2
  refine q_not (!(schB l)) rfl rfl zN (lw_tv 1 rfl ?_)
  cases hb3:(!(schB l))
  ·
    refine lw_tv 1 rfl (lw_call 41 [] [] [vw] rfl rfl cf41 (zS (e:=12) rfl rfl rfl) (c_impl_ValidWeights _ _ _ (hws.ext g1 hE2)) ?_)
    rintro e4 w4 ⟨rfl,hX4⟩
    refine ⟨_,rfl,hX4,?_⟩
    have hzs4:w2.heap.size≤w4.heap.size:=hX4.size
    have hE4:Ext w w4:=hE2.trans hX4
    have hB1x4:=hB1x2.ext hX4
    refine q_not (!(wgB ws)) rfl rfl (zS (e:=12) rfl rfl rfl) (lw_tvn 2 rfl ?_)
    cases hb5:(!(wgB ws))
    ·
      refine c_cond_f (by first | rfl | (show Value.bool _ = _; rw [hb5])) (wp_seq (wp_plain _ [0,3,0,0] rfl ?_))
      have hok:schB l = true∧wgB ws = true:=⟨by simpa using (by assumption:(!schB l) = false),by simpa using (by assumption:(!wgB ws) = false)⟩
      refine lw_tv 1 rfl (lw_call 42 [] [] [(.int .i64 k)] rfl rfl cf42 zN (c_impl_areSlots _ _ _hk) ?_)
      rintro e6 w6 ⟨rfl,hX6⟩
      refine ⟨_,rfl,hX6,?_⟩
      have hzs6:w4.heap.size≤w6.heap.size:=hX6.size
      have hE6:Ext w w6:=hE4.trans hX6
      have hB1x6:=hB1x4.ext hX6
      refine q_not (!(decide (0≤k) && decide (k≤8))) rfl rfl zN (lw_tvn 1 rfl ?_)
      cases hb7:(!(decide (0≤k) && decide (k≤8)))
      ·
        refine c_cond_f (by first | rfl | (show Value.bool _ = _; rw [hb7])) (wp_skip (wp_seq (wp_plain _ [0,0,0,3,0,0,4,0] rfl ?_)))
        have hk8:0≤k∧k≤8:=by (have h8:(!(decide (0≤k) && decide (k≤8))) = false:=(by assumption)); simp at h8; omega
        have hsl:=schB_iff.1 hok.1
        have hwl:=wgB_iff.1 hok.2
        have hA:=rnA_0 hok hk8
        have hU:=rnU_u hok hk8
        generalize hg_kq:k = kqI at *
        obtain ⟨kq,rfl⟩:∃ n:Nat,kqI = ((n:Nat):Int):=⟨kqI.toNat,by omega⟩
        rw [Int.toNat_natCast] at hA hU
        refine lw_tv 3 rfl (lw_call 43 [] [] [va,vw,(.int .i64 ((kq:Nat):Int))] rfl rfl cf43 zN (c_impl_usageOf _ va l vw ws kq (hl.ext (good_rdS good_rAv) hE6) (hws.ext g1 hE6) oM oM oM (by exact hsl.2) (by exact hwl.2)) ?_)
        rintro e8 w8 ⟨rfl,hX8⟩
        refine ⟨_,rfl,hX8,?_⟩
        have hzs8:w6.heap.size≤w8.heap.size:=hX8.size
        have hE8:Ext w w8:=hE6.trans hX8
        have hB1x8:=hB1x6.ext hX8
        refine q_extract (vs:=[(.agg #[(.int .i64 ((usR l ws kq).cost)),(.int .i64 ((usR l ws kq).adv)),(.int .i64 ((usR l ws kq).st)),(.int .i64 ((usR l ws kq).ld)),(.int .i64 ((usR l ws kq).sl))]),(.int .i64 (usC l ws.length kq))]) (.agg #[(.int .i64 ((usR l ws kq).cost)),(.int .i64 ((usR l ws kq).adv)),(.int .i64 ((usR l ws kq).st)),(.int .i64 ((usR l ws kq).ld)),(.int .i64 ((usR l ws kq).sl))]) rfl rfl zN (q_extract (vs:=[(.agg #[(.int .i64 ((usR l ws kq).cost)),(.int .i64 ((usR l ws kq).adv)),(.int .i64 ((usR l ws kq).st)),(.int .i64 ((usR l ws kq).ld)),(.int .i64 ((usR l ws kq).sl))]),(.int .i64 (usC l ws.length kq))]) (.int .i64 (usC l ws.length kq)) rfl rfl zN ?_)
        refine e_setA (vs:=[(.int .i64 ((usR l ws kq).cost)),(.int .i64 ((usR l ws kq).adv)),(.int .i64 ((usR l ws kq).st)),(.int .i64 ((usR l ws kq).ld)),(.int .i64 ((usR l ws kq).sl))]) agg29 rfl rfl z8_0 hB1x8 rfl rfl zN fun w9 hC9 hz9 hB9=>?_
        replace hB9:BX w9.heap w.heap.size [(.int .i64 ((usR l ws kq).cost)),(.int .i64 ((usR l ws kq).adv)),(.int .i64 ((usR l ws kq).st)),(.int .i64 ((usR l ws kq).ld)),(.int .i64 ((usR l ws kq).sl))]:=hB9
        have hE9:Ext w w9:=hC9.below hE8 (fun c hc=>by have:=List.mem_singleton.1 hc; omega) hE8.size
        have hzs9:w8.heap.size≤w9.heap.size:=hC9.size
        exact lw_tvn 1 rfl (wp_ret (post_retC (t0:=7) (ts:=[]) (cs:=[(.int .i64 ((usR l ws kq).cost)),(.int .i64 ((usR l ws kq).adv)),(.int .i64 ((usR l ws kq).st)),(.int .i64 ((usR l ws kq).ld)),(.int .i64 ((usR l ws kq).sl))]) [(.int .i64 (usC l ws.length kq))] rfl agg29 rfl hB9 rfl rfl ⟨z8_1,hE9⟩))
      ·
        refine c_cond_t (by first | rfl | (show Value.bool _ = _; rw [hb7])) (wp_seq (wp_plain _ [0,4,0] rfl ?_))
        have hA:rnA l ws k = 2:=rnA_2 hok (fun h9=>by (have h8:(!(decide (0≤k) && decide (k≤8))) = true:=(by assumption)); simp at h8; omega)
        have hbd10:∀ (wq:World),(Instr.build 29 #[]).run Tryz.prog wq = .ok (.agg #[(.int .i64 0),(.int .i64 0),(.int .i64 0),(.int .i64 0),(.int .i64 0)]) wq:=by intro wq; kernel_rfl
        refine q_build (ps:=#[]) (.agg #[(.int .i64 0),(.int .i64 0),(.int .i64 0),(.int .i64 0),(.int .i64 0)]) z8_2 (fun wq=>hbd10  wq) zN (e_setA (vs:=[(.int .i64 0),(.int .i64 0),(.int .i64 0),(.int .i64 0),(.int .i64 0)]) agg29 rfl rfl z8_0 hB1x6 rfl rfl zN fun w11 hC11 hz11 hB11=>?_)
        replace hB11:BX w11.heap w.heap.size [(.int .i64 0),(.int .i64 0),(.int .i64 0),(.int .i64 0),(.int .i64 0)]:=hB11
        have hE11:Ext w w11:=hC11.below hE6 (fun c hc=>by have:=List.mem_singleton.1 hc; omega) hE6.size
        have hzs11:w6.heap.size≤w11.heap.size:=hC11.size
        exact lw_tvn 1 rfl (wp_ret (b_ret (t_ret (post_retC (t0:=7) (ts:=[]) (cs:=[(.int .i64 0),(.int .i64 0),(.int .i64 0),(.int .i64 0),(.int .i64 0)]) [(.int .i64 ((2:Nat):Int))] rfl agg29 rfl hB11 rfl rfl ⟨z8_1,hE11⟩))))
    ·
      refine c_cond_t (by first | rfl | (show Value.bool _ = _; rw [hb5])) (wp_seq (wp_plain _ [0,4,0] rfl ?_))
      have hA:rnA l ws k = 1:=rnA_1 (by rintro ⟨h8,h9⟩; simp_all)
      have hbd12:∀ (wq:World),(Instr.build 29 #[]).run Tryz.prog wq = .ok (.agg #[(.int .i64 0),(.int .i64 0),(.int .i64 0),(.int .i64 0),(.int .i64 0)]) wq:=by intro wq; kernel_rfl
      refine q_build (ps:=#[]) (.agg #[(.int .i64 0),(.int .i64 0),(.int .i64 0),(.int .i64 0),(.int .i64 0)]) z8_2 (fun wq=>hbd12  wq) zN (e_setA (vs:=[(.int .i64 0),(.int .i64 0),(.int .i64 0),(.int .i64 0),(.int .i64 0)]) agg29 rfl rfl z8_0 hB1x4 rfl rfl zN fun w13 hC13 hz13 hB13=>?_)
      replace hB13:BX w13.heap w.heap.size [(.int .i64 0),(.int .i64 0),(.int .i64 0),(.int .i64 0),(.int .i64 0)]:=hB13
      have hE13:Ext w w13:=hC13.below hE4 (fun c hc=>by have:=List.mem_singleton.1 hc; omega) hE4.size
      have hzs13:w4.heap.size≤w13.heap.size:=hC13.size
      exact lw_tvn 1 rfl (wp_ret (b_ret (t_ret (post_retC (t0:=7) (ts:=[]) (cs:=[(.int .i64 0),(.int .i64 0),(.int .i64 0),(.int .i64 0),(.int .i64 0)]) [(.int .i64 ((1:Nat):Int))] rfl agg29 rfl hB13 rfl rfl ⟨z8_1,hE13⟩))))
  ·
    refine lw_tvn 5 rfl (c_cond_t rfl (wp_seq (wp_plain _ [0,4,0] rfl ?_)))
    have hA:rnA l ws k = 1:=rnA_1 (by rintro ⟨h8,h9⟩; simp_all)
    have hbd14:∀ (wq:World),(Instr.build 29 #[]).run Tryz.prog wq = .ok (.agg #[(.int .i64 0),(.int .i64 0),(.int .i64 0),(.int .i64 0),(.int .i64 0)]) wq:=by intro wq; kernel_rfl
    refine q_build (ps:=#[]) (.agg #[(.int .i64 0),(.int .i64 0),(.int .i64 0),(.int .i64 0),(.int .i64 0)]) z8_2 (fun wq=>hbd14  wq) zN (e_setA (vs:=[(.int .i64 0),(.int .i64 0),(.int .i64 0),(.int .i64 0),(.int .i64 0)]) agg29 rfl rfl z8_0 hB1x2 rfl rfl zN fun w15 hC15 hz15 hB15=>?_)
    replace hB15:BX w15.heap w.heap.size [(.int .i64 0),(.int .i64 0),(.int .i64 0),(.int .i64 0),(.int .i64 0)]:=hB15
    have hE15:Ext w w15:=hC15.below hE2 (fun c hc=>by have:=List.mem_singleton.1 hc; omega) hE2.size
    have hzs15:w2.heap.size≤w15.heap.size:=hC15.size
    exact lw_tvn 1 rfl (wp_ret (b_ret (t_ret (post_retC (t0:=7) (ts:=[]) (cs:=[(.int .i64 0),(.int .i64 0),(.int .i64 0),(.int .i64 0),(.int .i64 0)]) [(.int .i64 ((1:Nat):Int))] rfl agg29 rfl hB15 rfl rfl ⟨z8_1,hE15⟩))))
theorem z17_0 {p:Prop} (h:p:=by first | (rw [cnt_take oM,if_pos oM]; omega) | (rw [cnt_take oM,if_neg oM]; omega)):p:=h
theorem c_laws_f6reversed (w:World) (va:Value) (l:List Av) (hl:RN [] (rdS 2 rAv) w.heap va l) (hll:l.length≤1000000000) :
    Calls Tryz.prog 17 #[va] w (fun e w'=>e = .returned (.int .i64 (cntK 4 l))∧Ext w w'):=by
  refine calls_mk [va] 20 Tryz.func17 rfl rfl sM ?_
  have hE0:Ext w w:=Ext.refl w
  refine wp_seq (wp_plain _ [0] rfl (lw_tvn 1 rfl (wp_seq (wp_plain _ [0] rfl (lw_tvn 1 rfl (wp_seq (wp_seq (wp_plain _ [0] rfl (lw_tvn 1 rfl (wp_block ?_))))))))))
  refine c_loop (S:=Nat × Int) (fun (⟨k,n⟩:Nat × Int)=>([(3,(.int .i64 n)),(4,(.int .i64 ((k:Nat):Int))),(0,va)]:List (Nat × Value))) (fun (⟨k,n⟩:Nat × Int) (W:World)=>Ext w W∧k≤l.length∧n = cntK 4 (l.take k)∧(0≤n∧n≤((k:Nat):Int))) (fun (⟨k,n⟩:Nat × Int)=>l.length - k) (0,((0:Nat):Int)) ⟨rfl,rfl,rfl,trivial⟩ ⟨hE0,sD,(by rfl),oM⟩ ?_
  clear hE0
  rintro ⟨k,n⟩ ρ1 w1 ⟨hE1,hp1_0,hq,hp1_2⟩
  have hzs1:w.heap.size≤w1.heap.size:=hE1.size
  refine wp_seq (wp_seq (wp_plain _ [0,0,0,0] rfl (lw_tv 2 rfl (q_len (v:=va) u24 rfl hl.isSl zN ?_))))
  by_cases hc2:((k:Nat):Int) < ((l.length:Nat):Int)
  ·
    refine q_lss true rfl rfl (decide_eq_true hc2) zN (lw_nil (c_cond_t rfl (wp_skip (wp_seq (wp_block (wp_seq (wp_plain _ [0,0,0,0,2,0] rfl (lw_tv 2 rfl (q_idx (v:=va) k u24 tiS79 rfl rfl hl.isSl rfl sD zN ?_)))))))))
    obtain ⟨cs3,hr3,hl3⟩:=hl.get good_rAv Av.zero (k:=k) sD
    obtain ⟨rfl,hx3⟩:=rn_av hr3
    refine q_fldL (p:=eptr va k 2) 0 fd79_0 rfl (hl3 _ (Chg.of_ext [] hE1)) zN (q_load (p:=(padd (eptr va k 2) 0)) (.inr rfl) (.int .i64 ((l.getD k Av.zero).kind)) one2 rfl ((hl3 _ (Chg.of_ext [] hE1)).ld (i:=0) (by first | (simp [exC,fnC]; done) | simp [inC])) zN ?_)
    by_cases hc4:(l.getD k Av.zero).kind = ((4:Nat):Int)
    ·
      refine q_eql true rfl rfl (decide_eq_true hc4) zN (lw_nil (c_cond_t rfl (wp_plain _ [0,0,0] rfl (lw_tv 1 rfl ?_))))
      refine q_add (n + ((1:Nat):Int)) rfl rfl (w64 sD sD) zN (lw_tvn 1 rfl (wp_plain _ [0,0,0] rfl (lw_tv 1 rfl ?_)))
      refine q_add ((k + 1:Nat):Int) rfl rfl (w64n oM sD) zN (lw_tvn 1 rfl ?_)
      exact ⟨((k + 1),(n + ((1:Nat):Int))),_,rfl,⟨rfl,rfl,rfl,trivial⟩,⟨hE1,sD,z17_0,oM⟩,by first | omega | (dsimp only; omega)⟩
    ·
      refine q_eql false rfl rfl (decide_eq_false hc4) zN (lw_nil (c_cond_f rfl (wp_skip (wp_plain _ [0,0,0] rfl (lw_tv 1 rfl (q_add ((k + 1:Nat):Int) rfl rfl (w64n oM sD) zN (lw_tvn 1 rfl ?_)))))))
      exact ⟨((k + 1),n),_,rfl,⟨rfl,rfl,rfl,trivial⟩,⟨hE1,sD,z17_0,oM⟩,by first | omega | (dsimp only; omega)⟩
  ·
    exact q_lss false rfl rfl (decide_eq_false hc2) zN (lw_nil (c_cond_f rfl (wp_exit (t_exit (t_exit (c_exit_here (wp_seq (wp_plain _ [0,0] rfl (lw_tvn 2 rfl (wp_ret (post_ret [2] rfl (.int .i64 n) rfl ⟨(ret_int (by rw [hq,List.take_of_length_le oM])),hE1⟩)))))))))))
end Go.Proofs.YtlbefjfhfodnlaaGreatDoor
namespace Go.Proofs.YtlbefjfhfodnlaaGreatDoor
open Go Go.RowKit
set_option linter.unusedVariables false
set_option linter.unusedSimpArgs false
set_option maxHeartbeats 4000000
set_option maxRecDepth 100000
attribute [local irreducible] LW
theorem bld98a (a:Option Addr) (n c:Nat) (w:World):(Instr.build 131 #[(0,.slice a n c)]).run Tryz.prog w = .ok (.agg #[.slice a n c,.int .i64 0,.int .u64 0]) w:=by
  kernel_rfl
theorem bld98 {v:Value} {n:Nat} (h:isSl v n) (w:World):(Instr.build 131 #[(0,v)]).run Tryz.prog w = .ok (.agg #[v,.int .i64 0,.int .u64 0]) w:=by
  obtain ⟨a,c,rfl,_⟩:=h
  exact bld98a a n c w
end Go.Proofs.YtlbefjfhfodnlaaGreatDoor
namespace Go.Proofs.YtlbefjfhfodnlaaGreatDoor
open Go Go.RowKit
set_option linter.unusedVariables false
set_option linter.unusedSimpArgs false
set_option maxHeartbeats 4000000
set_option maxRecDepth 100000
attribute [local irreducible] LW
theorem zq87_0 {p:Prop} (h:p:=by first | (exfalso; omega) | (have h9:n0 < cs.length:=by omega); exact ⟨btq_in h9,rfl⟩ | (have h9:cs.length≤n0:=by omega); exact ⟨btq_end hsd h9,rfl⟩):p:=h
theorem zq87_1 {p:Prop} (h:p:=by first | (exfalso; omega) | (have h9:n0 < cs.length:=by omega); exact sdq_in hsd h9 | (have h9:cs.length≤n0:=by omega); exact sdq_out hsd h9):p:=h
theorem zq87_2 {p:Prop} (h:p:=by kernel_rfl):p:=h
theorem cq_spec_l00Src_next (w:World) (g:Nat) (sv:Value) (cs:List UInt8) (n0:Nat) (hs:SrQ w.heap g sv cs n0) (hn0:n0 + 1≤1000000000000000000)  :
    Calls Tryz.prog 87 #[.pointer (some ⟨g,0,none⟩)] w (fun e w'=>∃ (x0:Int) (n1:Nat),e = .returned (.int .i64 x0)∧Chg [g] w w'∧SrQ w'.heap g sv cs n1∧(n0≤n1∧n1≤n0 + 1)∧(x0 = btq cs n0∧n1 = n0 + 1)):=by
  refine calls_mk [.pointer (some ⟨g,0,none⟩)] 62 Tryz.func87 rfl rfl sM ?_
  have hE0:Chg [g] w w:=Chg.refl [g] w
  have hgl:=hs.lt
  obtain ⟨sd,hbx,hsd,hrs⟩:=hs.parts
  have hl_sv:=(hrs _ (Chg.refl [g] w)).lenle
  refine wp_seq (wp_plain _ [0] rfl (lw_tvn 1 rfl (wp_seq (wp_plain _ [0] rfl (lw_tvn 1 rfl (wp_seq (wp_seq (wp_draw _ [0,0,0,1,0,0,0,1,0,0] mixed zq87_2 (lw_tv 1 rfl (q_nil rfl zN (q_fld 1 zq87_2 rfl zN (q_load (p:=(.pointer (some ⟨g,1,none⟩))) (.inl rfl) (.int .i64 ((n0:Nat):Int)) one3 rfl (hbx.ld (k:=1) sM) zN (lw_tv 1 rfl (q_nil rfl zN (q_fld 0 zq87_2 rfl zN (q_load (p:=(.pointer (some ⟨g,0,none⟩))) (.inl rfl) sv one22 rfl (hbx.ld (k:=0) sM) zN (q_len (v:=sv) u22 rfl (hrs _ hE0.drew).isSl zN ?_)))))))))))))))))
  by_cases hc1:((n0:Nat):Int) < ((cs.length:Nat):Int)
  ·
    refine q_lss true rfl rfl (decide_eq_true hc1) zN (lw_nil (c_cond_t rfl (wp_draw _ [0,0,0,1,0,0,0,1,0,1,0,0] mixed zq87_2 (lw_tv 1 rfl (q_nil rfl zN (q_fld 0 zq87_2 rfl zN (q_load (p:=(.pointer (some ⟨g,0,none⟩))) (.inl rfl) sv one22 rfl (hbx.ld (k:=0) sM) zN (lw_tv 1 rfl (q_nil rfl zN (q_fld 1 zq87_2 rfl zN (q_load (p:=(.pointer (some ⟨g,1,none⟩))) (.inl rfl) (.int .i64 ((n0:Nat):Int)) one3 rfl (hbx.ld (k:=1) sM) zN ?_)))))))))))
    refine q_idx (v:=sv) n0 u22 ti5 rfl rfl (hrs _ hE0.drew.drew).isSl rfl sD zN ?_
    refine q_load (p:=eptr sv n0 1) (.inl rfl) (.int .u8 ((cs.getD n0 0).toNat:Int)) one5 rfl ((hrs _ hE0.drew.drew).getU sD).1 zN (q_conv ((cs.getD n0 0).toNat:Int) u5 u3 rfl (w8 _) zN (lw_tvn 1 rfl (wp_seq (wp_plain _ [0,0,0,2,0,0,0,4] rfl (lw_tv 1 rfl (q_nil rfl zN (q_fld 1 zq87_2 rfl zN (q_load (p:=(.pointer (some ⟨g,1,none⟩))) (.inr rfl) (.int .i64 ((n0:Nat):Int)) one3 rfl (hbx.ld (k:=1) sM) zN ?_))))))))
    refine q_add ((n0 + 1:Nat):Int) rfl rfl (w64n oM sD) zN (q_nil rfl zN (q_fld 1 zq87_2 rfl zN (e_setB (w:=w.drew.drew) sz3 rfl rfl ⟨rfl,rfl⟩ hbx sM zN fun w2 hC2 hz2 hB2=>?_)))
    replace hC2:=hC2.of_drew
    replace hC2:=hC2.of_drew
    have hE2:Chg [g] w w2:=hE0.trans hC2
    have hBx2:BX w2.heap g [sv,(.int .i64 ((n0 + 1:Nat):Int)),(.int .u64 sd)]:=hB2
    refine lw_nil (wp_seq (wp_plain _ [0,0,0,0,2,0,0,0,0,0,0,0,4] rfl (lw_tv 2 rfl (q_nil rfl zN (q_fld 2 zq87_2 rfl zN (q_load (p:=(.pointer (some ⟨g,2,none⟩))) (.inr rfl) (.int .u64 sd) one129 rfl (hBx2.ld (k:=2) sM) zN (q_mul (IntKind.u64.wrap (sd * 6364136223846793005)) rfl rfl rfl zN (lw_tv 1 rfl (q_conv (IntKind.u64.wrap (((cs.getD n0 0).toNat:Int))) u3 u129 rfl rfl zN (q_add (IntKind.u64.wrap ((IntKind.u64.wrap (sd * 6364136223846793005)) + (IntKind.u64.wrap (((cs.getD n0 0).toNat:Int))))) rfl rfl rfl zN (q_add (IntKind.u64.wrap ((IntKind.u64.wrap ((IntKind.u64.wrap (sd * 6364136223846793005)) + (IntKind.u64.wrap (((cs.getD n0 0).toNat:Int))))) + 1442695040888963407)) rfl rfl rfl zN (q_nil rfl zN ?_))))))))))))
    refine q_fld 2 zq87_2 rfl zN (e_setB (w:=w2) sz129 rfl rfl ⟨rfl,rfl⟩ hBx2 sM zN fun w3 hC3 hz3 hB3=>?_)
    have hE3:Chg [g] w w3:=hE2.trans hC3
    have hBx3:BX w3.heap g [sv,(.int .i64 ((n0 + 1:Nat):Int)),(.int .u64 (IntKind.u64.wrap ((IntKind.u64.wrap ((IntKind.u64.wrap (sd * 6364136223846793005)) + (IntKind.u64.wrap (((cs.getD n0 0).toNat:Int))))) + 1442695040888963407)))]:=hB3
    refine lw_nil (wp_seq (wp_seq (wp_draw _ [0,0,0,1,0,0,0,1,0,0] mixed zq87_2 (lw_tv 1 rfl (q_nil rfl zN (q_fld 1 zq87_2 rfl zN (q_load (p:=(.pointer (some ⟨g,1,none⟩))) (.inl rfl) (.int .i64 ((n0 + 1:Nat):Int)) one3 rfl (hBx3.ld (k:=1) sM) zN (lw_tv 1 rfl (q_nil rfl zN (q_fld 0 zq87_2 rfl zN (q_load (p:=(.pointer (some ⟨g,0,none⟩))) (.inl rfl) sv one22 rfl (hBx3.ld (k:=0) sM) zN (q_len (v:=sv) u22 rfl (hrs _ hE3.drew).isSl zN ?_))))))))))))
    by_cases hc4:((n0 + 1:Nat):Int)≤((cs.length:Nat):Int)
    ·
      refine q_leq true rfl rfl (decide_eq_true hc4) zN (lw_nil (c_cond_t rfl (wp_seq (wp_plain _ [0,0] rfl (lw_tvn 2 rfl (wp_ret (t_ret ?_)))))))
      have hu8:=u8_lt (cs.getD n0 0)
      exact post_ret [2] rfl (.int .i64 ((cs.getD n0 0).toNat:Int)) rfl ⟨((cs.getD n0 0).toNat:Int),n0 + 1,rfl,hE3.drew,(hs.close hE3.drew hBx3 zq87_1),⟨by omega,by omega⟩,zq87_0⟩
    ·
      refine q_leq false rfl rfl (decide_eq_false hc4) zN (lw_nil (c_cond_f rfl (wp_skip (wp_seq (wp_plain _ [0,0,0,2,0,0,0,0] rfl (lw_tv 1 rfl (q_nil rfl zN (q_fld 2 zq87_2 rfl zN (q_load (p:=(.pointer (some ⟨g,2,none⟩))) (.inr rfl) (.int .u64 (IntKind.u64.wrap ((IntKind.u64.wrap ((IntKind.u64.wrap (sd * 6364136223846793005)) + (IntKind.u64.wrap (((cs.getD n0 0).toNat:Int))))) + 1442695040888963407))) one129 rfl (hBx3.ld (k:=2) sM) zN (q_shr ((IntKind.u64.wrap ((IntKind.u64.wrap ((IntKind.u64.wrap (sd * 6364136223846793005)) + (IntKind.u64.wrap (((cs.getD n0 0).toNat:Int))))) + 1442695040888963407)).fdiv (2 ^ (min (40:Int).toNat (IntKind.u64).bits))) rfl rfl oM rfl zN (q_and rfl rfl zN ?_)))))))))))
      refine q_conv (andV .u64 ((IntKind.u64.wrap ((IntKind.u64.wrap ((IntKind.u64.wrap (sd * 6364136223846793005)) + (IntKind.u64.wrap (((cs.getD n0 0).toNat:Int))))) + 1442695040888963407)).fdiv (2 ^ (min (40:Int).toNat (IntKind.u64).bits))) 255) u129 u2 rfl (wand _) zN (lw_tvn 1 rfl (wp_ret ?_))
      have hu8:=u8_lt (cs.getD n0 0)
      exact post_ret [2] rfl (.int .i64 (andV .u64 ((IntKind.u64.wrap ((IntKind.u64.wrap ((IntKind.u64.wrap (sd * 6364136223846793005)) + (IntKind.u64.wrap (((cs.getD n0 0).toNat:Int))))) + 1442695040888963407)).fdiv (2 ^ (min (40:Int).toNat (IntKind.u64).bits))) 255)) rfl ⟨andV .u64 ((IntKind.u64.wrap ((IntKind.u64.wrap ((IntKind.u64.wrap (sd * 6364136223846793005)) + (IntKind.u64.wrap (((cs.getD n0 0).toNat:Int))))) + 1442695040888963407)).fdiv (2 ^ (min (40:Int).toNat (IntKind.u64).bits))) 255,n0 + 1,rfl,hE3.drew,(hs.close hE3.drew hBx3 zq87_1),⟨by omega,by omega⟩,zq87_0⟩
  ·
    refine q_lss false rfl rfl (decide_eq_false hc1) zN (lw_nil (c_cond_f rfl (wp_skip (wp_seq (wp_plain _ [0,0,0,2,0,0,0,4] rfl (lw_tv 1 rfl (q_nil rfl zN (q_fld 1 zq87_2 rfl zN (q_load (p:=(.pointer (some ⟨g,1,none⟩))) (.inr rfl) (.int .i64 ((n0:Nat):Int)) one3 rfl (hbx.ld (k:=1) sM) zN (q_add ((n0 + 1:Nat):Int) rfl rfl (w64n oM sD) zN (q_nil rfl zN ?_)))))))))))
    refine q_fld 1 zq87_2 rfl zN (e_setB (w:=w.drew) sz3 rfl rfl ⟨rfl,rfl⟩ hbx sM zN fun w5 hC5 hz5 hB5=>?_)
    replace hC5:=hC5.of_drew
    have hE5:Chg [g] w w5:=hE0.trans hC5
    have hBx5:BX w5.heap g [sv,(.int .i64 ((n0 + 1:Nat):Int)),(.int .u64 sd)]:=hB5
    refine lw_nil (wp_seq (wp_plain _ [0,0,0,0,2,0,0,0,0,0,0,0,4] rfl (lw_tv 2 rfl (q_nil rfl zN (q_fld 2 zq87_2 rfl zN (q_load (p:=(.pointer (some ⟨g,2,none⟩))) (.inr rfl) (.int .u64 sd) one129 rfl (hBx5.ld (k:=2) sM) zN (q_mul (IntKind.u64.wrap (sd * 6364136223846793005)) rfl rfl rfl zN (lw_tv 1 rfl (q_conv (IntKind.u64.wrap (((0:Nat):Int))) u3 u129 rfl rfl zN (q_add (IntKind.u64.wrap ((IntKind.u64.wrap (sd * 6364136223846793005)) + (IntKind.u64.wrap (((0:Nat):Int))))) rfl rfl rfl zN (q_add (IntKind.u64.wrap ((IntKind.u64.wrap ((IntKind.u64.wrap (sd * 6364136223846793005)) + (IntKind.u64.wrap (((0:Nat):Int))))) + 1442695040888963407)) rfl rfl rfl zN (q_nil rfl zN (q_fld 2 zq87_2 rfl zN ?_)))))))))))))
    refine e_setB (w:=w5) sz129 rfl rfl ⟨rfl,rfl⟩ hBx5 sM zN fun w6 hC6 hz6 hB6=>?_
    have hE6:Chg [g] w w6:=hE5.trans hC6
    have hBx6:BX w6.heap g [sv,(.int .i64 ((n0 + 1:Nat):Int)),(.int .u64 (IntKind.u64.wrap ((IntKind.u64.wrap ((IntKind.u64.wrap (sd * 6364136223846793005)) + (IntKind.u64.wrap (((0:Nat):Int))))) + 1442695040888963407)))]:=hB6
    refine lw_nil (wp_seq (wp_seq (wp_draw _ [0,0,0,1,0,0,0,1,0,0] mixed zq87_2 (lw_tv 1 rfl (q_nil rfl zN (q_fld 1 zq87_2 rfl zN (q_load (p:=(.pointer (some ⟨g,1,none⟩))) (.inl rfl) (.int .i64 ((n0 + 1:Nat):Int)) one3 rfl (hBx6.ld (k:=1) sM) zN (lw_tv 1 rfl (q_nil rfl zN (q_fld 0 zq87_2 rfl zN (q_load (p:=(.pointer (some ⟨g,0,none⟩))) (.inl rfl) sv one22 rfl (hBx6.ld (k:=0) sM) zN (q_len (v:=sv) u22 rfl (hrs _ hE6.drew).isSl zN ?_))))))))))))
    by_cases hc7:((n0 + 1:Nat):Int)≤((cs.length:Nat):Int)
    ·
      refine q_leq true rfl rfl (decide_eq_true hc7) zN (lw_nil (c_cond_t rfl (wp_seq (wp_plain _ [0,0] rfl (lw_tvn 2 rfl (wp_ret (t_ret ?_)))))))
      have hu8:=u8_lt (cs.getD n0 0)
      exact post_ret [2] rfl (.int .i64 ((0:Nat):Int)) rfl ⟨((0:Nat):Int),n0 + 1,rfl,hE6.drew,(hs.close hE6.drew hBx6 zq87_1),⟨by omega,by omega⟩,zq87_0⟩
    ·
      refine q_leq false rfl rfl (decide_eq_false hc7) zN (lw_nil (c_cond_f rfl (wp_skip (wp_seq (wp_plain _ [0,0,0,2,0,0,0,0] rfl (lw_tv 1 rfl (q_nil rfl zN (q_fld 2 zq87_2 rfl zN (q_load (p:=(.pointer (some ⟨g,2,none⟩))) (.inr rfl) (.int .u64 (IntKind.u64.wrap ((IntKind.u64.wrap ((IntKind.u64.wrap (sd * 6364136223846793005)) + (IntKind.u64.wrap (((0:Nat):Int))))) + 1442695040888963407))) one129 rfl (hBx6.ld (k:=2) sM) zN (q_shr ((IntKind.u64.wrap ((IntKind.u64.wrap ((IntKind.u64.wrap (sd * 6364136223846793005)) + (IntKind.u64.wrap (((0:Nat):Int))))) + 1442695040888963407)).fdiv (2 ^ (min (40:Int).toNat (IntKind.u64).bits))) rfl rfl oM rfl zN (q_and rfl rfl zN ?_)))))))))))
      refine q_conv (andV .u64 ((IntKind.u64.wrap ((IntKind.u64.wrap ((IntKind.u64.wrap (sd * 6364136223846793005)) + (IntKind.u64.wrap (((0:Nat):Int))))) + 1442695040888963407)).fdiv (2 ^ (min (40:Int).toNat (IntKind.u64).bits))) 255) u129 u2 rfl (wand _) zN (lw_tvn 1 rfl (wp_ret ?_))
      have hu8:=u8_lt (cs.getD n0 0)
      exact post_ret [2] rfl (.int .i64 (andV .u64 ((IntKind.u64.wrap ((IntKind.u64.wrap ((IntKind.u64.wrap (sd * 6364136223846793005)) + (IntKind.u64.wrap (((0:Nat):Int))))) + 1442695040888963407)).fdiv (2 ^ (min (40:Int).toNat (IntKind.u64).bits))) 255)) rfl ⟨andV .u64 ((IntKind.u64.wrap ((IntKind.u64.wrap ((IntKind.u64.wrap (sd * 6364136223846793005)) + (IntKind.u64.wrap (((0:Nat):Int))))) + 1442695040888963407)).fdiv (2 ^ (min (40:Int).toNat (IntKind.u64).bits))) 255,n0 + 1,rfl,hE6.drew,(hs.close hE6.drew hBx6 zq87_1),⟨by omega,by omega⟩,zq87_0⟩
theorem zq35_0 {p:Prop} (h:p:=by first | exact pk_1 oM | exact pk_2 oM oM (by assumption) | exact pk_3 oM oM hp2_0 hp4_0):p:=h
theorem cq_spec_l00Src_pick (w:World) (g:Nat) (sv:Value) (cs:List UInt8) (n0:Nat) (k:Int) (hs:SrQ w.heap g sv cs n0) (hn0:n0 + 2≤1000000000000000000) (_hk:-9223372036854775808≤k∧k≤9223372036854775807) (hk:k≤1000000) :
    Calls Tryz.prog 35 #[.pointer (some ⟨g,0,none⟩),.int .i64 k] w (fun e w'=>∃ (x0:Int) (n1:Nat),e = .returned (.int .i64 x0)∧Chg [g] w w'∧SrQ w'.heap g sv cs n1∧(n0≤n1∧n1≤n0 + 2)∧(x0 = pkV cs n0 k∧n1 = pkN n0 k)):=by
  refine calls_mk [.pointer (some ⟨g,0,none⟩),.int .i64 k] 20 Tryz.func35 rfl rfl sM ?_
  have hE0:Chg [g] w w:=Chg.refl [g] w
  have hgl:=hs.lt
  refine wp_seq (wp_plain _ [0] rfl (lw_tvn 1 rfl (wp_seq (wp_seq (wp_plain _ [0,0] rfl (lw_tv 1 rfl ?_))))))
  by_cases hc1:k≤((1:Nat):Int)
  ·
    exact q_leq true rfl rfl (decide_eq_true hc1) zN (lw_nil (c_cond_t rfl (wp_seq (wp_plain _ [0] rfl (lw_tvn 1 rfl (wp_ret (t_ret (post_ret [4] rfl (.int .i64 ((0:Nat):Int)) rfl ⟨((0:Nat):Int),n0,rfl,hE0,hs,⟨by omega,by omega⟩,zq35_0⟩))))))))
  ·
    refine q_leq false rfl rfl (decide_eq_false hc1) zN (lw_nil (c_cond_f rfl (wp_skip (wp_seq (wp_plain _ [0,4,0] rfl (lw_tv 1 rfl (lw_callE 87 [] [] [(.pointer (some ⟨g,0,none⟩))] rfl rfl cf87 zN (cq_spec_l00Src_next _ g _ _ _ hs oM) ?_)))))))
    rintro e2 w2 ⟨x2_0,n2,rfl,hC2,hs2,hb2,hp2_0⟩
    refine ⟨_,rfl,?_⟩
    have hzs2:w.heap.size≤w2.heap.size:=hC2.size
    have hE2:Chg [g] w w2:=hE0.trans hC2
    refine lw_tvn 1 rfl (wp_seq (wp_seq (wp_plain _ [0,0] rfl (lw_tv 1 rfl ?_))))
    by_cases hc3:((200:Nat):Int) < k
    ·
      refine q_gtr true rfl rfl (decide_eq_true hc3) zN (lw_nil (c_cond_t rfl (wp_plain _ [0,0,0,4,0,0] rfl (lw_tv 1 rfl ?_))))
      have hbr:=btq_rng cs n0
      refine q_mul (x2_0 * ((256:Nat):Int)) rfl rfl (w64 sD sD) zN (lw_tv 1 rfl ?_)
      refine lw_callE 87 [] [] [(.pointer (some ⟨g,0,none⟩))] rfl rfl cf87 zN (cq_spec_l00Src_next _ g _ _ _ hs2 oM) ?_
      rintro e4 w4 ⟨x4_0,n4,rfl,hC4,hs4,hb4,hp4_0⟩
      refine ⟨_,rfl,?_⟩
      have hzs4:w2.heap.size≤w4.heap.size:=hC4.size
      have hE4:Chg [g] w w4:=hE2.trans hC4
      have hbr2:=btq_rng cs n2
      refine q_add ((x2_0 * ((256:Nat):Int)) + x4_0) rfl rfl (w64 sD sD) zN (lw_tvn 1 rfl (wp_seq (wp_plain _ [0,0,0,0] rfl ?_)))
      refine lw_tv 2 rfl ?_
      have hbr:=btq_rng cs n0
      have hbr2:=btq_rng cs (n0 + 1)
      exact q_rem (((x2_0 * ((256:Nat):Int)) + x4_0) % k) rfl rfl oM (Int.tmod_eq_emod_of_nonneg oM) zN (lw_tvn 1 rfl (wp_ret (post_ret [4] rfl (.int .i64 (((x2_0 * ((256:Nat):Int)) + x4_0) % k)) rfl ⟨((x2_0 * ((256:Nat):Int)) + x4_0) % k,n4,rfl,hE4,hs4,⟨by omega,by omega⟩,zq35_0⟩)))
    ·
      refine q_gtr false rfl rfl (decide_eq_false hc3) zN (lw_nil (c_cond_f rfl (wp_skip (wp_seq (wp_plain _ [0,0,0,0] rfl (lw_tv 2 rfl ?_))))))
      have hbr:=btq_rng cs n0
      have hbr2:=btq_rng cs (n0 + 1)
      exact q_rem ((x2_0) % k) rfl rfl oM (Int.tmod_eq_emod_of_nonneg oM) zN (lw_tvn 1 rfl (wp_ret (post_ret [4] rfl (.int .i64 ((x2_0) % k)) rfl ⟨(x2_0) % k,n2,rfl,hE2,hs2,⟨by omega,by omega⟩,zq35_0⟩)))
theorem cq_spec_l00Src_one (w:World) (g:Nat) (sv:Value) (cs:List UInt8) (n0:Nat) (k:Int) (hs:SrQ w.heap g sv cs n0) (hn0:n0 + 2≤1000000000000000000) (_hk:-9223372036854775808≤k∧k≤9223372036854775807) (hk:k≤1000000) :
    Calls Tryz.prog 36 #[.pointer (some ⟨g,0,none⟩),.int .i64 k] w (fun e w'=>∃ (x0:Bool) (n1:Nat),e = .returned (.bool x0)∧Chg [g] w w'∧SrQ w'.heap g sv cs n1∧(n0≤n1∧n1≤n0 + 2)∧(x0 = decide (pkV cs n0 k = 0)∧n1 = pkN n0 k)):=by
  refine calls_mk [.pointer (some ⟨g,0,none⟩),.int .i64 k] 9 Tryz.func36 rfl rfl sM ?_
  have hE0:Chg [g] w w:=Chg.refl [g] w
  have hgl:=hs.lt
  refine wp_seq (wp_plain _ [0] rfl (lw_tvn 1 rfl (wp_seq (wp_plain _ [0,0,4,0,0] rfl (lw_tv 2 rfl (lw_callE 35 [] [] [(.pointer (some ⟨g,0,none⟩)),(.int .i64 k)] rfl rfl cf35 zN (cq_spec_l00Src_pick _ g _ _ _ _ hs oM _hk sD) ?_))))))
  rintro e1 w1 ⟨x1_0,n1,rfl,hC1,hs1,hb1,hp1_0⟩
  refine ⟨_,rfl,?_⟩
  have hzs1:w.heap.size≤w1.heap.size:=hC1.size
  have hE1:Chg [g] w w1:=hE0.trans hC1
  exact q_eql (decide (x1_0 = ((0:Nat):Int))) rfl rfl rfl zN (lw_tvn 1 rfl (wp_ret (post_ret [4] rfl (.bool (decide (x1_0 = ((0:Nat):Int)))) rfl ⟨decide (x1_0 = ((0:Nat):Int)),n1,rfl,hE1,hs1,⟨by omega,by omega⟩,(by exact ⟨by rw [hp1_0.1]; rfl,hp1_0.2⟩)⟩)))
theorem cq_spec_l00Src_among (w:World) (g:Nat) (sv:Value) (cs:List UInt8) (n0:Nat) (vl:Value) (us:List Int) (hs:SrQ w.heap g sv cs n0) (hn0:n0 + 2≤1000000000000000000) (hus:∀ w',Chg [g] w w'→Rd (rdL rI) w'.heap vl us) (hk:1≤us.length∧us.length≤200) :
    Calls Tryz.prog 37 #[.pointer (some ⟨g,0,none⟩),vl] w (fun e w'=>∃ (x0:Int) (n1:Nat),e = .returned (.int .i64 x0)∧Chg [g] w w'∧SrQ w'.heap g sv cs n1∧(n0≤n1∧n1≤n0 + 2)∧(x0∈us∧n1 = pkN n0 ((us.length:Nat):Int))):=by
  refine calls_mk [.pointer (some ⟨g,0,none⟩),vl] 12 Tryz.func37 rfl rfl sM ?_
  have hE0:Chg [g] w w:=Chg.refl [g] w
  have hl_vl:=(hus _ hE0).lenle
  have hgl:=hs.lt
  refine wp_seq (wp_plain _ [0] rfl (lw_tvn 1 rfl (wp_seq (wp_plain _ [0,0,0,0,4,0,2,0] rfl (lw_tv 3 rfl (q_len (v:=vl) u25 rfl (hus _ hE0).isSl zN (lw_callE 35 [] [] [(.pointer (some ⟨g,0,none⟩)),(.int .i64 ((us.length:Nat):Int))] rfl rfl cf35 zN (cq_spec_l00Src_pick _ g _ _ _ _ hs oM oM sD) ?_)))))))
  rintro e1 w1 ⟨x1_0,n1,rfl,hC1,hs1,hb1,hp1_0⟩
  refine ⟨_,rfl,?_⟩
  have hzs1:w.heap.size≤w1.heap.size:=hC1.size
  have hE1:Chg [g] w w1:=hE0.trans hC1
  have hpr:=pkV_rng cs n0 ((us.length:Nat):Int)
  refine q_idx (v:=vl) ((x1_0).toNat) u25 ti2 rfl rfl (hus _ hE1).isSl oM sD zN ?_
  exact q_load (p:=eptr vl ((x1_0).toNat) 1) (.inr rfl) (.int .i64 (us.getD ((x1_0).toNat) 0)) one2 rfl ((hus _ hE1).getI sD).1 zN (lw_tvn 1 rfl (wp_ret (post_ret [4] rfl (.int .i64 (us.getD ((x1_0).toNat) 0)) rfl ⟨us.getD ((x1_0).toNat) 0,n1,rfl,hE1,hs1,⟨by omega,by omega⟩,(by exact ⟨gd_memI oM,hp1_0.2⟩)⟩)))
theorem cq_spec_l00From (w:World) (vc:Value) (cs:List UInt8) (hcs:Rd (rdL rU) w.heap vc cs)  :
    Calls Tryz.prog 34 #[vc] w (fun e w'=>∃ g:Nat,e = .returned (.pointer (some ⟨g,0,none⟩))∧Ext w w'∧SrQ w'.heap g vc cs 0∧w.heap.size≤g):=by
  refine calls_mk [vc] 6 Tryz.func34 rfl rfl sM ?_
  have hE0:Ext w w:=Ext.refl w
  have hl_vc:=hcs.lenle
  refine wp_seq (wp_plain _ [0] rfl (lw_tvn 1 rfl (wp_seq (wp_plain _ [0,0,3,0] rfl (lw_tv 1 rfl (q_build (ps:=#[(0,vc)]) (.agg #[vc,.int .i64 0,.int .u64 0]) (by simp only [List.map_toArray,List.map_cons,List.map_nil]; rfl) (fun wq=>bld98 hcs.isSl wq) zN (r_boxA rfl zN fun w1 hX1 hz1 hB1=>?_)))))))
  have hzs1:w.heap.size≤w1.heap.size:=hX1.size
  have hE1:Ext w w1:=hE0.trans hX1
  have hs1:=SrQ.new hcs hE1 hB1 hE0.size
  exact lw_tvn 1 rfl (wp_ret (post_ret [2] rfl (.pointer (some ⟨w.heap.size,0,none⟩)) rfl ⟨w.heap.size,rfl,hE1,hs1,hE0.size⟩))
theorem z89_0 {p:Prop} (h:p:=by first | (refine .inr ⟨?_,rfl,rfl⟩; (try (have h8:(!avB (⟨kd,ar⟩:Av)) = true:=(by assumption))); (try (have h9:(!posA z (⟨kd,ar⟩:Av)) = true:=(by assumption))); simp_all; done) | (refine .inl ⟨avB_iff.2 (by exact avB_iff.1 (by (have h8:(!avB (⟨kd,ar⟩:Av)) = false:=(by assumption)); simpa using h8)),(by (have h8:(!posA z (⟨kd,ar⟩:Av)) = false:=(by assumption)); simpa using h8),rfl,rfl⟩)):p:=h
theorem z89_1 {p:Prop} (h:p:=by exact avB_iff.1 (by (have h8:(!avB (⟨kd,ar⟩:Av)) = false:=(by assumption)); simpa using h8)):p:=h
theorem c_spec_l06Do (w:World) (g:Nat) (vs:Value) (Fs:List Nat) (z:Cn) (n:Int) (va:Value) (l:List Av) (B U:Nat) (kd:Int) (ar:Int) (hK:RnK 2 w.heap g vs Fs z) (hl:Fr (owS 2 rAv 79) B U w.heap va l) (hBU:B≤U∧U≤w.heap.size) (hzB:∀ b∈ZR g Fs,b < B) (_hkd:-9223372036854775808≤kd∧kd≤9223372036854775807) (_har:-9223372036854775808≤ar∧ar≤9223372036854775807) (hn:0≤n∧n≤40) (hB:CnK n z) (hll:l.length≤1000) :
    Calls Tryz.prog 89 #[.pointer (some ⟨g,0,none⟩),va,.int .i64 kd,.int .i64 ar] w (fun e w'=>∃ (v2:Value) (z2:Cn) (l2:List Av),e = .returned v2∧Chg (zbv g Fs B U) w w'∧RnK 2 w'.heap g vs Fs z2∧Fr (owS 2 rAv 79) B w'.heap.size w'.heap v2 l2∧DoR z l ⟨kd,ar⟩ z2 l2):=by
  refine calls_mk [.pointer (some ⟨g,0,none⟩),va,.int .i64 kd,.int .i64 ar] 30 Tryz.func89 rfl rfl sM ?_
  have hE0:Chg (zbv g Fs B U) w w:=Chg.refl (zbv g Fs B U) w
  refine wp_seq (wp_plain _ [0] rfl (lw_tvn 1 rfl (wp_seq (wp_plain _ [0,0,0,3,4] rfl (lw_tv 2 rfl ?_)))))
  have hbd1:∀ (wq:World),(Instr.build 79 #[(0,(.int .i64 kd)),(1,(.int .i64 ar))]).run Tryz.prog wq = .ok (.agg #[(.int .i64 kd),(.int .i64 ar)]) wq:=by intro wq; kernel_rfl
  refine q_build (ps:=#[(0,(.int .i64 kd)),(1,(.int .i64 ar))]) (.agg #[(.int .i64 kd),(.int .i64 ar)]) (by simp only [List.map_toArray,List.map_cons,List.map_nil]; rfl) (fun wq=>hbd1  wq) zN (r_allocA (z:=.agg #[.int .i64 0,.int .i64 0]) zr79 zN fun w2 hX2 hz2 hB2=>?_)
  have hzs2:w.heap.size≤w2.heap.size:=hX2.size
  have hE2:Chg (zbv g Fs B U) w w2:=hE0.ext hX2
  have hlx2:=hl.ext ((good_owS good_rAv)) hX2
  have hKx3:=hK.ext hX2
  replace hB2:BX w2.heap w.heap.size [(.int .i64 0),(.int .i64 0)]:=hB2
  refine e_setA (vs:=[(.int .i64 kd),(.int .i64 ar)]) agg79 rfl rfl (by intro u hu; simp only [List.mem_cons,List.not_mem_nil,or_false] at hu; rcases hu with rfl | rfl <;> first | exact ⟨rfl,rfl⟩) hB2 rfl rfl zN fun w4 hC4 hz4 hB4=>?_
  replace hB4:BX w4.heap w.heap.size [(.int .i64 kd),(.int .i64 ar)]:=hB4
  have hE4:Chg (zbv g Fs B U) w w4:=hE2.fresh hC4 (fun c hc=>by have:=List.mem_singleton.1 hc; omega)
  have hzs4:w2.heap.size≤w4.heap.size:=hC4.size
  have hF5:=hlx2.chg ((good_owS good_rAv)) hC4 (fun c hc=>by have:=List.mem_singleton.1 hc; omega)
  have hKx6:=hKx3.chg hC4 (fun b hb hm=>by have h91:=hK.lt b hb; have h92:=List.mem_singleton.1 hm; omega)
  refine lw_nil (wp_seq (wp_seq (wp_plain _ [2,3,0,0,0,2,3,0,0] rfl (q_loadA (p:=(.pointer (some ⟨w.heap.size,0,none⟩))) (.inr rfl) [(.int .i64 kd),(.int .i64 ar)] agg79 rfl (fun wq9 hw9=>LD.of_box (BX.ext (w:=w4) hB4 hw9)) rfl zN (lw_call 90 [] [] [(.agg #[(.int .i64 kd),(.int .i64 ar)])] rfl rfl cf90 zN (c_spec_l06Action _ (⟨kd,ar⟩:Av) ⟨_hkd,_har⟩) ?_)))))
  rintro e7 w7 ⟨rfl,hX7⟩
  refine ⟨_,rfl,hX7,?_⟩
  have hzs7:w4.heap.size≤w7.heap.size:=hX7.size
  have hE7:Chg (zbv g Fs B U) w w7:=hE4.ext hX7
  have hF5x7:=hF5.ext ((good_owS good_rAv)) hX7
  have hB4x7:=hB4.ext hX7
  have hKx8:=hKx6.ext hX7
  refine q_not (!(avB (⟨kd,ar⟩:Av))) rfl rfl zN (lw_tv 1 rfl ?_)
  cases hb9:(!(avB (⟨kd,ar⟩:Av)))
  ·
    refine lw_tv 1 rfl (q_loadA (p:=(.pointer (some ⟨w.heap.size,0,none⟩))) (.inr rfl) [(.int .i64 kd),(.int .i64 ar)] agg79 rfl (fun wq9 hw9=>LD.of_box (BX.ext (w:=w7) hB4x7 hw9)) rfl (zS (e:=16) rfl rfl rfl) (lw_call 94 [] [] [(.pointer (some ⟨g,0,none⟩)),(.agg #[(.int .i64 kd),(.int .i64 ar)])] rfl rfl cf94 (zS (e:=16) rfl rfl rfl) (c_spec_l06Run_possible _ g vs Fs z n (⟨kd,ar⟩:Av) hKx8 ⟨_hkd,_har⟩ oM (by exact hB) z89_1) ?_))
    rintro e10 w10 ⟨rfl,hX10⟩
    refine ⟨_,rfl,hX10,?_⟩
    have hzs10:w7.heap.size≤w10.heap.size:=hX10.size
    have hE10:Chg (zbv g Fs B U) w w10:=hE7.ext hX10
    have hF5x10:=hF5x7.ext ((good_owS good_rAv)) hX10
    have hB4x10:=hB4x7.ext hX10
    have hKx11:=hKx8.ext hX10
    refine q_not (!(posA z (⟨kd,ar⟩:Av))) rfl rfl (zS (e:=16) rfl rfl rfl) (lw_tvn 1 rfl ?_)
    cases hb12:(!(posA z (⟨kd,ar⟩:Av)))
    ·
      refine c_cond_f (by first | rfl | (show Value.bool _ = _; rw [hb12])) (wp_skip (wp_seq (wp_plain _ [0,2,4] rfl (lw_tv 1 rfl (q_loadA (p:=(.pointer (some ⟨w.heap.size,0,none⟩))) (.inr rfl) [(.int .i64 kd),(.int .i64 ar)] agg79 rfl (fun wq9 hw9=>LD.of_box (BX.ext (w:=w10) hB4x10 hw9)) rfl zN (lw_callE 95 [] [] [(.pointer (some ⟨g,0,none⟩)),(.agg #[(.int .i64 kd),(.int .i64 ar)])] rfl rfl cf95 zN (c_spec_l06Run_act _ g vs Fs z n (⟨kd,ar⟩:Av) hKx11 ⟨_hkd,_har⟩ oM (by exact hB) z89_1 (by (have h8:(!posA z (⟨kd,ar⟩:Av)) = false:=(by assumption)); simpa using h8)) ?_))))))
      rintro e13 w13 ⟨rfl,hC13,hK13⟩
      refine ⟨_,rfl,?_⟩
      have hzs13:w10.heap.size≤w13.heap.size:=hC13.size
      have hE13:=zbv_r hE10 hC13
      have hF14:=hF5x10.chg (good_owS good_rAv) hC13 (fun c hc=>by have h91:=hzB c hc; omega)
      have hF15:=hB4x10.chg hC13 (fun hm=>by have h91:=hK.lt _ hm; omega)
      refine lw_nil (wp_seq (wp_plain _ [0,2,3,4,0] rfl (lw_tv 1 rfl (q_loadA (p:=(.pointer (some ⟨w.heap.size,0,none⟩))) (.inr rfl) [(.int .i64 kd),(.int .i64 ar)] agg79 rfl (fun wq9 hw9=>LD.of_box (BX.ext (w:=w13) hF15 hw9)) rfl zN (r_oneS (cs:=[(.int .i64 kd),(.int .i64 ar)]) (y:=(⟨kd,ar⟩:Av)) (B:=w13.heap.size) (U:=w13.heap.size) good_rAv u24 tiS79 rfl (by decide) rfl (frN_av (a:=(⟨kd,ar⟩:Av)) ⟨_hkd,_har⟩) oM zN fun v17 w17 hX17 hz17 hO17=>?_)))))
      have hzs17:w13.heap.size≤w17.heap.size:=hX17.size
      have hE17:Chg (zbv g Fs B U) w w17:=hE13.ext hX17
      have hF14x17:=hF14.ext ((good_owS good_rAv)) hX17
      have hF15x17:=hF15.ext hX17
      have hKx18:=hK13.ext hX17
      refine e_appS (v:=va) (a:=v17) good_rAv u24 tiS79 rfl (by decide) rfl rfl hF14x17 oM hO17 oM oM oM (by unfold maxLen; omega) zN fun v19 w19 F19 hC19 hF19 hO19=>?_
      have hzs19:w17.heap.size≤w19.heap.size:=hC19.size
      have hE19:=zbv_l hE17 hC19 hF19
      have hKx19:=hKx18.chg hC19 (fun b hb hm=>by have h91:=hzB b hb; have h92:=hF19 b hm; omega)
      exact lw_tvn 1 rfl (wp_ret (post_ret [8] rfl v19 rfl ⟨_,_,_,rfl,hE19,hKx19,hO19.up (good_owS good_rAv),z89_0⟩))
    ·
      exact c_cond_t (by first | rfl | (show Value.bool _ = _; rw [hb12])) (wp_seq (wp_plain _ [0,0] rfl (lw_tvn 2 rfl (wp_ret (t_ret (post_ret [8] rfl va rfl ⟨_,_,_,rfl,hE10,hKx11,hF5x10.up (good_owS good_rAv),z89_0⟩))))))
  ·
    exact lw_tvn 5 rfl (c_cond_t rfl (wp_seq (wp_plain _ [0,0] rfl (lw_tvn 2 rfl (wp_ret (t_ret (post_ret [8] rfl va rfl ⟨_,_,_,rfl,hE7,hKx8,hF5x7.up (good_owS good_rAv),z89_0⟩)))))))
end Go.Proofs.YtlbefjfhfodnlaaGreatDoor
namespace Go.Proofs.YtlbefjfhfodnlaaGreatDoor
open Go Go.RowKit
set_option linter.unusedVariables false
set_option linter.unusedSimpArgs false
set_option maxHeartbeats 4000000
set_option maxRecDepth 100000
attribute [local irreducible] LW
theorem zq38_0 {p:Prop} (h:p:=by first | omega | exact Nat.zero_le _):p:=h
theorem zq38_1 {p:Prop} (h:p:=by first | omega | (dsimp only; omega)):p:=h
theorem zq38_2 {p:Prop} (h:p:=by exact ⟨hall,by omega⟩):p:=h
theorem c_spec_l06DrawList (w:World) (g:Nat) (sv:Value) (cs:List UInt8) (n0:Nat) (nn:Nat) (sl:Nat) (hs:SrQ w.heap g sv cs n0) (hn0:n0 + 902971725287784468≤1000000000000000000) (_hnn:nn≤1000000000000000000) (_hsl:sl≤1000000000000000000) (hnn:nn≤40∧sl≤8) (hcs5:cs.length≤5000) :
    Calls Tryz.prog 38 #[.pointer (some ⟨g,0,none⟩),.int .i64 ((nn:Nat):Int),.int .i64 ((sl:Nat):Int)] w (fun e w'=>∃ (v0:Value) (x0:List Av) (n1:Nat),e = .returned (v0)∧Chg [g] w w'∧SrQ w'.heap g sv cs n1∧(n0≤n1∧n1≤n0 + 902971725287784468)∧Fr (owS 2 rAv 79) w.heap.size w'.heap.size w'.heap v0 x0∧((∀ x∈x0,avB x = true)∧x0.length≤320)):=by
  refine calls_mk [.pointer (some ⟨g,0,none⟩),.int .i64 ((nn:Nat):Int),.int .i64 ((sl:Nat):Int)] 120 Tryz.func38 rfl rfl sM ?_
  have hE0:Chg [g] w w:=Chg.refl [g] w
  have hgl:=hs.lt
  refine wp_seq (wp_plain _ [0] rfl (lw_tvn 1 rfl (wp_seq (wp_plain _ [0,0,3,0] rfl (lw_tv 2 rfl (lw_call 88 [] [] [(.int .i64 ((nn:Nat):Int)),(.int .i64 ((sl:Nat):Int))] rfl rfl cf88 zN (c_spec_l06Begin _ nn sl oM oM oM) ?_))))))
  rintro e1 w1 ⟨gr,vr,Fz,rfl,hX1,hKr,hlr⟩
  refine ⟨_,rfl,hX1,?_⟩
  have hzs1:w.heap.size≤w1.heap.size:=hX1.size
  have hE1:Chg [g] w w1:=hE0.ext hX1
  have hsx1:=hs.ext hX1
  replace hlr:∀ b∈ZR gr Fz,w.heap.size≤b:=fun b hb=>by have:=hlr b hb; omega
  have hzr:=hKr.lt
  refine lw_tvn 1 rfl (wp_seq (wp_plain _ [3,0] rfl (r_nilS (α:=Av) good_rAv u24 tiS79 zN fun v2 w2 hX2 hz2 hO2=>?_)))
  have hzs2:w1.heap.size≤w2.heap.size:=hX2.size
  have hE2:Chg [g] w w2:=hE1.ext hX2
  have hsx2:=hsx1.ext hX2
  have hKx3:=hKr.ext hX2
  refine lw_tvn 1 rfl (wp_seq (wp_plain _ [0,0,4,0] rfl (lw_tv 2 rfl (lw_callE 89 [] [] [(.pointer (some ⟨gr,0,none⟩)),v2,(.int .i64 ((2:Nat):Int)),(.int .i64 ((0:Nat):Int))] rfl rfl cf89 zN (c_spec_l06Do _ gr vr Fz (bgn ((nn:Nat):Int) sl) ((nn:Nat):Int) v2 ([]:List Av) w1.heap.size w2.heap.size (((2:Nat):Int)) (((0:Nat):Int)) hKx3 hO2 ⟨by omega,by omega⟩ (fun b hb=>by have:=hzr b hb; omega) oM oM oM (by exact bgn_k oM sl) zq38_0) ?_))))
  rintro e4 w4 ⟨v4,z4,l4,rfl,hC4,hK4,hO4,hD4⟩
  refine ⟨_,rfl,?_⟩
  have hzs4:w2.heap.size≤w4.heap.size:=hC4.size
  have hE4:Chg [g] w w4:=hE2.fresh hC4 (fun c hc=>(mem_zbv.1 hc).elim (fun h=>by have:=hlr c h; omega) fun h=>by omega)
  have hF5:=hsx2.chg hC4 (fun c hc=>(mem_zbv.1 hc).elim (fun h=>by have:=hlr c h; omega) fun h=>by omega)
  have hnl4:([]:List Av).length = 0:=rfl
  obtain ⟨hd4,hgw4⟩:=do_len hD4
  have hle4:=hgw4.le
  have hal4:=do_all hD4 (fun x hx=>by cases hx)
  obtain ⟨hZ4,hza4,hzl4⟩:=do_z0 hD4 oM
  have hk4:=hZ4.k
  have hat4:=hk4.at0
  have hln4:=hk4.ln
  have hl04:=hk4.l0
  refine lw_tvn 1 rfl (wp_seq (wp_block ?_))
  obtain ⟨kk,hkk⟩:∃ kk:Nat,(sl = 0∧kk = 2)∨(1≤sl∧kk = 3):=(Nat.eq_zero_or_pos sl).elim (fun h=>⟨2,.inl ⟨h,rfl⟩⟩) fun h=>⟨3,.inr ⟨h,rfl⟩⟩
  have hk23:kk = 2∨kk = 3:=by omega
  have hwt:=wait_0 (cs:=cs) (m:=n0) hk23 hcs5
  have hKs:=hK4
  refine c_loop (S:=Nat × Value × List Av × Cn × Nat) (fun (⟨m,vo,l,z,t⟩:Nat × Value × List Av × Cn × Nat)=>([(8,vo),(0,(.pointer (some ⟨g,0,none⟩))),(2,(.int .i64 ((sl:Nat):Int))),(7,(.pointer (some ⟨gr,0,none⟩)))]:List (Nat × Value))) (fun (⟨m,vo,l,z,t⟩:Nat × Value × List Av × Cn × Nat) (W:World)=>Chg [g] w W∧Fr (owS 2 rAv 79) w1.heap.size W.heap.size W.heap vo l∧SrQ W.heap g sv cs m∧RnK 2 W.heap gr vr Fz z∧DrZ ((nn:Nat):Int) sl z∧l.length≤306∧(∀ x∈l,avB x = true)∧(1≤sl∨z.left≤0∨z.at_ < z.left)∧(∃ j,j < t∧btq cs (m + j * kk + (kk - 1)) % 5≠0)∧t≤140737488360329∧(n0≤m∧m + 8 * ((400 - l.length) * 281474976710656 + t)≤n0 + 902971725287784448)∧w1.heap.size≤W.heap.size) (fun (⟨m,vo,l,z,t⟩:Nat × Value × List Av × Cn × Nat)=>(400 - l.length) * 281474976710656 + t) (n0,v4,l4,z4,140737488360329) ⟨rfl,rfl,rfl,rfl,trivial⟩ ⟨hE4,hO4.up (good_owS good_rAv),hF5,(by exact hKs),(by exact hZ4),oM,(by exact hal4),oM,(by exact hwt),oM,oM,oM⟩ ?_
  clear hE0 hX1 hO2 hz2 hX2 hzs2 hE2 hO4 hC4 hzs4 hE4 hF5 hln4
  rintro ⟨m,vo,l,z,t⟩ ρ6 w6 ⟨hE6,hL6_0,hL6_1,hKl,hZl,hlen,hall,hsz,hwl,htl,hml,hkB7⟩
  have hzs6:w.heap.size≤w6.heap.size:=hE6.size
  have hkl:=hZl.k
  have hatl:=hkl.at0
  have hlnl:=hkl.ln
  have hl0l:=hkl.l0
  refine wp_seq (wp_seq (wp_plain _ [0,0,0,0,0,0,0,2,0,0] rfl (lw_tv 1 rfl (q_len (v:=vo) u24 rfl hL6_0.isSlS zN ?_))))
  by_cases hc8:((l.length:Nat):Int) < ((300:Nat):Int)
  ·
    refine q_lss true rfl rfl (decide_eq_true hc8) zN (lw_tv 2 rfl (q_nilP ⟨_,_,rfl⟩ rfl (zS (e:=19) rfl rfl rfl) (q_fldP (p:=(.pointer (some ⟨gr,0,none⟩))) (b:=gr) (o:=0) 1 fd137_1 rfl rfl (zS (e:=19) rfl rfl rfl) (q_load (p:=(padd (.pointer (some ⟨gr,0,none⟩)) 1)) (.inr rfl) (.int .i64 z.left) one2 rfl ((hKl.bx).ldp (i:=1) sM) (zS (e:=19) rfl rfl rfl) ?_))))
    by_cases hc9:((0:Nat):Int) < z.left
    ·
      refine q_gtr true rfl rfl (decide_eq_true hc9) (zS (e:=19) rfl rfl rfl) (lw_tvn 1 rfl (c_cond_t rfl (wp_skip (wp_block (wp_seq (wp_plain _ [0,0,0,0,4,4,0] rfl (lw_tv 4 rfl (lw_callE 35 [] [] [(.pointer (some ⟨g,0,none⟩)),(.int .i64 ((sl:Nat):Int))] rfl rfl cf35 zN (cq_spec_l00Src_pick _ g _ _ _ (((sl:Nat):Int)) hL6_1 oM oM oM) ?_))))))))
      rintro e10 w10 ⟨x10_0,n10,rfl,hC10,hs10,hb10,hp10_0⟩
      refine ⟨_,rfl,?_⟩
      have hzs10:w6.heap.size≤w10.heap.size:=hC10.size
      have hE10:Chg [g] w w10:=hE6.trans hC10
      have hF11:=hL6_0.chg ((good_owS good_rAv)) hC10 (fun c hc=>by have:=List.mem_singleton.1 hc; omega)
      have hKx12:=hKl.chg hC10 (fun b hb hm=>by have h91:=hlr b hb; have:=List.mem_singleton.1 hm; omega)
      have hpf10:=pk_fact hp10_0
      refine lw_callE 89 [] [] [(.pointer (some ⟨gr,0,none⟩)),vo,(.int .i64 ((3:Nat):Int)),(.int .i64 x10_0)] rfl rfl cf89 zN (c_spec_l06Do _ gr vr Fz z ((nn:Nat):Int) vo l w1.heap.size w6.heap.size (((3:Nat):Int)) (x10_0) hKx12 hF11 ⟨by omega,by omega⟩ (fun b hb=>by have:=hzr b hb; omega) oM oM oM (by exact hkl) zq38_0) ?_
      rintro e13 w13 ⟨v13,z13,l13,rfl,hC13,hK13,hO13,hD13⟩
      refine ⟨_,rfl,?_⟩
      have hzs13:w10.heap.size≤w13.heap.size:=hC13.size
      have hE13:Chg [g] w w13:=hE10.fresh hC13 (fun c hc=>(mem_zbv.1 hc).elim (fun h=>by have:=hlr c h; omega) fun h=>by omega)
      have hF14:=hs10.chg hC13 (fun c hc=>(mem_zbv.1 hc).elim (fun h=>by have:=hlr c h; omega) fun h=>by omega)
      obtain ⟨hd13,hgw13⟩:=do_len hD13
      have hle13:=hgw13.le
      have hal13:=do_all hD13 hall
      have hZ13:=do_z hD13 hZl (fun h9=>by (try dsimp only at h9); omega)
      have hk13:=hZ13.k
      have hat13:=hk13.at0
      have hln13:=hk13.ln
      have hl013:=hk13.l0
      obtain ⟨hq13,_⟩:=do_ld hD13 rfl
      have hy13:sl = 1→l13.length = l.length + 1:=fun h9=>(do_ld0 hD13 rfl zq38_1 hZl oM).2
      have hyo13:sl≠1∨l13.length = l.length + 1:=(Nat.decEq sl 1).byCases (fun h9=>.inr (hy13 h9)) .inl
      clear hy13
      have hzz13:sl = 0→z13.at_ = z.at_:=fun h9=>by rw [(do_ldn hD13 rfl (by rw [hZl.len]; exact h9)).1]
      have hzo13:sl≠0∨z13.at_ = z.at_:=(Nat.decEq sl 0).byCases (fun h9=>.inr (hzz13 h9)) .inl
      clear hzz13
      refine lw_tvn 1 rfl (wp_seq (c_cut (S:=Nat × Value × List Av × Cn) (fun (⟨mA,vA,lA,zA⟩:Nat × Value × List Av × Cn)=>([(8,vA),(0,(.pointer (some ⟨g,0,none⟩))),(2,(.int .i64 ((sl:Nat):Int))),(7,(.pointer (some ⟨gr,0,none⟩)))]:List (Nat × Value))) (fun (⟨mA,vA,lA,zA⟩:Nat × Value × List Av × Cn) (W:World)=>Chg [g] w W∧Fr (owS 2 rAv 79) w1.heap.size W.heap.size W.heap vA lA∧SrQ W.heap g sv cs mA∧RnK 2 W.heap gr vr Fz zA∧DrZ ((nn:Nat):Int) sl zA∧(∀ x∈lA,avB x = true)∧(zA.left = z.left∧zA.at_ < zA.left∧l.length≤lA.length∧l.length < 300)∧((sl≤1∧mA = m)∨(2≤sl∧mA = m + 1))∧(sl≠1∨l.length < lA.length)∧(lA.length≤l.length + 2∧m≤mA)∧w1.heap.size≤W.heap.size) ?_ ?_))
      ·
        refine wp_seq (wp_draw _ [0,0,0,1,0,0,0,1,0] mixed (by kernel_rfl) (lw_tv 1 rfl (q_nilP ⟨_,_,rfl⟩ rfl zN (q_fldP (p:=(.pointer (some ⟨gr,0,none⟩))) (b:=gr) (o:=0) 0 fd137_0 rfl rfl zN (q_load (p:=(padd (.pointer (some ⟨gr,0,none⟩)) 0)) (.inl rfl) (.int .i64 z13.at_) one2 rfl ((hK13.bx).ldp (i:=0) sM) zN (lw_tv 1 rfl (q_nilP ⟨_,_,rfl⟩ rfl zN (q_fldP (p:=(.pointer (some ⟨gr,0,none⟩))) (b:=gr) (o:=0) 1 fd137_1 rfl rfl zN (q_load (p:=(padd (.pointer (some ⟨gr,0,none⟩)) 1)) (.inl rfl) (.int .i64 z13.left) one2 rfl ((hK13.bx).ldp (i:=1) sM) zN ?_)))))))))
        by_cases hc17:z13.left≤z13.at_
        ·
          refine q_geq true rfl rfl (decide_eq_true hc17) zN (lw_nil (c_cond_t rfl (wp_plain _ [0,0,4,0] rfl (lw_tv 2 rfl ?_))))
          have hdr19:w13.drew.heap.size = w13.heap.size:=rfl
          refine lw_callE 89 [] [] [(.pointer (some ⟨gr,0,none⟩)),v13,(.int .i64 ((3:Nat):Int)),(.int .i64 ((0:Nat):Int))] rfl rfl cf89 zN (c_spec_l06Do _ gr vr Fz z13 ((nn:Nat):Int) v13 l13 w1.heap.size w13.heap.size (((3:Nat):Int)) (((0:Nat):Int)) hK13 hO13 ⟨by omega,by omega⟩ (fun b hb=>by have:=hzr b hb; omega) oM oM oM (by exact hk13) zq38_0) ?_
          rintro e18 w18 ⟨v18,z18,l18,rfl,hC18,hK18,hO18,hD18⟩
          replace hC18:=hC18.of_drew
          refine ⟨_,rfl,?_⟩
          have hzs18:w13.heap.size≤w18.heap.size:=hC18.size
          have hE18:Chg [g] w w18:=hE13.fresh hC18 (fun c hc=>(mem_zbv.1 hc).elim (fun h=>by have:=hlr c h; omega) fun h=>by omega)
          have hF20:=hF14.chg hC18 (fun c hc=>(mem_zbv.1 hc).elim (fun h=>by have:=hlr c h; omega) fun h=>by omega)
          obtain ⟨hd18,hgw18⟩:=do_len hD18
          have hle18:=hgw18.le
          have hal18:=do_all hD18 hal13
          have hZ18:=do_z hD18 hZ13 (fun h9=>by (try dsimp only at h9); omega)
          have hk18:=hZ18.k
          have hat18:=hk18.at0
          have hln18:=hk18.ln
          have hl018:=hk18.l0
          obtain ⟨hq18,_⟩:=do_ld hD18 rfl
          have hs118:1≤sl:=by omega
          obtain ⟨hz18,hy18⟩:=do_ld0 hD18 rfl rfl hZ13 hs118
          refine lw_tvn 1 rfl ?_
          have hKe:=hK18
          exact ⟨(n10,v18,l18,z18),_,rfl,⟨rfl,rfl,rfl,rfl,trivial⟩,⟨hE18,hO18.up (good_owS good_rAv),hF20,(by exact hKe),(by exact hZ18),(by exact hal18),oM,oM,oM,oM,oM⟩⟩
        ·
          refine q_geq false rfl rfl (decide_eq_false hc17) zN (lw_nil (c_cond_f rfl (wp_skip ?_)))
          have hdr21:w13.drew.heap.size = w13.heap.size:=rfl
          have hKe:=hK13
          exact ⟨(n10,v13,l13,z13),_,rfl,⟨rfl,rfl,rfl,rfl,trivial⟩,⟨hE13.drew,hO13.up (good_owS good_rAv),hF14,(by exact hKe),(by exact hZ13),(by exact hal13),oM,oM,oM,oM,oM⟩⟩
      ·
        clear hd4 hl04 hkB7 hl0l hc8 hc9 hp10_0 hd13 hl013 hL6_1 hL6_0 hE6 hzs6 hC10 hzs10 hE10 hF11 hO13 hC13 hzs13 hE13 hF14 hln13
        rintro ⟨mA,vA,lA,zA⟩ ρ15 w15 ⟨hE15,hL15_0,hL15_1,hKA,hZA,halA,hqA,hmA,hgA,hlA,hkB16⟩
        have hzs15:w.heap.size≤w15.heap.size:=hE15.size
        have hkA:=hZA.k
        have hatA:=hkA.at0
        have hlnA:=hkA.ln
        have hl0A:=hkA.l0
        refine wp_seq (c_cut (S:=Nat × Value × List Av × Cn) (fun (⟨mB,vB,lB,zB⟩:Nat × Value × List Av × Cn)=>([(8,vB),(0,(.pointer (some ⟨g,0,none⟩))),(2,(.int .i64 ((sl:Nat):Int))),(7,(.pointer (some ⟨gr,0,none⟩)))]:List (Nat × Value))) (fun (⟨mB,vB,lB,zB⟩:Nat × Value × List Av × Cn) (W:World)=>Chg [g] w W∧Fr (owS 2 rAv 79) w1.heap.size W.heap.size W.heap vB lB∧SrQ W.heap g sv cs mB∧RnK 2 W.heap gr vr Fz zB∧DrZ ((nn:Nat):Int) sl zB∧(∀ x∈lB,avB x = true)∧(zB.left = z.left∧zB.at_ < zB.left∧l.length≤lB.length∧l.length < 300)∧(l.length < lB.length∨mB + 1 = m + kk)∧(lB.length≤l.length + 4∧m≤mB∧mB≤m + 4)∧w1.heap.size≤W.heap.size) ?_ ?_)
        ·
          refine wp_seq (wp_plain _ [0,4] rfl (lw_tv 1 rfl (lw_callE 36 [] [] [(.pointer (some ⟨g,0,none⟩)),(.int .i64 ((2:Nat):Int))] rfl rfl cf36 zN (cq_spec_l00Src_one _ g _ _ _ (((2:Nat):Int)) hL15_1 oM oM oM) ?_)))
          rintro e24 w24 ⟨x24_0,n24,rfl,hC24,hs24,hb24,hp24_0⟩
          refine ⟨_,rfl,?_⟩
          have hzs24:w15.heap.size≤w24.heap.size:=hC24.size
          have hE24:Chg [g] w w24:=hE15.trans hC24
          have hF25:=hL15_0.chg ((good_owS good_rAv)) hC24 (fun c hc=>by have:=List.mem_singleton.1 hc; omega)
          have hKx26:=hKA.chg hC24 (fun b hb hm=>by have h91:=hlr b hb; have:=List.mem_singleton.1 hm; omega)
          have hpf24:=pk_one hp24_0 ⟨by decide,by decide⟩
          refine lw_nil ?_
          cases hb27:x24_0
          ·
            refine c_cond_f (by first | rfl | (show Value.bool _ = _; rw [hb27])) (wp_skip ?_)
            have hKe:=hKx26
            exact ⟨(n24,vA,lA,zA),_,rfl,⟨rfl,rfl,rfl,rfl,trivial⟩,⟨hE24,hF25.up (good_owS good_rAv),hs24,(by exact hKe),(by exact hZA),(by exact halA),oM,oM,oM,oM⟩⟩
          ·
            refine c_cond_t (by first | rfl | (show Value.bool _ = _; rw [hb27])) (wp_seq (wp_draw _ [0,0,0,0,0,0,1,0,0,0,0,1,0,4,0,4,0] mixed (by kernel_rfl) (lw_tv 4 rfl (q_nilP ⟨_,_,rfl⟩ rfl zN (q_fldP (p:=(.pointer (some ⟨gr,0,none⟩))) (b:=gr) (o:=0) 1 fd137_1 rfl rfl zN (q_load (p:=(padd (.pointer (some ⟨gr,0,none⟩)) 1)) (.inl rfl) (.int .i64 zA.left) one2 rfl ((hKx26.bx).ldp (i:=1) sM) zN ?_))))))
            refine q_sub (zA.left - ((1:Nat):Int)) rfl rfl (w64 sD sD) zN (lw_tv 1 rfl (q_nilP ⟨_,_,rfl⟩ rfl zN ?_))
            refine q_fldP (p:=(.pointer (some ⟨gr,0,none⟩))) (b:=gr) (o:=0) 0 fd137_0 rfl rfl zN (q_load (p:=(padd (.pointer (some ⟨gr,0,none⟩)) 0)) (.inl rfl) (.int .i64 zA.at_) one2 rfl ((hKx26.bx).ldp (i:=0) sM) zN ?_)
            refine q_sub ((zA.left - ((1:Nat):Int)) - zA.at_) rfl rfl (w64 sD sD) zN ?_
            refine lw_callE 35 [] [] [(.pointer (some ⟨g,0,none⟩)),(.int .i64 ((zA.left - ((1:Nat):Int)) - zA.at_))] rfl rfl cf35 zN (cq_spec_l00Src_pick _ g _ _ _ ((zA.left - ((1:Nat):Int)) - zA.at_) hs24 oM oM oM) ?_
            rintro e28 w28 ⟨x28_0,n28,rfl,hC28,hs28,hb28,hp28_0⟩
            refine ⟨_,rfl,?_⟩
            replace hC28:=hC28.of_drew
            have hzs28:w24.heap.size≤w28.heap.size:=hC28.size
            have hE28:Chg [g] w w28:=hE24.trans hC28
            have hF29:=hF25.chg ((good_owS good_rAv)) hC28 (fun c hc=>by have:=List.mem_singleton.1 hc; omega)
            have hKx30:=hKx26.chg hC28 (fun b hb hm=>by have h91:=hlr b hb; have:=List.mem_singleton.1 hm; omega)
            have hpf28:=pk_fact hp28_0
            refine q_add (((1:Nat):Int) + x28_0) rfl rfl (w64 sD sD) zN ?_
            refine lw_callE 89 [] [] [(.pointer (some ⟨gr,0,none⟩)),vA,(.int .i64 ((1:Nat):Int)),(.int .i64 (((1:Nat):Int) + x28_0))] rfl rfl cf89 zN (c_spec_l06Do _ gr vr Fz zA ((nn:Nat):Int) vA lA w1.heap.size w15.heap.size (((1:Nat):Int)) (((1:Nat):Int) + x28_0) hKx30 hF29 ⟨by omega,by omega⟩ (fun b hb=>by have:=hzr b hb; omega) oM oM oM (by exact hkA) zq38_0) ?_
            rintro e31 w31 ⟨v31,z31,l31,rfl,hC31,hK31,hO31,hD31⟩
            refine ⟨_,rfl,?_⟩
            have hzs31:w28.heap.size≤w31.heap.size:=hC31.size
            have hE31:Chg [g] w w31:=hE28.fresh hC31 (fun c hc=>(mem_zbv.1 hc).elim (fun h=>by have:=hlr c h; omega) fun h=>by omega)
            have hF32:=hs28.chg hC31 (fun c hc=>(mem_zbv.1 hc).elim (fun h=>by have:=hlr c h; omega) fun h=>by omega)
            obtain ⟨hd31,hgw31⟩:=do_len hD31
            have hle31:=hgw31.le
            have hal31:=do_all hD31 halA
            have hZ31:=do_z hD31 hZA (fun h9=>by (try dsimp only at h9); omega)
            have hk31:=hZ31.k
            have hat31:=hk31.at0
            have hln31:=hk31.ln
            have hl031:=hk31.l0
            obtain ⟨hq31,_,hw31⟩:=do_ad hD31 rfl
            have hw231:=hw31 oM
            clear hw31
            have hy31:zA.left - 1 - zA.at_ < 1∨l31.length = lA.length + 1:=(Int.decLt (zA.left - 1 - zA.at_) 1).byCases .inl fun h9=>.inr (do_ad1 hD31 rfl zq38_1 zq38_1 zq38_1).2
            refine lw_tvn 1 rfl (wp_seq (wp_plain _ [0,0] rfl (lw_tv 1 rfl ?_)))
            by_cases hc33:((1:Nat):Int) < ((sl:Nat):Int)
            ·
              refine q_gtr true rfl rfl (decide_eq_true hc33) zN (lw_nil (c_cond_t rfl (wp_plain _ [0,0,0,0,0,4,0,4,0] rfl (lw_tv 4 rfl ?_))))
              refine q_sub (((sl:Nat):Int) - ((1:Nat):Int)) rfl rfl (w64 sD sD) zN ?_
              refine lw_callE 35 [] [] [(.pointer (some ⟨g,0,none⟩)),(.int .i64 (((sl:Nat):Int) - ((1:Nat):Int)))] rfl rfl cf35 zN (cq_spec_l00Src_pick _ g _ _ _ (((sl:Nat):Int) - ((1:Nat):Int)) hF32 oM oM oM) ?_
              rintro e34 w34 ⟨x34_0,n34,rfl,hC34,hs34,hb34,hp34_0⟩
              refine ⟨_,rfl,?_⟩
              have hzs34:w31.heap.size≤w34.heap.size:=hC34.size
              have hE34:Chg [g] w w34:=hE31.trans hC34
              have hF35:=hO31.chg ((good_owS good_rAv)) hC34 (fun c hc=>by have:=List.mem_singleton.1 hc; omega)
              have hKx36:=hK31.chg hC34 (fun b hb hm=>by have h91:=hlr b hb; have:=List.mem_singleton.1 hm; omega)
              have hpf34:=pk_fact hp34_0
              refine q_add (((1:Nat):Int) + x34_0) rfl rfl (w64 sD sD) zN ?_
              refine lw_callE 89 [] [] [(.pointer (some ⟨gr,0,none⟩)),v31,(.int .i64 ((2:Nat):Int)),(.int .i64 (((1:Nat):Int) + x34_0))] rfl rfl cf89 zN (c_spec_l06Do _ gr vr Fz z31 ((nn:Nat):Int) v31 l31 w1.heap.size w31.heap.size (((2:Nat):Int)) (((1:Nat):Int) + x34_0) hKx36 hF35 ⟨by omega,by omega⟩ (fun b hb=>by have:=hzr b hb; omega) oM oM oM (by exact hk31) zq38_0) ?_
              rintro e37 w37 ⟨v37,z37,l37,rfl,hC37,hK37,hO37,hD37⟩
              refine ⟨_,rfl,?_⟩
              have hzs37:w34.heap.size≤w37.heap.size:=hC37.size
              have hE37:Chg [g] w w37:=hE34.fresh hC37 (fun c hc=>(mem_zbv.1 hc).elim (fun h=>by have:=hlr c h; omega) fun h=>by omega)
              have hF38:=hs34.chg hC37 (fun c hc=>(mem_zbv.1 hc).elim (fun h=>by have:=hlr c h; omega) fun h=>by omega)
              obtain ⟨hd37,hgw37⟩:=do_len hD37
              have hle37:=hgw37.le
              have hal37:=do_all hD37 hal31
              have hZ37:=do_z hD37 hZ31 (fun h9=>by (try dsimp only at h9); (try dsimp only); omega)
              have hk37:=hZ37.k
              have hat37:=hk37.at0
              have hln37:=hk37.ln
              have hl037:=hk37.l0
              obtain ⟨hq37,hw37⟩:=do_st hD37 rfl
              have hy37:=do_st1 hD37 rfl hZ31 zq38_1 zq38_1 oM
              refine lw_tvn 1 rfl ?_
              have hKe:=hK37
              exact ⟨(n34,v37,l37,z37),_,rfl,⟨rfl,rfl,rfl,rfl,trivial⟩,⟨hE37,hO37.up (good_owS good_rAv),hF38,(by exact hKe),(by exact hZ37),(by exact hal37),oM,oM,oM,oM⟩⟩
            ·
              refine q_gtr false rfl rfl (decide_eq_false hc33) zN (lw_nil (c_cond_f rfl (wp_skip ?_)))
              have hKe:=hK31
              exact ⟨(n28,v31,l31,z31),_,rfl,⟨rfl,rfl,rfl,rfl,trivial⟩,⟨hE31,hO31.up (good_owS good_rAv),hF32,(by exact hKe),(by exact hZ31),(by exact hal31),oM,oM,oM,oM⟩⟩
        ·
          clear hkB16 hl0A hL15_1 hL15_0 hE15 hzs15
          rintro ⟨mB,vB,lB,zB⟩ ρ22 w22 ⟨hE22,hL22_0,hL22_1,hKB,hZB,halB,hqB,hgB,hlB,hkB23⟩
          have hzs22:w.heap.size≤w22.heap.size:=hE22.size
          have hkB:=hZB.k
          have hatB:=hkB.at0
          have hlnB:=hkB.ln
          have hl0B:=hkB.l0
          refine wp_seq (wp_seq (wp_plain _ [0,4] rfl (lw_tv 1 rfl (lw_callE 36 [] [] [(.pointer (some ⟨g,0,none⟩)),(.int .i64 ((5:Nat):Int))] rfl rfl cf36 zN (cq_spec_l00Src_one _ g _ _ _ (((5:Nat):Int)) hL22_1 oM oM oM) ?_))))
          rintro e39 w39 ⟨x39_0,n39,rfl,hC39,hs39,hb39,hp39_0⟩
          refine ⟨_,rfl,?_⟩
          have hzs39:w22.heap.size≤w39.heap.size:=hC39.size
          have hE39:Chg [g] w w39:=hE22.trans hC39
          have hF40:=hL22_0.chg ((good_owS good_rAv)) hC39 (fun c hc=>by have:=List.mem_singleton.1 hc; omega)
          have hKx41:=hKB.chg hC39 (fun b hb hm=>by have h91:=hlr b hb; have:=List.mem_singleton.1 hm; omega)
          have hpf39:=pk_one hp39_0 ⟨by decide,by decide⟩
          refine lw_nil ?_
          cases hb42:x39_0
          ·
            refine c_cond_f (by first | rfl | (show Value.bool _ = _; rw [hb42])) (wp_skip (wp_seq (wp_draw _ [0,0,0,0,0,1,0,0,0,0,1,0,4,0] mixed (by kernel_rfl) (lw_tv 3 rfl (q_nilP ⟨_,_,rfl⟩ rfl zN (q_fldP (p:=(.pointer (some ⟨gr,0,none⟩))) (b:=gr) (o:=0) 1 fd137_1 rfl rfl zN (q_load (p:=(padd (.pointer (some ⟨gr,0,none⟩)) 1)) (.inl rfl) (.int .i64 zB.left) one2 rfl ((hKx41.bx).ldp (i:=1) sM) zN ?_)))))))
            refine q_sub (zB.left - ((1:Nat):Int)) rfl rfl (w64 sD sD) zN (lw_tv 1 rfl (q_nilP ⟨_,_,rfl⟩ rfl zN ?_))
            refine q_fldP (p:=(.pointer (some ⟨gr,0,none⟩))) (b:=gr) (o:=0) 0 fd137_0 rfl rfl zN (q_load (p:=(padd (.pointer (some ⟨gr,0,none⟩)) 0)) (.inl rfl) (.int .i64 zB.at_) one2 rfl ((hKx41.bx).ldp (i:=0) sM) zN ?_)
            refine q_sub ((zB.left - ((1:Nat):Int)) - zB.at_) rfl rfl (w64 sD sD) zN ?_
            have hdr44:w39.drew.heap.size = w39.heap.size:=rfl
            refine lw_callE 89 [] [] [(.pointer (some ⟨gr,0,none⟩)),vB,(.int .i64 ((1:Nat):Int)),(.int .i64 ((zB.left - ((1:Nat):Int)) - zB.at_))] rfl rfl cf89 zN (c_spec_l06Do _ gr vr Fz zB ((nn:Nat):Int) vB lB w1.heap.size w22.heap.size (((1:Nat):Int)) ((zB.left - ((1:Nat):Int)) - zB.at_) hKx41 hF40 ⟨by omega,by omega⟩ (fun b hb=>by have:=hzr b hb; omega) oM oM oM (by exact hkB) zq38_0) ?_
            rintro e43 w43 ⟨v43,z43,l43,rfl,hC43,hK43,hO43,hD43⟩
            replace hC43:=hC43.of_drew
            refine ⟨_,rfl,?_⟩
            have hzs43:w39.heap.size≤w43.heap.size:=hC43.size
            have hE43:Chg [g] w w43:=hE39.fresh hC43 (fun c hc=>(mem_zbv.1 hc).elim (fun h=>by have:=hlr c h; omega) fun h=>by omega)
            have hF45:=hs39.chg hC43 (fun c hc=>(mem_zbv.1 hc).elim (fun h=>by have:=hlr c h; omega) fun h=>by omega)
            obtain ⟨hd43,hgw43⟩:=do_len hD43
            have hle43:=hgw43.le
            have hal43:=do_all hD43 halB
            have hZ43:=do_z hD43 hZB (fun h9=>by (try dsimp only at h9); omega)
            have hk43:=hZ43.k
            have hat43:=hk43.at0
            have hln43:=hk43.ln
            have hl043:=hk43.l0
            obtain ⟨hq43,_,hw43⟩:=do_ad hD43 rfl
            have hw243:=hw43 oM
            clear hw43
            have hy43:zB.left - 1 - zB.at_ < 1∨l43.length = lB.length + 1:=(Int.decLt (zB.left - 1 - zB.at_) 1).byCases .inl fun h9=>.inr (do_ad1 hD43 rfl zq38_1 zq38_1 zq38_1).2
            refine lw_tvn 1 rfl (wp_seq (wp_plain _ [0,0,4,0] rfl (lw_tv 2 rfl (lw_callE 89 [] [] [(.pointer (some ⟨gr,0,none⟩)),v43,(.int .i64 ((4:Nat):Int)),(.int .i64 ((0:Nat):Int))] rfl rfl cf89 zN (c_spec_l06Do _ gr vr Fz z43 ((nn:Nat):Int) v43 l43 w1.heap.size w43.heap.size (((4:Nat):Int)) (((0:Nat):Int)) hK43 hO43 ⟨by omega,by omega⟩ (fun b hb=>by have:=hzr b hb; omega) oM oM oM (by exact hk43) zq38_0) ?_))))
            rintro e46 w46 ⟨v46,z46,l46,rfl,hC46,hK46,hO46,hD46⟩
            refine ⟨_,rfl,?_⟩
            have hzs46:w43.heap.size≤w46.heap.size:=hC46.size
            have hE46:Chg [g] w w46:=hE43.fresh hC46 (fun c hc=>(mem_zbv.1 hc).elim (fun h=>by have:=hlr c h; omega) fun h=>by omega)
            have hF47:=hF45.chg hC46 (fun c hc=>(mem_zbv.1 hc).elim (fun h=>by have:=hlr c h; omega) fun h=>by omega)
            obtain ⟨hd46,hgw46⟩:=do_len hD46
            have hle46:=hgw46.le
            have hal46:=do_all hD46 hal43
            have hZ46:=do_z hD46 hZ43 (fun h9=>by (try dsimp only at h9); omega)
            have hk46:=hZ46.k
            have hat46:=hk46.at0
            have hln46:=hk46.ln
            have hl046:=hk46.l0
            obtain ⟨hy46,hq46,hw46⟩:=do_end hD43 hD46 rfl rfl rfl rfl oM oM oM
            refine lw_tvn 1 rfl (wp_seq (wp_draw _ [0,0,0,0,0,0,1,0,0,0,1,0,0,0] mixed (by kernel_rfl) (lw_tv 1 rfl ?_)))
            by_cases hc48:((sl:Nat):Int) = ((0:Nat):Int)
            ·
              refine q_eql true rfl rfl (decide_eq_true hc48) zN (lw_tv 2 rfl (q_nilP ⟨_,_,rfl⟩ rfl (zS (e:=92) rfl rfl rfl) (q_fldP (p:=(.pointer (some ⟨gr,0,none⟩))) (b:=gr) (o:=0) 0 fd137_0 rfl rfl (zS (e:=92) rfl rfl rfl) (q_load (p:=(padd (.pointer (some ⟨gr,0,none⟩)) 0)) (.inl rfl) (.int .i64 z46.at_) one2 rfl ((hK46.bx).ldp (i:=0) sM) (zS (e:=92) rfl rfl rfl) (lw_tv 1 rfl (q_nilP ⟨_,_,rfl⟩ rfl (zS (e:=92) rfl rfl rfl) (q_fldP (p:=(.pointer (some ⟨gr,0,none⟩))) (b:=gr) (o:=0) 1 fd137_1 rfl rfl (zS (e:=92) rfl rfl rfl) (q_load (p:=(padd (.pointer (some ⟨gr,0,none⟩)) 1)) (.inl rfl) (.int .i64 z46.left) one2 rfl ((hK46.bx).ldp (i:=1) sM) (zS (e:=92) rfl rfl rfl) ?_))))))))
              refine q_sub (z46.left - ((1:Nat):Int)) rfl rfl (w64 sD sD) (zS (e:=92) rfl rfl rfl) ?_
              by_cases hc49:z46.left - ((1:Nat):Int) < z46.at_
              ·
                refine q_gtr true rfl rfl (decide_eq_true hc49) (zS (e:=92) rfl rfl rfl) (lw_tvn 1 rfl (c_cond_t rfl (wp_exit (c_exit_out rfl (t_exit (c_exit_here (wp_seq (wp_seq (wp_plain _ [0,0,0,0,4,0] rfl (lw_tv 1 rfl ?_))))))))))
                by_cases hc50:((0:Nat):Int) < ((sl:Nat):Int)
                ·
                  refine q_gtr true rfl rfl (decide_eq_true hc50) zN (lw_tv 2 rfl (lw_callE 36 [] [] [(.pointer (some ⟨g,0,none⟩)),(.int .i64 ((3:Nat):Int))] rfl rfl cf36 (zS (e:=106) rfl rfl rfl) (cq_spec_l00Src_one _ g _ _ _ (((3:Nat):Int)) hF47 oM oM oM) ?_))
                  rintro e51 w51 ⟨x51_0,n51,rfl,hC51,hs51,hb51,hp51_0⟩
                  refine ⟨_,rfl,?_⟩
                  replace hC51:=hC51.of_drew
                  have hzs51:w46.heap.size≤w51.heap.size:=hC51.size
                  have hE51:Chg [g] w w51:=hE46.trans hC51
                  have hF52:=hO46.chg ((good_owS good_rAv)) hC51 (fun c hc=>by have:=List.mem_singleton.1 hc; omega)
                  have hKx53:=hK46.chg hC51 (fun b hb hm=>by have h91:=hlr b hb; have:=List.mem_singleton.1 hm; omega)
                  have hpf51:=pk_one hp51_0 ⟨by decide,by decide⟩
                  refine lw_tvn 1 rfl ?_
                  cases hb54:x51_0
                  ·
                    exact c_cond_f (by first | rfl | (show Value.bool _ = _; rw [hb54])) (wp_skip (wp_seq (wp_plain _ [0,0] rfl (lw_tvn 2 rfl (wp_ret (post_ret [6] rfl v46 rfl ⟨v46,l46,n51,rfl,hE51,hs51,⟨by omega,by omega⟩,((hF52.up (good_owS good_rAv)).low (B':=w.heap.size) oM),(by exact ⟨hal46,by omega⟩)⟩))))))
                  ·
                    refine c_cond_t (by first | rfl | (show Value.bool _ = _; rw [hb54])) (wp_seq (wp_plain _ [0,0,0,0,4,4,0] rfl (lw_tv 4 rfl (lw_callE 35 [] [] [(.pointer (some ⟨g,0,none⟩)),(.int .i64 ((sl:Nat):Int))] rfl rfl cf35 zN (cq_spec_l00Src_pick _ g _ _ _ (((sl:Nat):Int)) hs51 oM oM oM) ?_))))
                    rintro e55 w55 ⟨x55_0,n55,rfl,hC55,hs55,hb55,hp55_0⟩
                    refine ⟨_,rfl,?_⟩
                    have hzs55:w51.heap.size≤w55.heap.size:=hC55.size
                    have hE55:Chg [g] w w55:=hE51.trans hC55
                    have hF56:=hF52.chg ((good_owS good_rAv)) hC55 (fun c hc=>by have:=List.mem_singleton.1 hc; omega)
                    have hKx57:=hKx53.chg hC55 (fun b hb hm=>by have h91:=hlr b hb; have:=List.mem_singleton.1 hm; omega)
                    have hpf55:=pk_fact hp55_0
                    refine lw_callE 89 [] [] [(.pointer (some ⟨gr,0,none⟩)),v46,(.int .i64 ((2:Nat):Int)),(.int .i64 x55_0)] rfl rfl cf89 zN (c_spec_l06Do _ gr vr Fz z46 ((nn:Nat):Int) v46 l46 w1.heap.size w46.heap.size (((2:Nat):Int)) (x55_0) hKx57 hF56 ⟨by omega,by omega⟩ (fun b hb=>by have:=hzr b hb; omega) oM oM oM (by exact hk46) zq38_0) ?_
                    rintro e58 w58 ⟨v58,z58,l58,rfl,hC58,hK58,hO58,hD58⟩
                    refine ⟨_,rfl,?_⟩
                    have hzs58:w55.heap.size≤w58.heap.size:=hC58.size
                    have hE58:Chg [g] w w58:=hE55.fresh hC58 (fun c hc=>(mem_zbv.1 hc).elim (fun h=>by have:=hlr c h; omega) fun h=>by omega)
                    have hF59:=hs55.chg hC58 (fun c hc=>(mem_zbv.1 hc).elim (fun h=>by have:=hlr c h; omega) fun h=>by omega)
                    obtain ⟨hd58,hgw58⟩:=do_len hD58
                    have hle58:=hgw58.le
                    have hal58:=do_all hD58 hal46
                    have hk58:=do_k hD58 hk46
                    refine lw_tvn 1 rfl (wp_plain _ [0,0,4,0] rfl (lw_tv 2 rfl (lw_callE 89 [] [] [(.pointer (some ⟨gr,0,none⟩)),v58,(.int .i64 ((3:Nat):Int)),(.int .i64 ((0:Nat):Int))] rfl rfl cf89 zN (c_spec_l06Do _ gr vr Fz z58 ((nn:Nat):Int) v58 l58 w1.heap.size w58.heap.size (((3:Nat):Int)) (((0:Nat):Int)) hK58 hO58 ⟨by omega,by omega⟩ (fun b hb=>by have:=hzr b hb; omega) oM oM oM (by exact hk58) zq38_0) ?_)))
                    rintro e60 w60 ⟨v60,z60,l60,rfl,hC60,hK60,hO60,hD60⟩
                    refine ⟨_,rfl,?_⟩
                    have hzs60:w58.heap.size≤w60.heap.size:=hC60.size
                    have hE60:Chg [g] w w60:=hE58.fresh hC60 (fun c hc=>(mem_zbv.1 hc).elim (fun h=>by have:=hlr c h; omega) fun h=>by omega)
                    have hF61:=hF59.chg hC60 (fun c hc=>(mem_zbv.1 hc).elim (fun h=>by have:=hlr c h; omega) fun h=>by omega)
                    obtain ⟨hd60,hgw60⟩:=do_len hD60
                    have hle60:=hgw60.le
                    have hal60:=do_all hD60 hal58
                    have hk60:=do_k hD60 hk58
                    exact lw_tvn 1 rfl (wp_seq (wp_plain _ [0,0] rfl (lw_tvn 2 rfl (wp_ret (post_ret [6] rfl v60 rfl ⟨v60,l60,n55,rfl,hE60,hF61,⟨by omega,by omega⟩,((hO60.up (good_owS good_rAv)).low (B':=w.heap.size) oM),(by exact ⟨hal60,by omega⟩)⟩)))))
                ·
                  exact q_gtr false rfl rfl (decide_eq_false hc50) zN (lw_tvn 4 rfl (c_cond_f rfl (wp_skip (wp_seq (wp_plain _ [0,0] rfl (lw_tvn 2 rfl (wp_ret (post_ret [6] rfl v46 rfl ⟨v46,l46,n39,rfl,hE46.drew,hF47,⟨by omega,by omega⟩,((hO46.up (good_owS good_rAv)).low (B':=w.heap.size) oM),(by exact ⟨hal46,by omega⟩)⟩))))))))
              ·
                refine q_gtr false rfl rfl (decide_eq_false hc49) (zS (e:=92) rfl rfl rfl) (lw_tvn 1 rfl (c_cond_f rfl (wp_skip ?_)))
                have hdr62:w46.drew.heap.size = w46.heap.size:=rfl
                have hfin63:l.length < l46.length∨(l46.length = l.length∧n39 = m + kk∧btq cs (m + (kk - 1)) % 5 = 0):=by
                  exact .inl oM
                obtain ⟨t9,hw9,ht9,hm9⟩:=wait_next hk23 hcs5 hwl htl oM hfin63
                have hKe:=hK46
                exact ⟨(n39,v46,l46,z46,t9),_,rfl,⟨rfl,rfl,rfl,rfl,trivial⟩,⟨hE46.drew,hO46.up (good_owS good_rAv),hF47,(by exact hKe),(by exact hZ46),oM,(by exact hal46),oM,(by exact hw9),(by exact ht9),oM,oM⟩,by first | omega | (dsimp only; omega)⟩
            ·
              refine q_eql false rfl rfl (decide_eq_false hc48) zN (lw_tvn 12 rfl (c_cond_f rfl (wp_skip ?_)))
              have hdr64:w46.drew.heap.size = w46.heap.size:=rfl
              have hfin65:l.length < l46.length∨(l46.length = l.length∧n39 = m + kk∧btq cs (m + (kk - 1)) % 5 = 0):=by
                exact .inl oM
              obtain ⟨t9,hw9,ht9,hm9⟩:=wait_next hk23 hcs5 hwl htl oM hfin65
              have hKe:=hK46
              exact ⟨(n39,v46,l46,z46,t9),_,rfl,⟨rfl,rfl,rfl,rfl,trivial⟩,⟨hE46.drew,hO46.up (good_owS good_rAv),hF47,(by exact hKe),(by exact hZ46),oM,(by exact hal46),oM,(by exact hw9),(by exact ht9),oM,oM⟩,by first | omega | (dsimp only; omega)⟩
          ·
            refine c_cond_t (by first | rfl | (show Value.bool _ = _; rw [hb42])) (wp_exit (t_exit (c_exit_here ?_)))
            have hfin66:l.length < lB.length∨(lB.length = l.length∧n39 = m + kk∧btq cs (m + (kk - 1)) % 5 = 0):=by
              exact (Nat.lt_or_ge l.length lB.length).elim .inl fun hgr=>.inr ⟨by omega,by omega,by rw [show m + (kk - 1) = mB from by omega]; exact pk_yes hp39_0 ⟨by decide,by decide⟩ hb42⟩
            obtain ⟨t9,hw9,ht9,hm9⟩:=wait_next hk23 hcs5 hwl htl oM hfin66
            have hKe:=hKx41
            exact ⟨(n39,vB,lB,zB,t9),_,rfl,⟨rfl,rfl,rfl,rfl,trivial⟩,⟨hE39,hF40.up (good_owS good_rAv),hs39,(by exact hKe),(by exact hZB),oM,(by exact halB),oM,(by exact hw9),(by exact ht9),oM,oM⟩,by first | omega | (dsimp only; omega)⟩
    ·
      refine q_gtr false rfl rfl (decide_eq_false hc9) (zS (e:=19) rfl rfl rfl) (lw_tvn 1 rfl (c_cond_f rfl (wp_exit (t_exit (t_exit (c_exit_here (wp_seq (wp_seq (wp_plain _ [0,0,0,0,4,0] rfl (lw_tv 1 rfl ?_))))))))))
      by_cases hc67:((0:Nat):Int) < ((sl:Nat):Int)
      ·
        refine q_gtr true rfl rfl (decide_eq_true hc67) zN (lw_tv 2 rfl (lw_callE 36 [] [] [(.pointer (some ⟨g,0,none⟩)),(.int .i64 ((3:Nat):Int))] rfl rfl cf36 (zS (e:=106) rfl rfl rfl) (cq_spec_l00Src_one _ g _ _ _ (((3:Nat):Int)) hL6_1 oM oM oM) ?_))
        rintro e68 w68 ⟨x68_0,n68,rfl,hC68,hs68,hb68,hp68_0⟩
        refine ⟨_,rfl,?_⟩
        have hzs68:w6.heap.size≤w68.heap.size:=hC68.size
        have hE68:Chg [g] w w68:=hE6.trans hC68
        have hF69:=hL6_0.chg ((good_owS good_rAv)) hC68 (fun c hc=>by have:=List.mem_singleton.1 hc; omega)
        have hKx70:=hKl.chg hC68 (fun b hb hm=>by have h91:=hlr b hb; have:=List.mem_singleton.1 hm; omega)
        have hpf68:=pk_one hp68_0 ⟨by decide,by decide⟩
        refine lw_tvn 1 rfl ?_
        cases hb71:x68_0
        ·
          exact c_cond_f (by first | rfl | (show Value.bool _ = _; rw [hb71])) (wp_skip (wp_seq (wp_plain _ [0,0] rfl (lw_tvn 2 rfl (wp_ret (post_ret [6] rfl vo rfl ⟨vo,l,n68,rfl,hE68,hs68,⟨by omega,by omega⟩,((hF69.up (good_owS good_rAv)).low (B':=w.heap.size) oM),zq38_2⟩))))))
        ·
          refine c_cond_t (by first | rfl | (show Value.bool _ = _; rw [hb71])) (wp_seq (wp_plain _ [0,0,0,0,4,4,0] rfl (lw_tv 4 rfl (lw_callE 35 [] [] [(.pointer (some ⟨g,0,none⟩)),(.int .i64 ((sl:Nat):Int))] rfl rfl cf35 zN (cq_spec_l00Src_pick _ g _ _ _ (((sl:Nat):Int)) hs68 oM oM oM) ?_))))
          rintro e72 w72 ⟨x72_0,n72,rfl,hC72,hs72,hb72,hp72_0⟩
          refine ⟨_,rfl,?_⟩
          have hzs72:w68.heap.size≤w72.heap.size:=hC72.size
          have hE72:Chg [g] w w72:=hE68.trans hC72
          have hF73:=hF69.chg ((good_owS good_rAv)) hC72 (fun c hc=>by have:=List.mem_singleton.1 hc; omega)
          have hKx74:=hKx70.chg hC72 (fun b hb hm=>by have h91:=hlr b hb; have:=List.mem_singleton.1 hm; omega)
          have hpf72:=pk_fact hp72_0
          refine lw_callE 89 [] [] [(.pointer (some ⟨gr,0,none⟩)),vo,(.int .i64 ((2:Nat):Int)),(.int .i64 x72_0)] rfl rfl cf89 zN (c_spec_l06Do _ gr vr Fz z ((nn:Nat):Int) vo l w1.heap.size w6.heap.size (((2:Nat):Int)) (x72_0) hKx74 hF73 ⟨by omega,by omega⟩ (fun b hb=>by have:=hzr b hb; omega) oM oM oM (by exact hkl) zq38_0) ?_
          rintro e75 w75 ⟨v75,z75,l75,rfl,hC75,hK75,hO75,hD75⟩
          refine ⟨_,rfl,?_⟩
          have hzs75:w72.heap.size≤w75.heap.size:=hC75.size
          have hE75:Chg [g] w w75:=hE72.fresh hC75 (fun c hc=>(mem_zbv.1 hc).elim (fun h=>by have:=hlr c h; omega) fun h=>by omega)
          have hF76:=hs72.chg hC75 (fun c hc=>(mem_zbv.1 hc).elim (fun h=>by have:=hlr c h; omega) fun h=>by omega)
          obtain ⟨hd75,hgw75⟩:=do_len hD75
          have hle75:=hgw75.le
          have hal75:=do_all hD75 hall
          have hk75:=do_k hD75 hkl
          refine lw_tvn 1 rfl (wp_plain _ [0,0,4,0] rfl (lw_tv 2 rfl (lw_callE 89 [] [] [(.pointer (some ⟨gr,0,none⟩)),v75,(.int .i64 ((3:Nat):Int)),(.int .i64 ((0:Nat):Int))] rfl rfl cf89 zN (c_spec_l06Do _ gr vr Fz z75 ((nn:Nat):Int) v75 l75 w1.heap.size w75.heap.size (((3:Nat):Int)) (((0:Nat):Int)) hK75 hO75 ⟨by omega,by omega⟩ (fun b hb=>by have:=hzr b hb; omega) oM oM oM (by exact hk75) zq38_0) ?_)))
          rintro e77 w77 ⟨v77,z77,l77,rfl,hC77,hK77,hO77,hD77⟩
          refine ⟨_,rfl,?_⟩
          have hzs77:w75.heap.size≤w77.heap.size:=hC77.size
          have hE77:Chg [g] w w77:=hE75.fresh hC77 (fun c hc=>(mem_zbv.1 hc).elim (fun h=>by have:=hlr c h; omega) fun h=>by omega)
          have hF78:=hF76.chg hC77 (fun c hc=>(mem_zbv.1 hc).elim (fun h=>by have:=hlr c h; omega) fun h=>by omega)
          obtain ⟨hd77,hgw77⟩:=do_len hD77
          have hle77:=hgw77.le
          have hal77:=do_all hD77 hal75
          have hk77:=do_k hD77 hk75
          exact lw_tvn 1 rfl (wp_seq (wp_plain _ [0,0] rfl (lw_tvn 2 rfl (wp_ret (post_ret [6] rfl v77 rfl ⟨v77,l77,n72,rfl,hE77,hF78,⟨by omega,by omega⟩,((hO77.up (good_owS good_rAv)).low (B':=w.heap.size) oM),(by exact ⟨hal77,by omega⟩)⟩)))))
      ·
        exact q_gtr false rfl rfl (decide_eq_false hc67) zN (lw_tvn 4 rfl (c_cond_f rfl (wp_skip (wp_seq (wp_plain _ [0,0] rfl (lw_tvn 2 rfl (wp_ret (post_ret [6] rfl vo rfl ⟨vo,l,m,rfl,hE6,hL6_1,⟨by omega,by omega⟩,((hL6_0.up (good_owS good_rAv)).low (B':=w.heap.size) oM),zq38_2⟩))))))))
  ·
    refine q_lss false rfl rfl (decide_eq_false hc8) zN (lw_tvn 7 rfl (c_cond_f rfl (wp_exit (t_exit (t_exit (c_exit_here (wp_seq (wp_seq (wp_plain _ [0,0,0,0,4,0] rfl (lw_tv 1 rfl ?_))))))))))
    by_cases hc79:((0:Nat):Int) < ((sl:Nat):Int)
    ·
      refine q_gtr true rfl rfl (decide_eq_true hc79) zN (lw_tv 2 rfl (lw_callE 36 [] [] [(.pointer (some ⟨g,0,none⟩)),(.int .i64 ((3:Nat):Int))] rfl rfl cf36 (zS (e:=106) rfl rfl rfl) (cq_spec_l00Src_one _ g _ _ _ (((3:Nat):Int)) hL6_1 oM oM oM) ?_))
      rintro e80 w80 ⟨x80_0,n80,rfl,hC80,hs80,hb80,hp80_0⟩
      refine ⟨_,rfl,?_⟩
      have hzs80:w6.heap.size≤w80.heap.size:=hC80.size
      have hE80:Chg [g] w w80:=hE6.trans hC80
      have hF81:=hL6_0.chg ((good_owS good_rAv)) hC80 (fun c hc=>by have:=List.mem_singleton.1 hc; omega)
      have hKx82:=hKl.chg hC80 (fun b hb hm=>by have h91:=hlr b hb; have:=List.mem_singleton.1 hm; omega)
      have hpf80:=pk_one hp80_0 ⟨by decide,by decide⟩
      refine lw_tvn 1 rfl ?_
      cases hb83:x80_0
      ·
        exact c_cond_f (by first | rfl | (show Value.bool _ = _; rw [hb83])) (wp_skip (wp_seq (wp_plain _ [0,0] rfl (lw_tvn 2 rfl (wp_ret (post_ret [6] rfl vo rfl ⟨vo,l,n80,rfl,hE80,hs80,⟨by omega,by omega⟩,((hF81.up (good_owS good_rAv)).low (B':=w.heap.size) oM),zq38_2⟩))))))
      ·
        refine c_cond_t (by first | rfl | (show Value.bool _ = _; rw [hb83])) (wp_seq (wp_plain _ [0,0,0,0,4,4,0] rfl (lw_tv 4 rfl (lw_callE 35 [] [] [(.pointer (some ⟨g,0,none⟩)),(.int .i64 ((sl:Nat):Int))] rfl rfl cf35 zN (cq_spec_l00Src_pick _ g _ _ _ (((sl:Nat):Int)) hs80 oM oM oM) ?_))))
        rintro e84 w84 ⟨x84_0,n84,rfl,hC84,hs84,hb84,hp84_0⟩
        refine ⟨_,rfl,?_⟩
        have hzs84:w80.heap.size≤w84.heap.size:=hC84.size
        have hE84:Chg [g] w w84:=hE80.trans hC84
        have hF85:=hF81.chg ((good_owS good_rAv)) hC84 (fun c hc=>by have:=List.mem_singleton.1 hc; omega)
        have hKx86:=hKx82.chg hC84 (fun b hb hm=>by have h91:=hlr b hb; have:=List.mem_singleton.1 hm; omega)
        have hpf84:=pk_fact hp84_0
        refine lw_callE 89 [] [] [(.pointer (some ⟨gr,0,none⟩)),vo,(.int .i64 ((2:Nat):Int)),(.int .i64 x84_0)] rfl rfl cf89 zN (c_spec_l06Do _ gr vr Fz z ((nn:Nat):Int) vo l w1.heap.size w6.heap.size (((2:Nat):Int)) (x84_0) hKx86 hF85 ⟨by omega,by omega⟩ (fun b hb=>by have:=hzr b hb; omega) oM oM oM (by exact hkl) zq38_0) ?_
        rintro e87 w87 ⟨v87,z87,l87,rfl,hC87,hK87,hO87,hD87⟩
        refine ⟨_,rfl,?_⟩
        have hzs87:w84.heap.size≤w87.heap.size:=hC87.size
        have hE87:Chg [g] w w87:=hE84.fresh hC87 (fun c hc=>(mem_zbv.1 hc).elim (fun h=>by have:=hlr c h; omega) fun h=>by omega)
        have hF88:=hs84.chg hC87 (fun c hc=>(mem_zbv.1 hc).elim (fun h=>by have:=hlr c h; omega) fun h=>by omega)
        obtain ⟨hd87,hgw87⟩:=do_len hD87
        have hle87:=hgw87.le
        have hal87:=do_all hD87 hall
        have hk87:=do_k hD87 hkl
        refine lw_tvn 1 rfl (wp_plain _ [0,0,4,0] rfl (lw_tv 2 rfl (lw_callE 89 [] [] [(.pointer (some ⟨gr,0,none⟩)),v87,(.int .i64 ((3:Nat):Int)),(.int .i64 ((0:Nat):Int))] rfl rfl cf89 zN (c_spec_l06Do _ gr vr Fz z87 ((nn:Nat):Int) v87 l87 w1.heap.size w87.heap.size (((3:Nat):Int)) (((0:Nat):Int)) hK87 hO87 ⟨by omega,by omega⟩ (fun b hb=>by have:=hzr b hb; omega) oM oM oM (by exact hk87) zq38_0) ?_)))
        rintro e89 w89 ⟨v89,z89,l89,rfl,hC89,hK89,hO89,hD89⟩
        refine ⟨_,rfl,?_⟩
        have hzs89:w87.heap.size≤w89.heap.size:=hC89.size
        have hE89:Chg [g] w w89:=hE87.fresh hC89 (fun c hc=>(mem_zbv.1 hc).elim (fun h=>by have:=hlr c h; omega) fun h=>by omega)
        have hF90:=hF88.chg hC89 (fun c hc=>(mem_zbv.1 hc).elim (fun h=>by have:=hlr c h; omega) fun h=>by omega)
        obtain ⟨hd89,hgw89⟩:=do_len hD89
        have hle89:=hgw89.le
        have hal89:=do_all hD89 hal87
        have hk89:=do_k hD89 hk87
        exact lw_tvn 1 rfl (wp_seq (wp_plain _ [0,0] rfl (lw_tvn 2 rfl (wp_ret (post_ret [6] rfl v89 rfl ⟨v89,l89,n84,rfl,hE89,hF90,⟨by omega,by omega⟩,((hO89.up (good_owS good_rAv)).low (B':=w.heap.size) oM),(by exact ⟨hal89,by omega⟩)⟩)))))
    ·
      exact q_gtr false rfl rfl (decide_eq_false hc79) zN (lw_tvn 4 rfl (c_cond_f rfl (wp_skip (wp_seq (wp_plain _ [0,0] rfl (lw_tvn 2 rfl (wp_ret (post_ret [6] rfl vo rfl ⟨vo,l,m,rfl,hE6,hL6_1,⟨by omega,by omega⟩,((hL6_0.up (good_owS good_rAv)).low (B':=w.heap.size) oM),zq38_2⟩))))))))
end Go.Proofs.YtlbefjfhfodnlaaGreatDoor
namespace Go.Proofs.YtlbefjfhfodnlaaGreatDoor
open Go Go.RowKit
set_option linter.unusedVariables false
set_option linter.unusedSimpArgs false
set_option maxHeartbeats 4000000
set_option maxRecDepth 100000
attribute [local irreducible] LW
theorem zq39_0 {p:Prop} (h:p:=by rw [hyb]; first | omega | (simp only [List.length_nil,List.length_append,List.length_take,List.length_drop,List.length_set,List.length_cons]; omega)):p:=h
theorem zq39_1 {p:Prop} (h:p:=by unfold maxLen; simp only [List.length_nil,List.length_append,List.length_take,List.length_drop]; omega):p:=h
theorem zq39_2 {p:Prop} (h:p:=by simp only [List.length_nil,List.length_append,List.length_take,List.length_drop]; omega):p:=h
theorem zq39_3 {p:Prop} (h:p:=by simp only [List.map_toArray,List.map_cons,List.map_nil]; rfl):p:=h
theorem zq39_4 {p:Prop} (h:p:=by decide):p:=h
theorem c_spec_l06SpoilList (w:World) (g:Nat) (sv:Value) (cs:List UInt8) (n0:Nat) (va:Value) (l:List Av) (hs:SrQ w.heap g sv cs n0) (hn0:n0 + 1000≤1000000000000000000) (hl:RN [g] (rdS 2 rAv) w.heap va l) (hll:l.length≤400) :
    Calls Tryz.prog 39 #[.pointer (some ⟨g,0,none⟩),va] w (fun e w'=>∃ (v0:Value) (x0:List Av) (n1:Nat),e = .returned (v0)∧Chg [g] w w'∧SrQ w'.heap g sv cs n1∧(n0≤n1∧n1≤n0 + 1000)∧Fr (owS 2 rAv 79) w.heap.size w'.heap.size w'.heap v0 x0∧(x0.length≤1000)):=by
  refine calls_mk [.pointer (some ⟨g,0,none⟩),va] 89 Tryz.func39 rfl rfl sM ?_
  have hE0:Chg [g] w w:=Chg.refl [g] w
  have hgl:=hs.lt
  refine wp_seq (wp_plain _ [0] rfl (lw_tvn 1 rfl (wp_seq (wp_plain _ [3,0,4,0] rfl (r_nilS (α:=Av) good_hBv u24 tiS79 zN fun v1 w1 hX1 hz1 hO1=>?_)))))
  have hzs1:w.heap.size≤w1.heap.size:=hX1.size
  have hE1:Chg [g] w w1:=hE0.ext hX1
  have hsx1:=hs.ext hX1
  refine lw_tv 1 rfl (e_appA (v:=v1) (a:=va) (ys:=l) good_hBv flN_b u24 tiS79 rfl zq39_4 rfl rfl hO1 oM (RN.rb (hl.chg (good_rdS good_rAv) hE1)) zq39_2 zq39_1 zN fun v2 w2 F2 hC2 hF2 hO2=>?_)
  have hzs2:w1.heap.size≤w2.heap.size:=hC2.size
  have hE2:Chg [g] w w2:=hE1.fresh hC2 (fun c hc=>by have:=hF2 _ hc; omega)
  have hF3:=hsx1.chg hC2 (fun c hc=>by have:=hF2 _ hc; omega)
  refine lw_tvn 1 rfl (wp_seq (wp_seq (wp_plain _ [0,0,0,0,0,4,0] rfl ?_)))
  have hnl:(([]:List Av)++l).length = l.length:=rfl
  refine lw_tv 1 rfl (q_len (v:=v2) u24 rfl hO2.isSlS zN ?_)
  by_cases hc4:(((([]:List Av)++l).length:Nat):Int) = ((0:Nat):Int)
  ·
    refine q_eql true rfl rfl (decide_eq_true hc4) zN (lw_tvn 4 rfl (c_cond_t rfl (wp_seq (wp_plain _ [0,0,4,0,0,4,0,3,4,0] rfl (lw_tv 2 rfl (lw_callE 35 [] [] [(.pointer (some ⟨g,0,none⟩)),(.int .i64 ((4:Nat):Int))] rfl rfl cf35 zN (cq_spec_l00Src_pick _ g _ _ _ (((4:Nat):Int)) hF3 oM oM oM) ?_))))))
    rintro e5 w5 ⟨x5_0,n5,rfl,hC5,hs5,hb5,hp5_0⟩
    refine ⟨_,rfl,?_⟩
    have hzs5:w2.heap.size≤w5.heap.size:=hC5.size
    have hE5:Chg [g] w w5:=hE2.trans hC5
    have hF6:=hO2.chg ((good_owS good_hBv)) hC5 (fun c hc=>by have:=List.mem_singleton.1 hc; omega)
    have hpf5:=pk_fact hp5_0
    refine q_add (((1:Nat):Int) + x5_0) rfl rfl (w64 sD sD) zN (lw_tv 1 rfl ?_)
    refine lw_callE 35 [] [] [(.pointer (some ⟨g,0,none⟩)),(.int .i64 ((3:Nat):Int))] rfl rfl cf35 zN (cq_spec_l00Src_pick _ g _ _ _ (((3:Nat):Int)) hs5 oM oM oM) ?_
    rintro e7 w7 ⟨x7_0,n7,rfl,hC7,hs7,hb7,hp7_0⟩
    refine ⟨_,rfl,?_⟩
    have hzs7:w5.heap.size≤w7.heap.size:=hC7.size
    have hE7:Chg [g] w w7:=hE5.trans hC7
    have hF8:=hF6.chg ((good_owS good_hBv)) hC7 (fun c hc=>by have:=List.mem_singleton.1 hc; omega)
    have hpf7:=pk_fact hp7_0
    have hbd9:∀ (wq:World),(Instr.build 79 #[(0,(.int .i64 (((1:Nat):Int) + x5_0))),(1,(.int .i64 x7_0))]).run Tryz.prog wq = .ok (.agg #[(.int .i64 (((1:Nat):Int) + x5_0)),(.int .i64 x7_0)]) wq:=by intro wq; kernel_rfl
    refine q_build (ps:=#[(0,(.int .i64 (((1:Nat):Int) + x5_0))),(1,(.int .i64 x7_0))]) (.agg #[(.int .i64 (((1:Nat):Int) + x5_0)),(.int .i64 x7_0)]) zq39_3 (fun wq=>hbd9  wq) zN (r_oneS (cs:=[(.int .i64 (((1:Nat):Int) + x5_0)),(.int .i64 x7_0)]) (y:=Av.zero) (B:=w7.heap.size) (U:=w7.heap.size) good_hBv u24 tiS79 rfl zq39_4 rfl (hBv_mk oM oM) oM zN fun v10 w10 hX10 hz10 hO10=>?_)
    have hzs10:w7.heap.size≤w10.heap.size:=hX10.size
    have hE10:Chg [g] w w10:=hE7.ext hX10
    have hs7x10:=hs7.ext hX10
    have hF8x10:=hF8.ext ((good_owS good_hBv)) hX10
    refine e_appS (v:=v2) (a:=v10) good_hBv u24 tiS79 rfl zq39_4 rfl rfl hF8x10 oM hO10 oM oM oM (by unfold maxLen; omega) zN fun v11 w11 F11 hC11 hF11 hO11=>?_
    have hzs11:w10.heap.size≤w11.heap.size:=hC11.size
    have hE11:Chg [g] w w11:=hE10.fresh hC11 (fun c hc=>by have:=hF11 _ hc; omega)
    have hF12:=hs7x10.chg hC11 (fun c hc=>by have:=hF11 _ hc; omega)
    refine lw_tvn 1 rfl (wp_ret (t_ret ?_))
    obtain ⟨yb,hyb,hyf⟩:=hBv_out hO11
    exact post_ret [4] rfl v11 rfl ⟨v11,yb,n7,rfl,hE11,hF12,⟨by omega,by omega⟩,((hyf.up (good_owS good_rAv)).low (B':=w.heap.size) oM),zq39_0⟩
  ·
    refine q_eql false rfl rfl (decide_eq_false hc4) zN (lw_tv 2 rfl (lw_callE 36 [] [] [(.pointer (some ⟨g,0,none⟩)),(.int .i64 ((6:Nat):Int))] rfl rfl cf36 (zS (e:=13) rfl rfl rfl) (cq_spec_l00Src_one _ g _ _ _ (((6:Nat):Int)) hF3 oM oM oM) ?_))
    rintro e13 w13 ⟨x13_0,n13,rfl,hC13,hs13,hb13,hp13_0⟩
    refine ⟨_,rfl,?_⟩
    have hzs13:w2.heap.size≤w13.heap.size:=hC13.size
    have hE13:Chg [g] w w13:=hE2.trans hC13
    have hF14:=hO2.chg ((good_owS good_hBv)) hC13 (fun c hc=>by have:=List.mem_singleton.1 hc; omega)
    have hpf13:=pk_one hp13_0 ⟨by decide,by decide⟩
    refine lw_tvn 1 rfl ?_
    cases hb15:x13_0
    ·
      refine c_cond_f (by first | rfl | (show Value.bool _ = _; rw [hb15])) (wp_skip (wp_seq (wp_plain _ [0,0,0,4,0] rfl (lw_tv 2 rfl (q_len (v:=v2) u24 rfl hF14.isSlS zN (lw_callE 35 [] [] [(.pointer (some ⟨g,0,none⟩)),(.int .i64 (((([]:List Av)++l).length:Nat):Int))] rfl rfl cf35 zN (cq_spec_l00Src_pick _ g _ _ _ ((((([]:List Av)++l).length:Nat):Int)) hs13 oM oM oM) ?_))))))
      rintro e16 w16 ⟨x16_0,n16,rfl,hC16,hs16,hb16,hp16_0⟩
      refine ⟨_,rfl,?_⟩
      have hzs16:w13.heap.size≤w16.heap.size:=hC16.size
      have hE16:Chg [g] w w16:=hE13.trans hC16
      have hF17:=hF14.chg ((good_owS good_hBv)) hC16 (fun c hc=>by have:=List.mem_singleton.1 hc; omega)
      have hpf16:=pk_fact hp16_0
      refine lw_tvn 1 rfl (wp_seq (wp_seq (wp_plain _ [0,4] rfl (lw_tv 1 rfl (lw_callE 35 [] [] [(.pointer (some ⟨g,0,none⟩)),(.int .i64 ((6:Nat):Int))] rfl rfl cf35 zN (cq_spec_l00Src_pick _ g _ _ _ (((6:Nat):Int)) hs16 oM oM oM) ?_)))))
      rintro e18 w18 ⟨x18_0,n18,rfl,hC18,hs18,hb18,hp18_0⟩
      refine ⟨_,rfl,?_⟩
      have hzs18:w16.heap.size≤w18.heap.size:=hC18.size
      have hE18:Chg [g] w w18:=hE16.trans hC18
      have hF19:=hF17.chg ((good_owS good_hBv)) hC18 (fun c hc=>by have:=List.mem_singleton.1 hc; omega)
      have hpf18:=pk_fact hp18_0
      refine lw_nil (wp_block (wp_seq (wp_plain _ [0,0] rfl ?_)))
      by_cases hc20:x18_0 = ((0:Nat):Int)
      ·
        refine q_eql true rfl rfl (decide_eq_true hc20) zN (lw_tvn 1 rfl (c_cond_t rfl (wp_draw _ [3,0,0,0,4,0,0,0,0,4,0] mixed (by kernel_rfl) ?_)))
        have hdr21:w18.drew.heap.size = w18.heap.size:=rfl
        refine r_nilS (α:=Av) good_hBv u24 tiS79 zN fun v22 w22 hX22 hz22 hO22=>?_
        replace hX22:=hX22.of_drew
        have hzs22:w18.heap.size≤w22.heap.size:=hX22.size
        have hE22:Chg [g] w w22:=hE18.ext hX22
        have hs18x22:=hs18.ext hX22
        have hF19x22:=hF19.ext ((good_owS good_hBv)) hX22
        refine lw_tv 2 rfl ?_
        have hlt23:(x16_0).toNat≤(([]:List Av)++l).length:=by omega
        refine q_pref (v:=v2) (k:=(x16_0).toNat) u24 tiS79 rfl hF19x22.isSlS (RN.of_frB (S:=[]) hF19x22 (fun b hb=>by cases hb)).capS (i64_nn oM) hlt23 zN (e_appA (v:=v22) (a:=(prefV v2 ((x16_0).toNat))) (ys:=(([]:List Av)++l).take ((x16_0).toNat)) good_hBv flN_b u24 tiS79 rfl zq39_4 rfl rfl hO22 oM (RN.pref good_hBv (RN.of_frB (S:=[]) hF19x22 (fun b hb=>by cases hb)) hlt23) zq39_2 zq39_1 zN fun v24 w24 F24 hC24 hF24 hO24=>?_)
        have hzs24:w22.heap.size≤w24.heap.size:=hC24.size
        have hE24:Chg [g] w w24:=hE22.fresh hC24 (fun c hc=>by have:=hF24 _ hc; omega)
        have hF25:=hs18x22.chg hC24 (fun c hc=>by have:=hF24 _ hc; omega)
        have hF26:=hF19x22.chg ((good_owS good_hBv)) hC24 (fun c hc=>by have:=hF24 _ hc; omega)
        refine lw_tv 2 rfl (q_add (x16_0 + ((1:Nat):Int)) rfl rfl (w64 sD sD) zN ?_)
        have hlt27:(x16_0 + ((1:Nat):Int)).toNat≤(([]:List Av)++l).length:=by omega
        refine q_sufS (v:=v2) (k:=(x16_0 + ((1:Nat):Int)).toNat) u24 tiS79 zq39_4 rfl hF26.isSlS (RN.of_frB (S:=[]) hF26 (fun b hb=>by cases hb)).capS (i64_nn oM) hlt27 zN (e_appA (v:=v24) (a:=(sufS 2 v2 ((x16_0 + ((1:Nat):Int)).toNat))) (ys:=(([]:List Av)++l).drop ((x16_0 + ((1:Nat):Int)).toNat)) good_hBv flN_b u24 tiS79 rfl zq39_4 rfl rfl hO24 oM (rn_sufS good_hBv zq39_4 (RN.of_frB (S:=[]) hF26 (fun b hb=>by cases hb)) hlt27) zq39_2 zq39_1 zN fun v28 w28 F28 hC28 hF28 hO28=>?_)
        have hzs28:w24.heap.size≤w28.heap.size:=hC28.size
        have hE28:Chg [g] w w28:=hE24.fresh hC28 (fun c hc=>by have:=hF28 _ hc; omega)
        have hF29:=hF25.chg hC28 (fun c hc=>by have:=hF28 _ hc; omega)
        refine lw_tvn 1 rfl (wp_seq (wp_plain _ [0,0] rfl (lw_tvn 2 rfl (wp_ret ?_))))
        obtain ⟨yb,hyb,hyf⟩:=hBv_out hO28
        exact post_ret [4] rfl v28 rfl ⟨v28,yb,n18,rfl,hE28,hF29,⟨by omega,by omega⟩,((hyf.up (good_owS good_rAv)).low (B':=w.heap.size) oM),zq39_0⟩
      ·
        refine q_eql false rfl rfl (decide_eq_false hc20) zN (lw_tvn 1 rfl (c_cond_f rfl (wp_seq (wp_plain _ [0,0] rfl ?_))))
        by_cases hc31:x18_0 = ((1:Nat):Int)
        ·
          refine q_eql true rfl rfl (decide_eq_true hc31) zN (lw_tvn 1 rfl (c_cond_t rfl (wp_plain _ [0,0,0,3,4,0,0,4] rfl (lw_tv 3 rfl (r_ints (n:=8) (us:=[(-1),((0:Nat):Int),((1:Nat):Int),((2:Nat):Int),((7:Nat):Int),((8:Nat):Int),((40:Nat):Int),((41:Nat):Int)]) u25 ti2 zq39_3 rfl zq39_4 (by intro x hx; simp only [List.mem_cons,List.not_mem_nil,or_false] at hx; unfold i64; omega) (bs8 u25 ti2 rfl) zN fun v32 w32 hX32 hz32 hO32=>?_)))))
          have hzs32:w18.heap.size≤w32.heap.size:=hX32.size
          have hE32:Chg [g] w w32:=hE18.ext hX32
          have hs18x32:=hs18.ext hX32
          have hF19x32:=hF19.ext ((good_owS good_hBv)) hX32
          refine lw_callE 37 [] [] [(.pointer (some ⟨g,0,none⟩)),v32] rfl rfl cf37 zN (cq_spec_l00Src_among _ g _ _ _ v32 _ hs18x32 oM (fun w9 h9=>(hO32.chg o1 h9 (fun c hc=>by have:=List.mem_singleton.1 hc; omega)).rd1) (by exact ⟨by decide,by decide⟩)) ?_
          rintro e33 w33 ⟨x33_0,n33,rfl,hC33,hs33,hb33,hp33_0⟩
          refine ⟨_,rfl,?_⟩
          have hzs33:w32.heap.size≤w33.heap.size:=hC33.size
          have hE33:Chg [g] w w33:=hE32.trans hC33
          have hF34:=hF19x32.chg ((good_owS good_hBv)) hC33 (fun c hc=>by have:=List.mem_singleton.1 hc; omega)
          have hmi33:=mem_i8 hp33_0.1
          refine q_idx (v:=v2) ((x16_0).toNat) u24 tiS79 rfl rfl hF34.isSlS oM sD zN ?_
          obtain ⟨gb36,ob36,hpb36⟩:=owS.isPtr (k:=(x16_0).toNat) hF34.choose_spec.1 sD
          refine q_fldP (p:=eptr v2 ((x16_0).toNat) 2) (b:=gb36) (o:=ob36) 1 fd79_1 rfl hpb36 zN (e_setCF (v:=v2) (k:=((x16_0).toNat)) (c:=1) good_hBv sz2 rfl rfl ⟨rfl,rfl⟩ hF34 sD zq39_4 (fun h=>hBv_set1 oM h) zN fun w37 F37 hC37 hz37 hF37 hO37=>?_)
          have hzs37:w33.heap.size≤w37.heap.size:=hC37.size
          have hE37:Chg [g] w w37:=hE33.fresh hC37 (fun c hc=>by have:=hF37 _ hc; omega)
          have hF38:=hs33.chg hC37 (fun c hc=>by have:=hF37 _ hc; omega)
          refine lw_nil (wp_seq (wp_plain _ [0,0] rfl (lw_tvn 2 rfl (wp_ret ?_))))
          obtain ⟨yb,hyb,hyf⟩:=hBv_out hO37
          exact post_ret [4] rfl v2 rfl ⟨v2,yb,n33,rfl,hE37,hF38,⟨by omega,by omega⟩,((hyf.up (good_owS good_rAv)).low (B':=w.heap.size) oM),zq39_0⟩
        ·
          refine q_eql false rfl rfl (decide_eq_false hc31) zN (lw_tvn 1 rfl (c_cond_f rfl (wp_seq (wp_plain _ [0,0] rfl ?_))))
          by_cases hc40:x18_0 = ((2:Nat):Int)
          ·
            refine q_eql true rfl rfl (decide_eq_true hc40) zN (lw_tvn 1 rfl (c_cond_t rfl (wp_plain _ [0,0,0,4,0,0,0,4] rfl (lw_tv 3 rfl (lw_callE 35 [] [] [(.pointer (some ⟨g,0,none⟩)),(.int .i64 ((7:Nat):Int))] rfl rfl cf35 zN (cq_spec_l00Src_pick _ g _ _ _ (((7:Nat):Int)) hs18 oM oM oM) ?_)))))
            rintro e41 w41 ⟨x41_0,n41,rfl,hC41,hs41,hb41,hp41_0⟩
            refine ⟨_,rfl,?_⟩
            have hzs41:w18.heap.size≤w41.heap.size:=hC41.size
            have hE41:Chg [g] w w41:=hE18.trans hC41
            have hF42:=hF19.chg ((good_owS good_hBv)) hC41 (fun c hc=>by have:=List.mem_singleton.1 hc; omega)
            have hpf41:=pk_fact hp41_0
            refine q_sub (x41_0 - ((1:Nat):Int)) rfl rfl (w64 sD sD) zN ?_
            refine q_idx (v:=v2) ((x16_0).toNat) u24 tiS79 rfl rfl hF42.isSlS oM sD zN ?_
            obtain ⟨gb43,ob43,hpb43⟩:=owS.isPtr (k:=(x16_0).toNat) hF42.choose_spec.1 sD
            refine q_fldP (p:=eptr v2 ((x16_0).toNat) 2) (b:=gb43) (o:=ob43) 0 fd79_0 rfl hpb43 zN (e_setCF (v:=v2) (k:=((x16_0).toNat)) (c:=0) good_hBv sz2 rfl rfl ⟨rfl,rfl⟩ hF42 sD zq39_4 (fun h=>hBv_set0 oM h) zN fun w44 F44 hC44 hz44 hF44 hO44=>?_)
            have hzs44:w41.heap.size≤w44.heap.size:=hC44.size
            have hE44:Chg [g] w w44:=hE41.fresh hC44 (fun c hc=>by have:=hF44 _ hc; omega)
            have hF45:=hs41.chg hC44 (fun c hc=>by have:=hF44 _ hc; omega)
            refine lw_nil (wp_seq (wp_plain _ [0,0] rfl (lw_tvn 2 rfl (wp_ret ?_))))
            obtain ⟨yb,hyb,hyf⟩:=hBv_out hO44
            exact post_ret [4] rfl v2 rfl ⟨v2,yb,n41,rfl,hE44,hF45,⟨by omega,by omega⟩,((hyf.up (good_owS good_rAv)).low (B':=w.heap.size) oM),zq39_0⟩
          ·
            refine q_eql false rfl rfl (decide_eq_false hc40) zN (lw_tvn 1 rfl (c_cond_f rfl (wp_seq (wp_plain _ [0,0] rfl ?_))))
            by_cases hc46:x18_0 = ((3:Nat):Int)
            ·
              refine q_eql true rfl rfl (decide_eq_true hc46) zN (lw_tvn 1 rfl (c_cond_t rfl (wp_plain _ [0,0,0,4,0,0,0,4] rfl (lw_tv 3 rfl (lw_callE 35 [] [] [(.pointer (some ⟨g,0,none⟩)),(.int .i64 ((4:Nat):Int))] rfl rfl cf35 zN (cq_spec_l00Src_pick _ g _ _ _ (((4:Nat):Int)) hs18 oM oM oM) ?_)))))
              rintro e47 w47 ⟨x47_0,n47,rfl,hC47,hs47,hb47,hp47_0⟩
              refine ⟨_,rfl,?_⟩
              have hzs47:w18.heap.size≤w47.heap.size:=hC47.size
              have hE47:Chg [g] w w47:=hE18.trans hC47
              have hF48:=hF19.chg ((good_owS good_hBv)) hC47 (fun c hc=>by have:=List.mem_singleton.1 hc; omega)
              have hpf47:=pk_fact hp47_0
              refine q_add (((1:Nat):Int) + x47_0) rfl rfl (w64 sD sD) zN ?_
              have hbd49:∀ (wq:World),(Instr.build 79 #[(0,(.int .i64 (((1:Nat):Int) + x47_0)))]).run Tryz.prog wq = .ok (.agg #[(.int .i64 (((1:Nat):Int) + x47_0)),(.int .i64 0)]) wq:=by intro wq; kernel_rfl
              refine q_build (ps:=#[(0,(.int .i64 (((1:Nat):Int) + x47_0)))]) (.agg #[(.int .i64 (((1:Nat):Int) + x47_0)),(.int .i64 0)]) zq39_3 (fun wq=>hbd49  wq) zN (q_idx (v:=v2) ((x16_0).toNat) u24 tiS79 rfl rfl hF48.isSlS oM sD zN ?_)
              refine e_setS (v:=v2) (cs:=[(.int .i64 (((1:Nat):Int) + x47_0)),(.int .i64 0)]) (n:=Av.zero) (j:=((x16_0).toNat)) (B':=w2.heap.size) (U':=w2.heap.size) good_hBv agg79 rfl rfl hF48 (hBv_mk (B:=w2.heap.size) (U:=w2.heap.size) oM oM) (Nat.le_refl _) oM sD zN fun w50 F50 hC50 hz50 hF50 hO50=>?_
              have hzs50:w47.heap.size≤w50.heap.size:=hC50.size
              have hE50:Chg [g] w w50:=hE47.fresh hC50 (fun c hc=>by have:=hF50 _ hc; omega)
              have hF51:=hs47.chg hC50 (fun c hc=>by have:=hF50 _ hc; omega)
              refine lw_nil (wp_seq (wp_plain _ [0,0] rfl (lw_tvn 2 rfl (wp_ret ?_))))
              obtain ⟨yb,hyb,hyf⟩:=hBv_out hO50
              exact post_ret [4] rfl v2 rfl ⟨v2,yb,n47,rfl,hE50,hF51,⟨by omega,by omega⟩,((hyf.up (good_owS good_rAv)).low (B':=w.heap.size) oM),zq39_0⟩
            ·
              refine q_eql false rfl rfl (decide_eq_false hc46) zN (lw_tvn 1 rfl (c_cond_f rfl (wp_seq (wp_plain _ [0,0] rfl ?_))))
              by_cases hc52:x18_0 = ((4:Nat):Int)
              ·
                refine q_eql true rfl rfl (decide_eq_true hc52) zN (lw_tvn 1 rfl (c_cond_t rfl (wp_block (c_loop (S:=Nat × Value × List Av) (fun (⟨m,vo,xs⟩:Nat × Value × List Av)=>([(5,vo),(0,(.pointer (some ⟨g,0,none⟩)))]:List (Nat × Value))) (fun (⟨m,vo,xs⟩:Nat × Value × List Av) (W:World)=>Chg [g] w W∧Fr (owS 2 hBv 79) w.heap.size W.heap.size W.heap vo xs∧SrQ W.heap g sv cs m∧xs.length≤401∧(n0≤m∧m≤n0 + 12 + 2 * xs.length)) (fun (⟨m,vo,xs⟩:Nat × Value × List Av)=>402 - xs.length) (n18,v2,(([]:List Av)++l)) ⟨rfl,rfl,trivial⟩ ⟨hE18,hF19.up (good_owS good_hBv),hs18,oM,oM⟩ ?_))))
                clear hE0 hO1 hz1 hX1 hzs1 hE1 hO2 hF2 hC2 hzs2 hE2 hF3 hC13 hzs13 hE13 hF14 hC16 hzs16 hE16 hF17 hC18 hzs18 hE18 hF19
                rintro ⟨m,vo,xs⟩ ρ53 w53 ⟨hE53,hL53_0,hL53_1,hp53_0,hml⟩
                have hzs53:w.heap.size≤w53.heap.size:=hE53.size
                refine wp_seq (wp_seq (wp_plain _ [0,0,0,4,0,0] rfl (lw_tv 1 rfl (q_len (v:=vo) u24 rfl hL53_0.isSlS zN (lw_tv 1 rfl (lw_callE 35 [] [] [(.pointer (some ⟨g,0,none⟩)),(.int .i64 ((2:Nat):Int))] rfl rfl cf35 zN (cq_spec_l00Src_pick _ g _ _ _ (((2:Nat):Int)) hL53_1 oM oM oM) ?_))))))
                rintro e54 w54 ⟨x54_0,n54,rfl,hC54,hs54,hb54,hp54_0⟩
                refine ⟨_,rfl,?_⟩
                have hzs54:w53.heap.size≤w54.heap.size:=hC54.size
                have hE54:Chg [g] w w54:=hE53.trans hC54
                have hF55:=hL53_0.chg ((good_owS good_hBv)) hC54 (fun c hc=>by have:=List.mem_singleton.1 hc; omega)
                have hpf54:=pk_fact hp54_0
                refine q_add (((400:Nat):Int) + x54_0) rfl rfl (w64 sD sD) zN ?_
                by_cases hc56:((xs.length:Nat):Int) < ((400:Nat):Int) + x54_0
                ·
                  refine q_lss true rfl rfl (decide_eq_true hc56) zN (lw_nil (c_cond_t rfl (wp_skip (wp_block (wp_plain _ [0,0,3,4,0] rfl (lw_tv 1 rfl ?_))))))
                  have hbd57:∀ (wq:World),(Instr.build 79 #[(0,(.int .i64 ((2:Nat):Int)))]).run Tryz.prog wq = .ok (.agg #[(.int .i64 ((2:Nat):Int)),(.int .i64 0)]) wq:=by intro wq; kernel_rfl
                  refine q_build (ps:=#[(0,(.int .i64 ((2:Nat):Int)))]) (.agg #[(.int .i64 ((2:Nat):Int)),(.int .i64 0)]) zq39_3 (fun wq=>hbd57  wq) zN (r_oneS (cs:=[(.int .i64 ((2:Nat):Int)),(.int .i64 0)]) (y:=Av.zero) (B:=w54.heap.size) (U:=w54.heap.size) good_hBv u24 tiS79 rfl zq39_4 rfl (hBv_mk oM oM) oM zN fun v58 w58 hX58 hz58 hO58=>?_)
                  have hzs58:w54.heap.size≤w58.heap.size:=hX58.size
                  have hE58:Chg [g] w w58:=hE54.ext hX58
                  have hF55x58:=hF55.ext ((good_owS good_hBv)) hX58
                  have hs54x58:=hs54.ext hX58
                  refine e_appS (v:=vo) (a:=v58) good_hBv u24 tiS79 rfl zq39_4 rfl rfl hF55x58 oM hO58 oM oM oM (by unfold maxLen; omega) zN fun v59 w59 F59 hC59 hF59 hO59=>?_
                  have hzs59:w58.heap.size≤w59.heap.size:=hC59.size
                  have hE59:Chg [g] w w59:=hE58.fresh hC59 (fun c hc=>by have:=hF59 _ hc; omega)
                  have hF60:=hs54x58.chg hC59 (fun c hc=>by have:=hF59 _ hc; omega)
                  exact lw_tvn 1 rfl ⟨(n54,v59,(xs++([Av.zero]))),_,rfl,⟨rfl,rfl,trivial⟩,⟨hE59,hO59.up (good_owS good_hBv),hF60,(by simp only [List.length_append,List.length_singleton]; omega),(by simp only [List.length_append,List.length_singleton]; omega)⟩,by simp only [List.length_append,List.length_singleton]; omega⟩
                ·
                  refine q_lss false rfl rfl (decide_eq_false hc56) zN (lw_nil (c_cond_f rfl (wp_exit (t_exit (t_exit (c_exit_here (wp_seq (wp_plain _ [0,0] rfl (lw_tvn 2 rfl (wp_ret ?_))))))))))
                  obtain ⟨yb,hyb,hyf⟩:=hBv_out hF55
                  exact post_ret [4] rfl vo rfl ⟨vo,yb,n54,rfl,hE54,hs54,⟨by omega,by omega⟩,((hyf.up (good_owS good_rAv)).low (B':=w.heap.size) oM),zq39_0⟩
              ·
                refine q_eql false rfl rfl (decide_eq_false hc52) zN (lw_tvn 1 rfl (c_cond_f rfl (wp_seq (wp_plain _ [0,0] rfl ?_))))
                by_cases hc61:x18_0 = ((5:Nat):Int)
                ·
                  refine q_eql true rfl rfl (decide_eq_true hc61) zN (lw_tvn 1 rfl (c_cond_t rfl (wp_plain _ [0,0,0,0] rfl (lw_tv 2 rfl ?_))))
                  have hlt62:(x16_0).toNat≤(([]:List Av)++l).length:=by omega
                  refine q_pref (v:=v2) (k:=(x16_0).toNat) u24 tiS79 rfl hF19.isSlS (RN.of_frB (S:=[]) hF19 (fun b hb=>by cases hb)).capS (i64_nn oM) hlt62 zN ?_
                  have hO62:=Fr.prefA good_hBv flN_b hF19 hlt62
                  refine lw_tvn 1 rfl (wp_seq (wp_plain _ [0,0] rfl (lw_tvn 2 rfl (wp_ret ?_))))
                  obtain ⟨yb,hyb,hyf⟩:=hBv_out hO62
                  exact post_ret [4] rfl (prefV v2 ((x16_0).toNat)) rfl ⟨(prefV v2 ((x16_0).toNat)),yb,n18,rfl,hE18,hs18,⟨by omega,by omega⟩,((hyf.up (good_owS good_rAv)).low (B':=w.heap.size) oM),zq39_0⟩
                ·
                  refine q_eql false rfl rfl (decide_eq_false hc61) zN (lw_tvn 1 rfl (c_cond_f rfl (wp_skip (wp_seq (wp_plain _ [0,0] rfl (lw_tvn 2 rfl (wp_ret ?_)))))))
                  obtain ⟨yb,hyb,hyf⟩:=hBv_out hF19
                  exact post_ret [4] rfl v2 rfl ⟨v2,yb,n18,rfl,hE18,hs18,⟨by omega,by omega⟩,((hyf.up (good_owS good_rAv)).low (B':=w.heap.size) oM),zq39_0⟩
    ·
      refine c_cond_t (by first | rfl | (show Value.bool _ = _; rw [hb15])) (wp_seq (wp_plain _ [0,0,4,0,0,4,0,3,4,0] rfl (lw_tv 2 rfl (lw_callE 35 [] [] [(.pointer (some ⟨g,0,none⟩)),(.int .i64 ((4:Nat):Int))] rfl rfl cf35 zN (cq_spec_l00Src_pick _ g _ _ _ (((4:Nat):Int)) hs13 oM oM oM) ?_))))
      rintro e63 w63 ⟨x63_0,n63,rfl,hC63,hs63,hb63,hp63_0⟩
      refine ⟨_,rfl,?_⟩
      have hzs63:w13.heap.size≤w63.heap.size:=hC63.size
      have hE63:Chg [g] w w63:=hE13.trans hC63
      have hF64:=hF14.chg ((good_owS good_hBv)) hC63 (fun c hc=>by have:=List.mem_singleton.1 hc; omega)
      have hpf63:=pk_fact hp63_0
      refine q_add (((1:Nat):Int) + x63_0) rfl rfl (w64 sD sD) zN (lw_tv 1 rfl ?_)
      refine lw_callE 35 [] [] [(.pointer (some ⟨g,0,none⟩)),(.int .i64 ((3:Nat):Int))] rfl rfl cf35 zN (cq_spec_l00Src_pick _ g _ _ _ (((3:Nat):Int)) hs63 oM oM oM) ?_
      rintro e65 w65 ⟨x65_0,n65,rfl,hC65,hs65,hb65,hp65_0⟩
      refine ⟨_,rfl,?_⟩
      have hzs65:w63.heap.size≤w65.heap.size:=hC65.size
      have hE65:Chg [g] w w65:=hE63.trans hC65
      have hF66:=hF64.chg ((good_owS good_hBv)) hC65 (fun c hc=>by have:=List.mem_singleton.1 hc; omega)
      have hpf65:=pk_fact hp65_0
      have hbd67:∀ (wq:World),(Instr.build 79 #[(0,(.int .i64 (((1:Nat):Int) + x63_0))),(1,(.int .i64 x65_0))]).run Tryz.prog wq = .ok (.agg #[(.int .i64 (((1:Nat):Int) + x63_0)),(.int .i64 x65_0)]) wq:=by intro wq; kernel_rfl
      refine q_build (ps:=#[(0,(.int .i64 (((1:Nat):Int) + x63_0))),(1,(.int .i64 x65_0))]) (.agg #[(.int .i64 (((1:Nat):Int) + x63_0)),(.int .i64 x65_0)]) zq39_3 (fun wq=>hbd67  wq) zN (r_oneS (cs:=[(.int .i64 (((1:Nat):Int) + x63_0)),(.int .i64 x65_0)]) (y:=Av.zero) (B:=w65.heap.size) (U:=w65.heap.size) good_hBv u24 tiS79 rfl zq39_4 rfl (hBv_mk oM oM) oM zN fun v68 w68 hX68 hz68 hO68=>?_)
      have hzs68:w65.heap.size≤w68.heap.size:=hX68.size
      have hE68:Chg [g] w w68:=hE65.ext hX68
      have hs65x68:=hs65.ext hX68
      have hF66x68:=hF66.ext ((good_owS good_hBv)) hX68
      refine e_appS (v:=v2) (a:=v68) good_hBv u24 tiS79 rfl zq39_4 rfl rfl hF66x68 oM hO68 oM oM oM (by unfold maxLen; omega) zN fun v69 w69 F69 hC69 hF69 hO69=>?_
      have hzs69:w68.heap.size≤w69.heap.size:=hC69.size
      have hE69:Chg [g] w w69:=hE68.fresh hC69 (fun c hc=>by have:=hF69 _ hc; omega)
      have hF70:=hs65x68.chg hC69 (fun c hc=>by have:=hF69 _ hc; omega)
      refine lw_tvn 1 rfl (wp_ret (t_ret ?_))
      obtain ⟨yb,hyb,hyf⟩:=hBv_out hO69
      exact post_ret [4] rfl v69 rfl ⟨v69,yb,n65,rfl,hE69,hF70,⟨by omega,by omega⟩,((hyf.up (good_owS good_rAv)).low (B':=w.heap.size) oM),zq39_0⟩
theorem zq7_0 {p:Prop} (h:p:=by exact lch_mk (by first | exact sch_all (by assumption) oM | assumption) oM hwb oM):p:=h
theorem c_spec_LawChain (w:World) (vc:Value) (cs:List UInt8) (hcs:Rd (rdL rU) w.heap vc cs) (hcs5:cs.length≤5000) :
    Calls Tryz.prog 7 #[vc] w (fun e w'=>∃ (v vw:Value) (l:List Av) (ws:List Int) (k:Int),e = .returned (.tuple #[v,vw,.int .i64 k])∧Ext w w'∧Fr (owS 2 rAv 79) w.heap.size w'.heap.size w'.heap v l∧Fr (owL rI 2) w.heap.size w'.heap.size w'.heap vw ws∧LchD l ws k):=by
  refine calls_mk [vc] 64 Tryz.func7 rfl rfl sM ?_
  have hE0:Ext w w:=Ext.refl w
  have hl_vc:=hcs.lenle
  refine wp_seq (wp_plain _ [0,0,0] rfl (lw_tvn 3 rfl (wp_seq (wp_plain _ [0,3,0] rfl (lw_tv 1 rfl (lw_call 34 [] [] [vc] rfl rfl cf34 zN (cq_spec_l00From _ _ _ (hcs.ext good_u hE0)) ?_))))))
  rintro e1 w1 ⟨gB1,rfl,hX1,hs1,hg1⟩
  refine ⟨_,rfl,hX1,?_⟩
  have hzs1:w.heap.size≤w1.heap.size:=hX1.size
  have hE1:Ext w w1:=hE0.trans hX1
  refine lw_tvn 1 rfl (wp_seq (wp_plain _ [0,4,0] rfl ?_))
  have hgl:=hs1.lt
  refine lw_tv 1 rfl (lw_callE 35 [] [] [(.pointer (some ⟨gB1,0,none⟩)),(.int .i64 ((9:Nat):Int))] rfl rfl cf35 zN (cq_spec_l00Src_pick _ gB1 _ _ _ (((9:Nat):Int)) hs1 oM oM oM) ?_)
  rintro e2 w2 ⟨x2_0,n2,rfl,hC2,hs2,hb2,hp2_0⟩
  refine ⟨_,rfl,?_⟩
  have hzs2:w1.heap.size≤w2.heap.size:=hC2.size
  have hE2:Ext w w2:=hC2.below hE1 (fun c hc=>by have:=List.mem_singleton.1 hc; omega) hE1.size
  have hpf2:=pk_fact hp2_0
  refine lw_tvn 1 rfl (wp_seq (c_cut (S:=Int × Nat) (fun (⟨nn,m3⟩:Int × Nat)=>([(6,(.int .i64 nn)),(5,(.pointer (some ⟨gB1,0,none⟩)))]:List (Nat × Value))) (fun (⟨nn,m3⟩:Int × Nat) (W:World)=>Ext w W∧SrQ W.heap gB1 vc cs m3∧(0≤nn∧nn≤17)∧m3≤10) ?_ ?_))
  ·
    refine wp_seq (wp_plain _ [0,4] rfl (lw_tv 1 rfl (lw_callE 36 [] [] [(.pointer (some ⟨gB1,0,none⟩)),(.int .i64 ((10:Nat):Int))] rfl rfl cf36 zN (cq_spec_l00Src_one _ gB1 _ _ _ (((10:Nat):Int)) hs2 oM oM oM) ?_)))
    rintro e4 w4 ⟨x4_0,n4,rfl,hC4,hs4,hb4,hp4_0⟩
    refine ⟨_,rfl,?_⟩
    have hzs4:w2.heap.size≤w4.heap.size:=hC4.size
    have hE4:Ext w w4:=hC4.below hE2 (fun c hc=>by have:=List.mem_singleton.1 hc; omega) hE2.size
    have hpf4:=pk_one hp4_0 ⟨by decide,by decide⟩
    refine lw_nil ?_
    cases hb5:x4_0
    ·
      exact c_cond_f (by first | rfl | (show Value.bool _ = _; rw [hb5])) (wp_skip ⟨(x2_0,n4),_,rfl,⟨rfl,rfl,trivial⟩,⟨hE4,hs4,oM,oM⟩⟩)
    ·
      refine c_cond_t (by first | rfl | (show Value.bool _ = _; rw [hb5])) (wp_plain _ [0,4,0,0] rfl (lw_tv 1 rfl (lw_callE 35 [] [] [(.pointer (some ⟨gB1,0,none⟩)),(.int .i64 ((8:Nat):Int))] rfl rfl cf35 zN (cq_spec_l00Src_pick _ gB1 _ _ _ (((8:Nat):Int)) hs4 oM oM oM) ?_)))
      rintro e6 w6 ⟨x6_0,n6,rfl,hC6,hs6,hb6,hp6_0⟩
      refine ⟨_,rfl,?_⟩
      have hzs6:w4.heap.size≤w6.heap.size:=hC6.size
      have hE6:Ext w w6:=hC6.below hE4 (fun c hc=>by have:=List.mem_singleton.1 hc; omega) hE4.size
      have hpf6:=pk_fact hp6_0
      refine q_add (((10:Nat):Int) + x6_0) rfl rfl (w64 sD sD) zN (lw_tvn 1 rfl ?_)
      exact ⟨((((10:Nat):Int) + x6_0),n6),_,rfl,⟨rfl,rfl,trivial⟩,⟨hE6,hs6,oM,oM⟩⟩
  ·
    clear hE0 hX1 hzs1 hE1 hC2 hzs2 hE2
    rintro ⟨nn,m3⟩ ρ3 w3 ⟨hE3,hL3_0,hx3,hm3⟩
    have hzs3:w.heap.size≤w3.heap.size:=hE3.size
    have hgl:=hL3_0.lt
    refine wp_seq (wp_plain _ [0,4,0,0] rfl (lw_tv 1 rfl (lw_callE 35 [] [] [(.pointer (some ⟨gB1,0,none⟩)),(.int .i64 ((4:Nat):Int))] rfl rfl cf35 zN (cq_spec_l00Src_pick _ gB1 _ _ _ (((4:Nat):Int)) hL3_0 oM oM oM) ?_)))
    rintro e7 w7 ⟨x7_0,n7,rfl,hC7,hs7,hb7,hp7_0⟩
    refine ⟨_,rfl,?_⟩
    have hzs7:w3.heap.size≤w7.heap.size:=hC7.size
    have hE7:Ext w w7:=hC7.below hE3 (fun c hc=>by have:=List.mem_singleton.1 hc; omega) hE3.size
    have hpf7:=pk_fact hp7_0
    refine q_add (((1:Nat):Int) + x7_0) rfl rfl (w64 sD sD) zN (lw_tvn 1 rfl ?_)
    refine wp_seq (c_cut (S:=Int × Nat) (fun (⟨kk,m6⟩:Int × Nat)=>([(7,(.int .i64 kk)),(5,(.pointer (some ⟨gB1,0,none⟩))),(6,(.int .i64 nn))]:List (Nat × Value))) (fun (⟨kk,m6⟩:Int × Nat) (W:World)=>Ext w W∧SrQ W.heap gB1 vc cs m6∧(0≤kk∧kk≤4)∧m6≤20) ?_ ?_)
    ·
      refine wp_seq (wp_plain _ [0,4] rfl (lw_tv 1 rfl (lw_callE 36 [] [] [(.pointer (some ⟨gB1,0,none⟩)),(.int .i64 ((8:Nat):Int))] rfl rfl cf36 zN (cq_spec_l00Src_one _ gB1 _ _ _ (((8:Nat):Int)) hs7 oM oM oM) ?_)))
      rintro e9 w9 ⟨x9_0,n9,rfl,hC9,hs9,hb9,hp9_0⟩
      refine ⟨_,rfl,?_⟩
      have hzs9:w7.heap.size≤w9.heap.size:=hC9.size
      have hE9:Ext w w9:=hC9.below hE7 (fun c hc=>by have:=List.mem_singleton.1 hc; omega) hE7.size
      have hpf9:=pk_one hp9_0 ⟨by decide,by decide⟩
      refine lw_nil ?_
      cases hb10:x9_0
      ·
        exact c_cond_f (by first | rfl | (show Value.bool _ = _; rw [hb10])) (wp_skip ⟨((((1:Nat):Int) + x7_0),n9),_,rfl,⟨rfl,rfl,rfl,trivial⟩,⟨hE9,hs9,oM,oM⟩⟩)
      ·
        exact c_cond_t (by first | rfl | (show Value.bool _ = _; rw [hb10])) (wp_plain _ [0] rfl (lw_tvn 1 rfl ⟨(((0:Nat):Int),n9),_,rfl,⟨rfl,rfl,rfl,trivial⟩,⟨hE9,hs9,oM,oM⟩⟩))
    ·
      clear hL3_0 hE3 hzs3 hC7 hzs7 hE7
      rintro ⟨kk,m6⟩ ρ8 w8 ⟨hE8,hL8_0,hx6,hm6⟩
      have hzs8:w.heap.size≤w8.heap.size:=hE8.size
      have hgl:=hL8_0.lt
      refine wp_seq (wp_plain _ [3,0] rfl (r_nil (rI) good_rI u25 ti2 zN fun v11 w11 hX11 hz11 hO11=>?_))
      have hzs11:w8.heap.size≤w11.heap.size:=hX11.size
      have hE11:Ext w w11:=hE8.trans hX11
      have hL8_0x11:=hL8_0.ext hX11
      refine lw_tvn 1 rfl (wp_seq (wp_plain _ [0,4,0] rfl (lw_tv 1 rfl (lw_callE 35 [] [] [(.pointer (some ⟨gB1,0,none⟩)),(.int .i64 ((3:Nat):Int))] rfl rfl cf35 zN (cq_spec_l00Src_pick _ gB1 _ _ _ (((3:Nat):Int)) hL8_0x11 oM oM oM) ?_))))
      rintro e12 w12 ⟨x12_0,n12,rfl,hC12,hs12,hb12,hp12_0⟩
      refine ⟨_,rfl,?_⟩
      have hzs12:w11.heap.size≤w12.heap.size:=hC12.size
      have hE12:Ext w w12:=hC12.below hE11 (fun c hc=>by have:=List.mem_singleton.1 hc; omega) hE11.size
      have hF13:=hO11.chg (o1) hC12 (fun c hc=>by have:=List.mem_singleton.1 hc; omega)
      have hpf12:=pk_fact hp12_0
      refine lw_tvn 1 rfl (wp_seq (wp_seq (wp_plain _ [0] rfl (lw_tvn 1 rfl (wp_block ?_)))))
      refine c_loop (S:=Nat × Value × List Int × Nat) (fun (⟨j,vo,ws,m⟩:Nat × Value × List Int × Nat)=>([(8,vo),(10,(.int .i64 ((j:Nat):Int))),(5,(.pointer (some ⟨gB1,0,none⟩))),(6,(.int .i64 nn)),(7,(.int .i64 kk)),(9,(.int .i64 x12_0))]:List (Nat × Value))) (fun (⟨j,vo,ws,m⟩:Nat × Value × List Int × Nat) (W:World)=>Ext w W∧Fr (owL rI 2) w8.heap.size W.heap.size W.heap vo ws∧SrQ W.heap gB1 vc cs m∧((j:Nat):Int)≤nn∧ws.length = j∧(∀ x∈ws,0≤x∧x≤1000)∧m≤40 + 8 * j∧w8.heap.size≤W.heap.size) (fun (⟨j,vo,ws,m⟩:Nat × Value × List Int × Nat)=>nn.toNat - j) (0,v11,([]:List Int),n12) ⟨rfl,rfl,rfl,rfl,rfl,rfl,trivial⟩ ⟨hE12,hF13.up o1,hs12,oM,(by rfl),(by intro x hx; cases hx),oM,oM⟩ ?_
      clear hL8_0 hO11 hz11 hX11 hzs11 hE11 hL8_0x11 hC12 hzs12 hE12 hF13
      rintro ⟨j,vo,ws,m⟩ ρ14 w14 ⟨hE14,hL14_0,hL14_1,hjn,hwl,hwb,hmj,hkB15⟩
      have hzs14:w.heap.size≤w14.heap.size:=hE14.size
      have hgl:=hL14_1.lt
      refine wp_seq (wp_seq (wp_plain _ [0,0,0] rfl (lw_tv 2 rfl ?_)))
      by_cases hc16:((j:Nat):Int) < nn
      ·
        refine q_lss true rfl rfl (decide_eq_true hc16) zN (lw_nil (c_cond_t rfl (wp_skip (wp_seq (wp_block (wp_seq (wp_plain _ [0] rfl (lw_tvn 1 rfl (wp_seq (c_cut (S:=Int × Nat) (fun (⟨x1,m14⟩:Int × Nat)=>([(11,(.int .i64 x1)),(5,(.pointer (some ⟨gB1,0,none⟩))),(6,(.int .i64 nn)),(7,(.int .i64 kk)),(8,vo),(9,(.int .i64 x12_0)),(10,(.int .i64 ((j:Nat):Int)))]:List (Nat × Value))) (fun (⟨x1,m14⟩:Int × Nat) (W:World)=>Ext w W∧SrQ W.heap gB1 vc cs m14∧Fr (owL rI 2) w8.heap.size w14.heap.size W.heap vo ws∧(0≤x1∧x1≤1000)∧m14≤m + 2∧(w8.heap.size≤W.heap.size∧w14.heap.size≤W.heap.size∧gB1 < w8.heap.size)) ?_ ?_))))))))))
        ·
          refine wp_seq (wp_plain _ [0,0] rfl (lw_tv 1 rfl ?_))
          by_cases hc18:x12_0 = ((1:Nat):Int)
          ·
            refine q_eql true rfl rfl (decide_eq_true hc18) zN (lw_nil (c_cond_t rfl (wp_plain _ [0,4,0] rfl (lw_tv 1 rfl (lw_callE 35 [] [] [(.pointer (some ⟨gB1,0,none⟩)),(.int .i64 ((10:Nat):Int))] rfl rfl cf35 zN (cq_spec_l00Src_pick _ gB1 _ _ _ (((10:Nat):Int)) hL14_1 oM oM oM) ?_)))))
            rintro e19 w19 ⟨x19_0,n19,rfl,hC19,hs19,hb19,hp19_0⟩
            refine ⟨_,rfl,?_⟩
            have hzs19:w14.heap.size≤w19.heap.size:=hC19.size
            have hE19:Ext w w19:=hC19.below hE14 (fun c hc=>by have:=List.mem_singleton.1 hc; omega) hE14.size
            have hF20:=hL14_0.chg (o1) hC19 (fun c hc=>by have:=List.mem_singleton.1 hc; omega)
            have hpf19:=pk_fact hp19_0
            exact lw_tvn 1 rfl ⟨(x19_0,n19),_,rfl,⟨rfl,rfl,rfl,rfl,rfl,rfl,rfl,trivial⟩,⟨hE19,hs19,hF20,oM,oM,oM⟩⟩
          ·
            exact q_eql false rfl rfl (decide_eq_false hc18) zN (lw_nil (c_cond_f rfl (wp_skip ⟨(((1:Nat):Int),m),_,rfl,⟨rfl,rfl,rfl,rfl,rfl,rfl,rfl,trivial⟩,⟨hE14,hL14_1,hL14_0,oM,oM,oM⟩⟩)))
        ·
          clear hL14_1 hL14_0
          rintro ⟨x1,m14⟩ ρ17 w17 ⟨hE17,hL17_0,hL17_1,hx14,hm14,hbu14⟩
          have hzs17:w.heap.size≤w17.heap.size:=hE17.size
          have hgl:=hL17_0.lt
          refine wp_seq (c_cut (S:=Int × Nat) (fun (⟨x2,m16⟩:Int × Nat)=>([(11,(.int .i64 x2)),(5,(.pointer (some ⟨gB1,0,none⟩))),(6,(.int .i64 nn)),(7,(.int .i64 kk)),(8,vo),(9,(.int .i64 x12_0)),(10,(.int .i64 ((j:Nat):Int)))]:List (Nat × Value))) (fun (⟨x2,m16⟩:Int × Nat) (W:World)=>Ext w W∧SrQ W.heap gB1 vc cs m16∧Fr (owL rI 2) w8.heap.size w14.heap.size W.heap vo ws∧(0≤x2∧x2≤1000)∧m16≤m + 4∧(w8.heap.size≤W.heap.size∧w14.heap.size≤W.heap.size∧gB1 < w8.heap.size)) ?_ ?_)
          ·
            refine wp_seq (wp_plain _ [0,0] rfl (lw_tv 1 rfl ?_))
            by_cases hc22:x12_0 = ((2:Nat):Int)
            ·
              refine q_eql true rfl rfl (decide_eq_true hc22) zN (lw_nil (c_cond_t rfl (wp_plain _ [0,3,4,0] rfl (lw_tv 1 rfl (r_ints (n:=6) (us:=[((0:Nat):Int),((1:Nat):Int),((3:Nat):Int),((1000:Nat):Int),((100:Nat):Int),((17:Nat):Int)]) u25 ti2 (by simp only [List.map_toArray,List.map_cons,List.map_nil]; rfl) rfl (by decide) (by intro x hx; simp only [List.mem_cons,List.not_mem_nil,or_false] at hx; unfold i64; omega) (bs6 u25 ti2 rfl) zN fun v23 w23 hX23 hz23 hO23=>?_)))))
              have hzs23:w17.heap.size≤w23.heap.size:=hX23.size
              have hE23:Ext w w23:=hE17.trans hX23
              have hL17_0x23:=hL17_0.ext hX23
              have hL17_1x23:=hL17_1.ext (o1) hX23
              refine lw_callE 37 [] [] [(.pointer (some ⟨gB1,0,none⟩)),v23] rfl rfl cf37 zN (cq_spec_l00Src_among _ gB1 _ _ _ v23 _ hL17_0x23 oM (fun w9 h9=>(hO23.chg o1 h9 (fun c hc=>by have:=List.mem_singleton.1 hc; omega)).rd1) (by exact ⟨by decide,by decide⟩)) ?_
              rintro e24 w24 ⟨x24_0,n24,rfl,hC24,hs24,hb24,hp24_0⟩
              refine ⟨_,rfl,?_⟩
              have hzs24:w23.heap.size≤w24.heap.size:=hC24.size
              have hE24:Ext w w24:=hC24.below hE23 (fun c hc=>by have:=List.mem_singleton.1 hc; omega) hE23.size
              have hF25:=hL17_1x23.chg (o1) hC24 (fun c hc=>by have:=List.mem_singleton.1 hc; omega)
              have hmi24:=mem_i6 hp24_0.1
              exact lw_tvn 1 rfl ⟨(x24_0,n24),_,rfl,⟨rfl,rfl,rfl,rfl,rfl,rfl,rfl,trivial⟩,⟨hE24,hs24,hF25,oM,oM,oM⟩⟩
            ·
              exact q_eql false rfl rfl (decide_eq_false hc22) zN (lw_nil (c_cond_f rfl (wp_skip ⟨(x1,m14),_,rfl,⟨rfl,rfl,rfl,rfl,rfl,rfl,rfl,trivial⟩,⟨hE17,hL17_0,hL17_1,oM,oM,oM⟩⟩)))
          ·
            clear hL17_1 hL17_0 hE17 hzs17
            rintro ⟨x2,m16⟩ ρ21 w21 ⟨hE21,hL21_0,hL21_1,hx16,hm16,hbu16⟩
            have hzs21:w.heap.size≤w21.heap.size:=hE21.size
            have hgl:=hL21_0.lt
            refine wp_plain _ [0,0,3,4,0] rfl (lw_tv 2 rfl (r_one (u:=(.int .i64 x2)) (B:=w21.heap.size) good_rI u25 ti2 rfl rfl (frI w21.heap.size w21.heap.size _ _ oM) (Nat.le_refl _) zN fun v27 w27 hX27 hz27 hO27=>?_))
            have hzs27:w21.heap.size≤w27.heap.size:=hX27.size
            have hE27:Ext w w27:=hE21.trans hX27
            have hL21_0x27:=hL21_0.ext hX27
            have hL21_1x27:=hL21_1.ext (o1) hX27
            refine e_appI (v:=vo) (a:=v27) u25 ti2 rfl rfl rfl hL21_1x27 oM hO27.rd1 sD (by unfold maxLen; first | omega | assumption | (simp only [List.length_nil,List.length_cons,List.length_append,List.length_set,List.length_replicate]; omega) | (simp [List.length_nil,List.length_cons,List.length_append,List.length_set,List.length_replicate]; done) | (simp [List.length_nil,List.length_cons,List.length_append,List.length_set,List.length_replicate]; omega)) zN fun v28 w28 F28 hC28 hF28 hO28=>?_
            have hE28:Ext w w28:=hC28.below hE27 (fun c hc=>Nat.le_trans hE8.size (hF28 c hc).1) hE27.size
            have hzs28:w27.heap.size≤w28.heap.size:=hC28.size
            have hF29:=hL21_0x27.chg hC28 (fun c hc=>by have:=hF28 c hc; omega)
            exact lw_tvn 1 rfl (wp_plain _ [0,0,0] rfl (lw_tv 1 rfl (q_add ((j + 1:Nat):Int) rfl rfl (w64n oM oM) zN (lw_tvn 1 rfl ⟨((j + 1),v28,(ws++[x2]),m16),_,rfl,⟨rfl,rfl,rfl,rfl,rfl,rfl,trivial⟩,⟨hE28,hO28.up o1,hF29,oM,(by rw [List.length_append,hwl]; rfl),(by exact all_snoc hwb oM),oM,oM⟩,by first | omega | (dsimp only; omega)⟩))))
      ·
        refine q_lss false rfl rfl (decide_eq_false hc16) zN (lw_nil (c_cond_f rfl (wp_exit (t_exit (t_exit (c_exit_here (wp_seq (wp_plain _ [0,0,0,4,0] rfl ?_))))))))
        generalize hg_nq:nn = nqI at *
        obtain ⟨nq,rfl⟩:∃ n:Nat,nqI = ((n:Nat):Int):=⟨nqI.toNat,by omega⟩
        generalize hg_kq:kk = kqI at *
        obtain ⟨kq,rfl⟩:∃ n:Nat,kqI = ((n:Nat):Int):=⟨kqI.toNat,by omega⟩
        refine lw_tv 3 rfl (lw_callE 38 [] [] [(.pointer (some ⟨gB1,0,none⟩)),(.int .i64 ((nq:Nat):Int)),(.int .i64 ((kq:Nat):Int))] rfl rfl cf38 zN (c_spec_l06DrawList _ gB1 _ _ _ nq kq hL14_1 oM oM oM oM (by exact hcs5)) ?_)
        rintro e31 w31 ⟨v31_0,x31_0,n31,rfl,hC31,hs31,hb31,hO31_0,hp31_0⟩
        refine ⟨_,rfl,?_⟩
        have hzs31:w14.heap.size≤w31.heap.size:=hC31.size
        have hE31:Ext w w31:=hC31.below hE14 (fun c hc=>by have:=List.mem_singleton.1 hc; omega) hE14.size
        have hF32:=hL14_0.chg (o1) hC31 (fun c hc=>by have:=List.mem_singleton.1 hc; omega)
        obtain ⟨hal31,hll31⟩:=hp31_0
        refine lw_tvn 1 rfl (wp_seq (wp_seq (wp_plain _ [0,4] rfl (lw_tv 1 rfl (lw_callE 36 [] [] [(.pointer (some ⟨gB1,0,none⟩)),(.int .i64 ((6:Nat):Int))] rfl rfl cf36 zN (cq_spec_l00Src_one _ gB1 _ _ _ (((6:Nat):Int)) hs31 oM oM oM) ?_)))))
        rintro e33 w33 ⟨x33_0,n33,rfl,hC33,hs33,hb33,hp33_0⟩
        refine ⟨_,rfl,?_⟩
        have hzs33:w31.heap.size≤w33.heap.size:=hC33.size
        have hE33:Ext w w33:=hC33.below hE31 (fun c hc=>by have:=List.mem_singleton.1 hc; omega) hE31.size
        have hF34:=hF32.chg (o1) hC33 (fun c hc=>by have:=List.mem_singleton.1 hc; omega)
        have hF35:=hO31_0.chg ((good_owS good_rAv)) hC33 (fun c hc=>by have:=List.mem_singleton.1 hc; omega)
        refine lw_nil ?_
        cases hb36:x33_0
        ·
          exact c_cond_f (by first | rfl | (show Value.bool _ = _; rw [hb36])) (wp_skip (wp_seq (wp_plain _ [0,0,0,0,0,0] rfl (lw_tvn 6 rfl (wp_ret (post_ret [2,3,4] rfl (.tuple #[v31_0,vo,(.int .i64 ((kq:Nat):Int))]) rfl ⟨v31_0,vo,x31_0,ws,((kq:Nat):Int),rfl,hE33,((hF35.up (good_owS good_rAv)).low (B':=w.heap.size) oM),((hF34.up o1).low (B':=w.heap.size) oM),zq7_0⟩))))))
        ·
          refine c_cond_t (by first | rfl | (show Value.bool _ = _; rw [hb36])) (wp_seq (wp_plain _ [0,0,4,0] rfl (lw_tv 2 rfl (lw_callE 39 [] [] [(.pointer (some ⟨gB1,0,none⟩)),v31_0] rfl rfl cf39 zN (c_spec_l06SpoilList _ gB1 _ _ _ v31_0 x31_0 hs33 oM (RN.of_frA (S:=[gB1]) hF35 (fun b hb=>by have:=List.mem_singleton.1 hb; omega)) oM) ?_))))
          rintro e37 w37 ⟨v37_0,x37_0,n37,rfl,hC37,hs37,hb37,hO37_0,hp37_0⟩
          refine ⟨_,rfl,?_⟩
          have hzs37:w33.heap.size≤w37.heap.size:=hC37.size
          have hE37:Ext w w37:=hC37.below hE33 (fun c hc=>by have:=List.mem_singleton.1 hc; omega) hE33.size
          have hF38:=hF34.chg (o1) hC37 (fun c hc=>by have:=List.mem_singleton.1 hc; omega)
          have hF39:=hF35.chg ((good_owS good_rAv)) hC37 (fun c hc=>by have:=List.mem_singleton.1 hc; omega)
          refine lw_tvn 1 rfl (wp_seq (wp_plain _ [0,3] rfl (lw_tv 1 rfl (lw_call 40 [] [] [v37_0] rfl rfl cf40 zN (c_spec_l06Schedule _ v37_0 x37_0 (RN.of_frA (S:=[]) hO37_0 (fun b hb=>by cases hb)) oM) ?_))))
          rintro e40 w40 ⟨rfl,hX40⟩
          refine ⟨_,rfl,hX40,?_⟩
          have hzs40:w37.heap.size≤w40.heap.size:=hX40.size
          have hE40:Ext w w40:=hE37.trans hX40
          have hF38x40:=hF38.ext (o1) hX40
          have hs37x40:=hs37.ext hX40
          have hF39x40:=hF39.ext ((good_owS good_rAv)) hX40
          have hO37_0x40:=hO37_0.ext ((good_owS good_rAv)) hX40
          refine lw_nil ?_
          cases hb41:(schB x37_0)
          ·
            exact c_cond_f (by first | rfl | (show Value.bool _ = _; rw [hb41])) (wp_skip (wp_seq (wp_plain _ [0,0,0,0,0,0] rfl (lw_tvn 6 rfl (wp_ret (post_ret [2,3,4] rfl (.tuple #[v31_0,vo,(.int .i64 ((kq:Nat):Int))]) rfl ⟨v31_0,vo,x31_0,ws,((kq:Nat):Int),rfl,hE40,((hF39x40.up (good_owS good_rAv)).low (B':=w.heap.size) oM),((hF38x40.up o1).low (B':=w.heap.size) oM),zq7_0⟩))))))
          ·
            exact c_cond_t (by first | rfl | (show Value.bool _ = _; rw [hb41])) (wp_plain _ [0,0] rfl (lw_tvn 2 rfl (wp_seq (wp_plain _ [0,0,0,0,0,0] rfl (lw_tvn 6 rfl (wp_ret (post_ret [2,3,4] rfl (.tuple #[v37_0,vo,(.int .i64 ((kq:Nat):Int))]) rfl ⟨v37_0,vo,x37_0,ws,((kq:Nat):Int),rfl,hE40,((hO37_0x40.up (good_owS good_rAv)).low (B':=w.heap.size) oM),((hF38x40.up o1).low (B':=w.heap.size) oM),zq7_0⟩)))))))
end Go.Proofs.YtlbefjfhfodnlaaGreatDoor
namespace Go.Proofs.YtlbefjfhfodnlaaGreatDoor
open Go Go.RowKit
set_option linter.unusedVariables false
set_option linter.unusedSimpArgs false
set_option maxHeartbeats 4000000
set_option maxRecDepth 100000
attribute [local irreducible] LW
theorem c_impl_areSteps (w:World) (k:Int) (_hk:-9223372036854775808≤k∧k≤9223372036854775807)  :
    Calls Tryz.prog 105 #[.int .i64 k] w (fun e w'=>e = .returned (.bool (decide (0≤k) && decide (k≤40)))∧Ext w w'):=by
  refine calls_mk [.int .i64 k] 5 Tryz.func105 rfl rfl sM ?_
  have hE0:Ext w w:=Ext.refl w
  exact wp_seq (wp_plain _ [0] rfl (lw_tvn 1 rfl (wp_seq (wp_plain _ [0,0,0] rfl (lw_tv 1 rfl (lw_callq 93 [] [] [(.int .i64 k),(.int .i64 ((0:Nat):Int)),(.int .i64 ((40:Nat):Int))] rfl rfl cf93 zN (.bool (decide (((0:Nat):Int)≤k) && decide (k≤((40:Nat):Int)))) (fun wq=>c_impl_within wq _ _ _ _hk oM oM) (lw_tvn 1 rfl (wp_ret (post_ret [2] rfl (.bool (decide (((0:Nat):Int)≤k) && decide (k≤((40:Nat):Int)))) rfl ⟨rfl,hE0⟩)))))))))
theorem z57_0 {p:Prop} (h:p:=by first | (have h8:(!schB l) = true:=(by assumption); exact (plC_1 (by simpa using h8)).symm) | (have h8:(!schB l) = false:=(by assumption); have h7:schB l = true:=(by simpa using h8); first | exact (plC_2 h7 (fun h9=>by simp_all; done)).symm | exact (plC_2 h7 (fun h9=>by simp_all; omega)).symm | exact (plC_0 h7 (by simp_all; done)).symm | exact (plC_0 h7 (by simp_all; omega)).symm)):p:=h
theorem c_impl_isPlan (w:World) (va:Value) (l:List Av) (n:Int) (k:Int) (hl:RN [] (rdS 2 rAv) w.heap va l) (_hn:-9223372036854775808≤n∧n≤9223372036854775807) (_hk:-9223372036854775808≤k∧k≤9223372036854775807) (hll:l.length≤1000000000) :
    Calls Tryz.prog 57 #[va,.int .i64 n,.int .i64 k] w (fun e w'=>e = .returned (.int .i64 (plC l n k))∧Ext w w'):=by
  refine calls_mk [va,.int .i64 n,.int .i64 k] 20 Tryz.func57 rfl rfl sM ?_
  have hE0:Ext w w:=Ext.refl w
  refine wp_seq (wp_plain _ [0] rfl (lw_tvn 1 rfl (wp_seq (wp_block (wp_seq (wp_plain _ [0,3,0,0] rfl (lw_tv 1 rfl (lw_call 14 [] [] [va] rfl rfl cf14 zN (c_impl_ValidSchedule _ va l (hl.ext (good_rdS good_rAv) hE0)) ?_))))))))
  rintro e1 w1 ⟨rfl,hX1⟩
  refine ⟨_,rfl,hX1,?_⟩
  have hzs1:w.heap.size≤w1.heap.size:=hX1.size
  have hE1:Ext w w1:=hE0.trans hX1
  refine q_not (!(schB l)) rfl rfl zN (lw_tvn 1 rfl ?_)
  cases hb2:(!(schB l))
  ·
    refine c_cond_f (by first | rfl | (show Value.bool _ = _; rw [hb2])) (wp_seq (wp_plain _ [0,3,0,0,0,3,0,0,0] rfl (lw_tv 1 rfl (lw_call 105 [] [] [(.int .i64 n)] rfl rfl cf105 zN (c_impl_areSteps _ _ _hn) ?_))))
    rintro e3 w3 ⟨rfl,hX3⟩
    refine ⟨_,rfl,hX3,?_⟩
    have hzs3:w1.heap.size≤w3.heap.size:=hX3.size
    have hE3:Ext w w3:=hE1.trans hX3
    refine q_not (!(decide (0≤n) && decide (n≤40))) rfl rfl zN (lw_tv 1 rfl ?_)
    cases hb4:(!(decide (0≤n) && decide (n≤40)))
    ·
      refine lw_tv 1 rfl (lw_call 42 [] [] [(.int .i64 k)] rfl rfl cf42 (zS (e:=15) rfl rfl rfl) (c_impl_areSlots _ _ _hk) ?_)
      rintro e5 w5 ⟨rfl,hX5⟩
      refine ⟨_,rfl,hX5,?_⟩
      have hzs5:w3.heap.size≤w5.heap.size:=hX5.size
      have hE5:Ext w w5:=hE3.trans hX5
      refine q_not (!(decide (0≤k) && decide (k≤8))) rfl rfl (zS (e:=15) rfl rfl rfl) (lw_tvn 2 rfl ?_)
      cases hb6:(!(decide (0≤k) && decide (k≤8)))
      ·
        exact c_cond_f (by first | rfl | (show Value.bool _ = _; rw [hb6])) (wp_skip (wp_seq (wp_plain _ [0] rfl (lw_tvn 1 rfl (wp_ret (post_ret [6] rfl (.int .i64 ((0:Nat):Int)) rfl ⟨(ret_int z57_0),hE5⟩))))))
      ·
        exact c_cond_t (by first | rfl | (show Value.bool _ = _; rw [hb6])) (wp_seq (wp_plain _ [0] rfl (lw_tvn 1 rfl (wp_ret (b_ret (t_ret (post_ret [6] rfl (.int .i64 ((2:Nat):Int)) rfl ⟨(ret_int z57_0),hE5⟩)))))))
    ·
      exact lw_tvn 5 rfl (c_cond_t rfl (wp_seq (wp_plain _ [0] rfl (lw_tvn 1 rfl (wp_ret (b_ret (t_ret (post_ret [6] rfl (.int .i64 ((2:Nat):Int)) rfl ⟨(ret_int z57_0),hE3⟩))))))))
  ·
    exact c_cond_t (by first | rfl | (show Value.bool _ = _; rw [hb2])) (wp_seq (wp_plain _ [0] rfl (lw_tvn 1 rfl (wp_ret (b_ret (t_ret (post_ret [6] rfl (.int .i64 ((1:Nat):Int)) rfl ⟨(ret_int z57_0),hE1⟩)))))))
theorem z13_0 {p:Prop} (h:p:=by first | exact (decide_eq_true (leq_done hq oM oM)).symm | exact (decide_eq_false (av_ne (k:=k) (by assumption))).symm):p:=h
theorem c_laws_f6actions (w:World) (va:Value) (a:List Av) (vb:Value) (b:List Av) (ha:RN [] (rdS 2 rAv) w.heap va a) (hb:RN [] (rdS 2 rAv) w.heap vb b) (hla:a.length≤1000000000) (hlb:b.length≤1000000000) :
    Calls Tryz.prog 13 #[va,vb] w (fun e w'=>e = .returned (.bool (decide (a = b)))∧Ext w w'):=by
  refine calls_mk [va,vb] 26 Tryz.func13 rfl rfl sM ?_
  have hE0:Ext w w:=Ext.refl w
  refine wp_seq (wp_plain _ [0] rfl (lw_tvn 1 rfl (wp_seq (wp_seq (wp_plain _ [0,0,0,0,0] rfl (lw_tv 1 rfl (q_len (v:=va) u24 rfl ha.isSl zN (lw_tv 1 rfl (q_len (v:=vb) u24 rfl hb.isSl zN ?_)))))))))
  by_cases hc1:((a.length:Nat):Int)≠((b.length:Nat):Int)
  ·
    exact q_neq true rfl rfl (decide_eq_true hc1) zN (lw_nil (c_cond_t rfl (wp_seq (wp_plain _ [0] rfl (lw_tvn 1 rfl (wp_ret (t_ret (post_ret [4] rfl (.bool false) rfl ⟨(ret_bool (decide_eq_false (leq_len oM)).symm),hE0⟩))))))))
  ·
    refine q_neq false rfl rfl (decide_eq_false hc1) zN (lw_nil (c_cond_f rfl (wp_skip (wp_seq (wp_seq (wp_plain _ [0] rfl (lw_tvn 1 rfl (wp_block ?_))))))))
    refine c_loop (S:=Nat) (fun (k:Nat)=>([(5,(.int .i64 ((k:Nat):Int))),(0,va),(1,vb)]:List (Nat × Value))) (fun (k:Nat) (W:World)=>Ext w W∧k≤a.length∧(∀ j,j < k→a.getD j Av.zero = b.getD j Av.zero)) (fun (k:Nat)=>a.length - k) 0 ⟨rfl,rfl,rfl,trivial⟩ ⟨hE0,sD,(by intro j hj; omega)⟩ ?_
    clear hE0
    rintro k ρ2 w2 ⟨hE2,hp2_0,hq⟩
    have hzs2:w.heap.size≤w2.heap.size:=hE2.size
    refine wp_seq (wp_seq (wp_plain _ [0,0,0,0] rfl (lw_tv 2 rfl (q_len (v:=va) u24 rfl ha.isSl zN ?_))))
    by_cases hc3:((k:Nat):Int) < ((a.length:Nat):Int)
    ·
      refine q_lss true rfl rfl (decide_eq_true hc3) zN (lw_nil (c_cond_t rfl (wp_skip (wp_seq (wp_block (wp_seq (wp_draw _ [0,0,0,1,0,0,0,1,0] mixed (by kernel_rfl) (lw_tv 2 rfl (q_idx (v:=va) k u24 tiS79 rfl rfl ha.isSl rfl sD zN ?_)))))))))
      obtain ⟨cs4,hr4,hl4⟩:=ha.get good_rAv Av.zero (k:=k) sD
      obtain ⟨rfl,hx4⟩:=rn_av hr4
      refine q_loadA (p:=eptr va k 2) (.inl rfl) [(.int .i64 ((a.getD k Av.zero).kind)),(.int .i64 ((a.getD k Av.zero).arg))] agg79 rfl (fun wq9 hw9=>hl4 wq9 (Chg.of_ext [] (hE2.drew.trans hw9))) rfl zN (lw_tv 2 rfl (q_idx (v:=vb) k u24 tiS79 rfl rfl hb.isSl rfl sD zN ?_))
      obtain ⟨cs5,hr5,hl5⟩:=hb.get good_rAv Av.zero (k:=k) sD
      obtain ⟨rfl,hx5⟩:=rn_av hr5
      refine q_loadA (p:=eptr vb k 2) (.inl rfl) [(.int .i64 ((b.getD k Av.zero).kind)),(.int .i64 ((b.getD k Av.zero).arg))] agg79 rfl (fun wq9 hw9=>hl5 wq9 (Chg.of_ext [] (hE2.drew.trans hw9))) rfl zN ?_
      by_cases hc6:([(a.getD k Av.zero).kind,(a.getD k Av.zero).arg]:List Int) = [(b.getD k Av.zero).kind,(b.getD k Av.zero).arg]
      ·
        refine q_neqA (us:=[(a.getD k Av.zero).kind,(a.getD k Av.zero).arg]) (vs:=[(b.getD k Av.zero).kind,(b.getD k Av.zero).arg]) false (by kernel_rfl) rfl rfl rfl rfl rfl (by rw [decide_eq_true hc6]; rfl) zN (lw_nil (c_cond_f rfl (wp_skip (wp_plain _ [0,0,0] rfl (lw_tv 1 rfl (q_add ((k + 1:Nat):Int) rfl rfl (w64n oM oM) zN (lw_tvn 1 rfl ?_)))))))
        exact ⟨(k + 1),_,rfl,⟨rfl,rfl,rfl,trivial⟩,⟨hE2.drew,sD,(by exact av_next hq (by assumption))⟩,by first | omega | (dsimp only; omega)⟩
      ·
        exact q_neqA (us:=[(a.getD k Av.zero).kind,(a.getD k Av.zero).arg]) (vs:=[(b.getD k Av.zero).kind,(b.getD k Av.zero).arg]) true (by kernel_rfl) rfl rfl rfl rfl rfl (by rw [decide_eq_false hc6]; rfl) zN (lw_nil (c_cond_t rfl (wp_seq (wp_plain _ [0] rfl (lw_tvn 1 rfl (wp_ret (b_ret (t_ret (t_ret (b_ret (t_ret (post_ret [4] rfl (.bool false) rfl ⟨(ret_bool z13_0),hE2.drew⟩))))))))))))
    ·
      exact q_lss false rfl rfl (decide_eq_false hc3) zN (lw_nil (c_cond_f rfl (wp_exit (t_exit (t_exit (c_exit_here (wp_seq (wp_plain _ [0] rfl (lw_tvn 1 rfl (wp_ret (post_ret [4] rfl (.bool true) rfl ⟨(ret_bool z13_0),hE2⟩)))))))))))
end Go.Proofs.YtlbefjfhfodnlaaGreatDoor
namespace Go.Proofs.YtlbefjfhfodnlaaGreatDoor
open Go Go.RowKit
set_option linter.unusedVariables false
set_option linter.unusedSimpArgs false
set_option maxHeartbeats 4000000
set_option maxRecDepth 100000
attribute [local irreducible] LW
theorem z62G_0 {p:Prop} (h:p:=by first | (rw [decB_lo oM]; exact dig_eq hk.1 oM) | (rw [dig_eqm hk.1,decB_hi (n:=n.toNat) oM,show (n / 10).toNat = n.toNat / 10 from by omega])):p:=h
theorem c_spec_DecimalG (w:World) (n:Int) (_hn:-9223372036854775808≤n∧n≤9223372036854775807) (hk:0≤n∧n≤9000000000000000) (IH:∀ (m:Int),0≤m→m < n→∀ w1:World,Calls Tryz.prog 62 #[.int .i64 m] w1 fun e w'=>∃ s,e = .returned (.string s)∧Ext w1 w'∧s = decB (m).toNat) :
    Calls Tryz.prog 62 #[.int .i64 n] w (fun e w'=>∃ s,e = .returned (.string s)∧Ext w w'∧s = decB (n).toNat):=by
  refine calls_mk [.int .i64 n] 20 Tryz.func62 rfl rfl sM ?_
  have hE0:Ext w w:=Ext.refl w
  have htm:0≤n.tmod ((10:Nat):Int)∧n.tmod ((10:Nat):Int) < 10:=⟨Int.tmod_nonneg _ oM,Int.tmod_lt_of_pos _ oM⟩
  refine wp_seq (wp_plain _ [0] rfl (lw_tvn 1 rfl (wp_seq (wp_seq (wp_plain _ [0,0] rfl (lw_tv 1 rfl ?_))))))
  by_cases hc1:n < ((10:Nat):Int)
  ·
    refine q_lss true rfl rfl (decide_eq_true hc1) zN (lw_nil (c_cond_t rfl (wp_seq (wp_plain _ [0,0,0,3,2,0] rfl (lw_tv 1 rfl ?_)))))
    refine q_add (((48:Nat):Int) + n) rfl rfl (w64 sD sD) zN (q_conv (IntKind.u8.wrap (((48:Nat):Int) + n)) u2 u5 rfl rfl zN ?_)
    refine r_one (u:=(.int .u8 (IntKind.u8.wrap (((48:Nat):Int) + n)))) (B:=w.heap.size) good_rV u22 ti5 rfl rfl (frV (w.heap.size) (w.heap.size) _ ⟨rfl,rfl⟩) (Nat.le_refl _) zN fun v2 w2 hX2 hz2 hO2=>?_
    have hzs2:w.heap.size≤w2.heap.size:=hX2.size
    have hE2:Ext w w2:=hE0.trans hX2
    exact q_byteE u22 u5 u9 rfl hO2 zN (lw_tvn 1 rfl (wp_ret (t_ret (post_ret [2] rfl (.string (⟨#[UInt8.ofNat (IntKind.u8.wrap (((48:Nat):Int) + n)).toNat]⟩:ByteArray)) rfl ⟨(⟨#[UInt8.ofNat (IntKind.u8.wrap (((48:Nat):Int) + n)).toNat]⟩:ByteArray),rfl,hE2,z62G_0⟩))))
  ·
    refine q_lss false rfl rfl (decide_eq_false hc1) zN (lw_nil (c_cond_f rfl (wp_skip (wp_seq (wp_drawV _ [0,0,5,0,0,0,0,5,5,0,0] mixed (by kernel_rfl) (RsL [(2,fun _=>sF (decB (n / 10).toNat)),(7,fun _=>lF (owL rV 5) [.int .u8 (IntKind.u8.wrap (((48:Nat):Int) + n.tmod ((10:Nat):Int)))]),(8,fun _=>sF (⟨#[UInt8.ofNat (IntKind.u8.wrap (((48:Nat):Int) + n.tmod ((10:Nat):Int))).toNat]⟩:ByteArray))]) (stb_cons (fun _ _ _ _ _ _ _ h=>h) (fun _ _ _ _ _ _ _ h=>h) (stb_cons (fun _=>lF_st oV) (fun _ _ _ _ _ _ _ h=>h) (stb_cons (fun _ _ _ _ _ _ _ h=>h) (fun _ _ _ _ _ _ _ h=>h) stb_nil))) (LV.j (by decide) (lw_tvn 1 rfl (LV.j (by decide) (q_quo (n / 10) rfl rfl (by decide) (by rw [Int.tdiv_eq_ediv_of_nonneg oM,w64 oM oM]) zN (lw_nil ?_))))))))))
    refine LV.r zN rfl (fun wa4 hWa4 hDa4=>?_) (fun v4 lo4 hi4 w4 hX4 ha4 hb4 hc4 hD4 hR4=>?_)
    ·
      replace hWa4:=hWa4.of_drew
      have hzsa4:w.heap.size≤wa4.heap.size:=hWa4.size
      have hEa4:Ext w wa4:=hE0.trans hWa4
      have hcl5:=IH (n / 10) oM oM wa4
      refine lw_call 62 [] [] [(.int .i64 (n / 10))] rfl rfl cf62 zN hcl5 ?_
      rintro e5 w5 ⟨_,rfl,hX5,rfl⟩
      refine ⟨_,rfl,hX5,?_⟩
      have hzs5:wa4.heap.size≤w5.heap.size:=hX5.size
      have hE5:Ext w w5:=hEa4.trans hX5
      exact lw_nil ⟨_,rfl,rfl⟩
    replace hX4:=hX4.of_drew
    have hzs4:w.heap.size≤w4.heap.size:=hX4.size
    have hE4:Ext w w4:=hE0.trans hX4
    have hzl4:w.heap.size≤lo4:=ha4
    obtain rfl:v4 = .string (decB (n / 10).toNat):=hR4
    refine LV.j (by decide) (lw_tvn 1 rfl (LV.j (by decide) (q_rem (n.tmod ((10:Nat):Int)) rfl rfl (by decide) rfl zN (lw_nil (LV.j (by decide) (q_add (((48:Nat):Int) + n.tmod ((10:Nat):Int)) rfl rfl (w64 oM oM) zN (lw_nil (LV.j (by decide) (q_conv (IntKind.u8.wrap (((48:Nat):Int) + n.tmod ((10:Nat):Int))) u2 u5 rfl rfl zN (lw_nil (LV.r zN rfl (fun wa6 hWa6 hDa6=>?_) (fun v6 lo6 hi6 w6 hX6 ha6 hb6 hc6 hD6 hR6=>?_))))))))))))
    ·
      replace hWa6:=hWa6.of_drew
      have hzsa6:w.heap.size≤wa6.heap.size:=hWa6.size
      have hEa6:Ext w wa6:=hE0.trans hWa6
      refine r_one (u:=(.int .u8 (IntKind.u8.wrap (((48:Nat):Int) + n.tmod ((10:Nat):Int))))) (B:=wa6.heap.size) good_rV u22 ti5 rfl rfl (frV (wa6.heap.size) (wa6.heap.size) _ ⟨rfl,rfl⟩) (Nat.le_refl _) zN fun v7 w7 hX7 hz7 hO7=>?_
      have hzs7:wa6.heap.size≤w7.heap.size:=hX7.size
      have hE7:Ext w w7:=hEa6.trans hX7
      exact lw_nil ⟨_,rfl,hO7⟩
    have hzs6:w4.heap.size≤w6.heap.size:=hX6.size
    have hE6:Ext w w6:=hE4.trans hX6
    have hzl6:w.heap.size≤lo6:=ha6
    have hq6_4:hi4≤lo6∨hi6≤lo4:=hD6 (2,_,lo4,hi4) (.head _)
    have hO6:Fr (owL rV 5) lo6 hi6 w6.heap v6 [.int .u8 (IntKind.u8.wrap (((48:Nat):Int) + n.tmod ((10:Nat):Int)))]:=hR6
    refine LV.r zN rfl (fun wa8 hWa8 hDa8=>?_) (fun v8 lo8 hi8 w8 hX8 ha8 hb8 hc8 hD8 hR8=>?_)
    ·
      replace hWa8:=hWa8.of_drew
      have hzsa8:w.heap.size≤wa8.heap.size:=hWa8.size
      have hEa8:Ext w wa8:=hE0.trans hWa8
      have hd8_6z:=hDa8.1 (by kernel_rfl)
      have hd8_6u:hi6≤wa8.heap.size:=hd8_6z.1
      have hd8_6:Fr (owL rV 5) lo6 hi6 wa8.heap v6 [.int .u8 (IntKind.u8.wrap (((48:Nat):Int) + n.tmod ((10:Nat):Int)))]:=hd8_6z.2
      exact q_byteE3 u22 u5 u9 rfl hd8_6 zN (lw_nil ⟨_,rfl,rfl⟩)
    have hzs8:w6.heap.size≤w8.heap.size:=hX8.size
    have hE8:Ext w w8:=hE6.trans hX8
    have hzl8:w.heap.size≤lo8:=ha8
    have hq8_6:hi6≤lo8∨hi8≤lo6:=hD8 (7,_,lo6,hi6) (.head _)
    have hq8_4:hi4≤lo8∨hi8≤lo4:=hD8 (2,_,lo4,hi4) (.tail _ (.head _))
    obtain rfl:v8 = .string (⟨#[UInt8.ofNat (IntKind.u8.wrap (((48:Nat):Int) + n.tmod ((10:Nat):Int))).toNat]⟩:ByteArray):=hR8
    exact LV.j (by decide) (q_adds (a:=decB (n / 10).toNat) (b:=(⟨#[UInt8.ofNat (IntKind.u8.wrap (((48:Nat):Int) + n.tmod ((10:Nat):Int))).toNat]⟩:ByteArray)) rfl rfl (by have h9:=decB_sz (n / 10).toNat; show (decB (n / 10).toNat).size + 1≤9223372036854775807; omega) zN (lw_nil (LV.j (by decide) (lw_tvn 1 rfl (LV.nil (wp_ret (post_ret [2] rfl (.string (decB (n / 10).toNat++(⟨#[UInt8.ofNat (IntKind.u8.wrap (((48:Nat):Int) + n.tmod ((10:Nat):Int))).toNat]⟩:ByteArray))) rfl ⟨(decB (n / 10).toNat++(⟨#[UInt8.ofNat (IntKind.u8.wrap (((48:Nat):Int) + n.tmod ((10:Nat):Int))).toNat]⟩:ByteArray)),rfl,hE8,z62G_0⟩)))))))
theorem c_DecimalA (w:World) (n:Int) (h0:0≤n) (h1:n≤9000000000000000):Calls Tryz.prog 62 #[.int .i64 n] w fun e w'=>∃ s,e = .returned (.string s)∧Ext w w'∧s = decB (n).toNat:=by
  have H:∀ k:Nat,∀ n:Int,0≤n→n≤9000000000000000→n.toNat < k→∀ w:World,Calls Tryz.prog 62 #[.int .i64 n] w fun e w'=>∃ s,e = .returned (.string s)∧Ext w w'∧s = decB (n).toNat:=by
    intro k
    induction k with
    | zero=>intro n _ _ h; omega
    | succ k ih=>intro n a1 a2 a3 w; exact c_spec_DecimalG w n (by omega) ⟨a1,a2⟩ fun m b1 b2 w1=>ih m b1 (by omega) (by omega) w1
  exact H (n.toNat + 1) n h0 h1 (by omega) w
end Go.Proofs.YtlbefjfhfodnlaaGreatDoor
namespace Go.Proofs.YtlbefjfhfodnlaaGreatDoor
open Go Go.RowKit
set_option linter.unusedVariables false
set_option linter.unusedSimpArgs false
def rT:Stand ByteArray:=fun _ v x F=>v = .string x∧F = []
theorem good_rT:Good rT:=⟨fun h=>by rw [h.1]; rfl,fun h=>by rw [h.1]; rfl,fun h b hb=>(by rw [h.2] at hb; cases hb),fun h _=>h⟩
theorem oT {e:TypeId}:Good (owL rT e):=good_owL good_rT
theorem frT {B U:Nat} {H:Array Obj} (x:ByteArray):Fr rT B U H (.string x) x:=⟨[],⟨rfl,rfl⟩,List.nodup_nil,fun b hb=>by cases hb⟩
theorem Rd.getT {H:Array Obj} {v:Value} {xs:List ByteArray} {k:Nat} (h:Rd (rdL rT) H v xs) (hk:k < xs.length):ldH H (eptr v k 1) = some (.string (xs.getD k ByteArray.empty)):=by
  obtain ⟨u,h1,F,h2,_⟩:=Rd.get ByteArray.empty h hk
  rw [h1,h2]
theorem Fr.rdT {e:TypeId} {B U:Nat} {H:Array Obj} {v:Value} {xs:List ByteArray} (h:Fr (owL rT e) B U H v xs):Rd (rdL rT) H v xs:=h.rd id
theorem Fr.getT {e:TypeId} {B U:Nat} {H:Array Obj} {v:Value} {xs:List ByteArray} {k:Nat} (h:Fr (owL rT e) B U H v xs) (hk:k < xs.length):ldH H (eptr v k 1) = some (.string (xs.getD k ByteArray.empty)):=h.rdT.getT hk
section ops
variable {P:Program} {ops:Array Oper} {w0:World} {Q:Act→World→Prop} {os:List Oper} {ks:List Nat} {N:Nat} {ρ:Nat→Value} {w:World}
  {d:Nat} {ty:TypeId} {pos:String} {aft:Array Edge} {g:Option (Nat × Bool)} {t e:TypeId} {z:Value} {b:Nat}
theorem q_slS {x y z:Operand} {s:ByteArray} {i k:Int} (a b:Nat) (ht:P.underlying t = some .string) (hx:evF N ρ x = .string s) (hy:evF N ρ y = .int .i64 i) (hz:evF N ρ z = .int .i64 k) (hi:i = (a:Int)) (hk:k = (b:Int)) (hab:a≤b) (hb:b≤s.size) (hu:Up ops N ρ ⟨some d,.slice t x (some y) (some z) none,ty,pos,aft,g⟩)
    (h:LW P ops w0 Q os ks (mk N (upd ρ d (.string (s.extract a b)))) w):LW P ops w0 Q (⟨some d,.slice t x (some y) (some z) none,ty,pos,aft,g⟩ :: os) (0 :: ks) (mk N ρ) w:=by
  subst hi; subst hk
  refine lw_q (by decide) rfl hu _ (fun w' _=>?_) h
  simp [execOp,hx,hy,hz,Instr.sliceAt,Instr.slice,Instr.sliceBounds,Instr.sliceBound,asIntOf,run_underlying ht,hab,hb]
theorem q_slT {x y:Operand} {s:ByteArray} {i:Int} (a:Nat) (ht:P.underlying t = some .string) (hx:evF N ρ x = .string s) (hy:evF N ρ y = .int .i64 i) (hi:i = (a:Int)) (ha:a≤s.size) (hu:Up ops N ρ ⟨some d,.slice t x (some y) none none,ty,pos,aft,g⟩)
    (h:LW P ops w0 Q os ks (mk N (upd ρ d (.string (s.extract a s.size)))) w):LW P ops w0 Q (⟨some d,.slice t x (some y) none none,ty,pos,aft,g⟩ :: os) (0 :: ks) (mk N ρ) w:=by
  subst hi
  refine lw_q (by decide) rfl hu _ (fun w' _=>?_) h
  simp [execOp,hx,hy,Instr.sliceAt,Instr.slice,Instr.sliceBounds,Instr.sliceBound,asIntOf,run_underlying ht,ha]
end ops
theorem fr_newT {w:World} {e:TypeId} (xs:List ByteArray) (hl:xs.length≤maxLen):Fr (owL rT e) w.heap.size (w.alloc (.cells (xs.map Value.string).toArray e)).heap.size (w.alloc (.cells (xs.map Value.string).toArray e)).heap (.slice (some ⟨w.heap.size,0,none⟩) xs.length xs.length) xs:=by
  have hels:∀ (H:Array Obj) (xs:List ByteArray),els rT H (xs.map Value.string) xs []:=by
    intro H xs
    induction xs with
    | nil=>rfl
    | cons x xs ih=>exact ⟨[],[],rfl,⟨rfl,rfl⟩,ih⟩
  have hn:=owL_new (e:=e) (w:=w) good_rT (us:=xs.map Value.string) (xs:=xs) (F:=[]) (cur:=(xs.map Value.string).toArray) (hels _ xs) (by simp; omega) (by show List.take _ (List.map Value.string xs) = _; exact List.take_of_length_le (by simp)) (by simp)
  simp only [List.length_map,List.size_toArray] at hn
  refine ⟨_,by simpa using hn,by simp,fun c hc=>?_⟩
  simp at hc
  subst hc
  simp
end Go.Proofs.YtlbefjfhfodnlaaGreatDoor
namespace Go.Proofs.YtlbefjfhfodnlaaGreatDoor
open Go Go.RowKit
set_option linter.unusedVariables false
set_option linter.unusedSimpArgs false
def mkAv (k:Int) (n:Nat):List Av:=tab n fun i=>⟨k + 2 * ((i:Nat):Int),k + 2 * ((i:Nat):Int) + 1⟩
@[simp] theorem mkAv_len (k:Int) (n:Nat):(mkAv k n).length = n:=tab_len _ _
theorem frN_avL {a:Av} {B U:Nat} {H:Array Obj} (h:avR a):FrN rAv B U H (avC a) a:=⟨[],⟨rfl,h,rfl⟩,List.nodup_nil,fun b hb=>by cases hb⟩
theorem FrP.ofF {α β:Type} {E:Array Obj→β→α→List Nat→Prop} {B U:Nat} {H:Array Obj} {v:β} {x:α} (h:∃ F,E H v x F∧F.Nodup∧∀ b∈F,B≤b∧b < U):FrP E (fun b=>B≤b∧b < U) H v x:=h
theorem FrP.bn {α:Type} {E:Stand α} (hE:Good E) {S:Nat→Prop} {w:World} {v:Value} {x:α} (h:FrP E S w.heap v x):FrP E (fun b=>S b∧b < w.heap.size) w.heap v x:=by
  obtain ⟨G,h1,h2,h3⟩:=h
  exact ⟨G,h1,h2,fun b hb=>⟨h3 b hb,hE.lt h1 b hb⟩⟩
theorem FrP.sub {α β:Type} {E:Array Obj→β→α→List Nat→Prop} {S T:Nat→Prop} {H:Array Obj} {v:β} {x:α} (h:FrP E S H v x) (hs:∀ b,S b→T b):FrP E T H v x:=by
  obtain ⟨F,h1,h2,h3⟩:=h
  exact ⟨F,h1,h2,fun b hb=>hs b (h3 b hb)⟩
section
variable {P:Program} {ops:Array Oper} {w0 w:World} {Q:Act→World→Prop} {os:List Oper} {ks:List Nat} {N:Nat} {ρ:Nat→Value} {d:Nat} {ty:TypeId} {pos:String} {aft:Array Edge} {g:Option (Nat × Bool)} {t e:TypeId} {z:Value} {b s:Nat} {α:Type} {E:StandN α}
theorem e_appPL (hE:GoodN s E) {x y:Operand} {v a:Value} {xs:List α} {y0:α} {S T:Nat→Prop} (ht:P.underlying t = some (.slice e)) (hi:TI P e s z b) (hz:z.cells.size = s) (hs:0 < s) (hx:evF N ρ x = v) (hy:evF N ρ y = a) (hv:FrP (owS s E e) S w.heap v xs)
    (ha:FrP (owS s E e) T w.heap a [y0]) (hT:∀ b,S b→T b→False) (hbytes:(xs.length + 1) * b≤140737488355328) (hmx:xs.length + 1≤maxLen) (hu:Up ops N ρ ⟨some d,.call ⟨.builtin .append,#[x,y],#[t,t]⟩,ty,pos,aft,g⟩)
    (h:∀ v1 w1 F,Chg F w w1→(∀ c∈F,S c)→FrP (owS s E e) (fun b=>S b∨T b∨b = w.heap.size) w1.heap v1 (xs++[y0])→LW P ops w0 Q os ks (mk N (upd ρ d v1)) w1) :
    LW P ops w0 Q (⟨some d,.call ⟨.builtin .append,#[x,y],#[t,t]⟩,ty,pos,aft,g⟩ :: os) (4 :: ks) (mk N ρ) w:=by
  obtain ⟨v1,w1,F,r1,r2,r3,r4⟩:=run_appQ (P:=P) (ty:=ty) hE ht hi hz hs (S:=S) (T:=T) hv ha hT hbytes hmx
  exact lw_e rfl hu v1 w1 (by simp only [execOp,resolve,invoke,builtin,List.map_toArray,List.map_cons,List.map_nil,Sem.run_bind,Sem.run_pure,Result.andThen_ok,hx,hy,r1]) (h v1 w1 F r3 r4 r2)
end
end Go.Proofs.YtlbefjfhfodnlaaGreatDoor
namespace Go.Proofs.YtlbefjfhfodnlaaGreatDoor
open Go Go.RowKit Go.Shelf
set_option linter.unusedVariables false
set_option maxRecDepth 100000
def layJoin_ren : Go.Shelf.Ren := ⟨fun | 156 => 49 | 165 => 98 | 166 => 99 | 169 => 100 | 240 => 140 | 241 => 141 | 276 => 180 | 277 => 181 | n => n, fun | 31 => 77 | 9 => 9 | 3 => 3 | 4 => 4 | 0 => 0 | 20 => 20 | 72 => 143 | 76 => 147 | 70 => 141 | 37 => 22 | 75 => 146 | 127 => 193 | 164 => 215 | 5 => 5 | 80 => 149 | n => n, fun | n => n⟩
theorem layJoin : Go.Proofs.Lays.n156 Tryz.prog layJoin_ren := {
  mixed := by kernel_rfl
  f156 := Tryz.func49.trans (congrArg some (by kernel_rfl))
  f165 := Tryz.func98.trans (congrArg some (by kernel_rfl))
  f166 := Tryz.func99.trans (congrArg some (by kernel_rfl))
  f169 := Tryz.func100.trans (congrArg some (by kernel_rfl))
  f240 := Tryz.func140.trans (congrArg some (by kernel_rfl))
  f241 := Tryz.func141.trans (congrArg some (by kernel_rfl))
  f276 := Tryz.func180.trans (congrArg some (by kernel_rfl))
  f277 := Tryz.func181.trans (congrArg some (by kernel_rfl))
  t0 := Tryz.underlying0
  a0 := Tryz.isAgg0
  z0 := Tryz.sizeOf0
  v0 := Tryz.zeroValue0
  t3 := Tryz.underlying3
  a3 := Tryz.isAgg3
  z3 := Tryz.sizeOf3
  v3 := Tryz.zeroValue3
  t4 := Tryz.underlying4
  a4 := Tryz.isAgg4
  z4 := Tryz.sizeOf4
  v4 := Tryz.zeroValue4
  t9 := Tryz.underlying9
  a9 := Tryz.isAgg9
  z9 := Tryz.sizeOf9
  v9 := Tryz.zeroValue9
  t20 := Tryz.underlying20
  a20 := Tryz.isAgg20
  z20 := Tryz.sizeOf20
  v20 := Tryz.zeroValue20
  t31 := Tryz.underlying77
  a31 := Tryz.isAgg77
  z31 := Tryz.sizeOf77
  v31 := Tryz.zeroValue77
  t37 := Tryz.underlying22
  a37 := Tryz.isAgg22
  z37 := Tryz.sizeOf22
  v37 := Tryz.zeroValue22
  t70 := Tryz.underlying141
  a70 := Tryz.isAgg141
  z70 := Tryz.sizeOf141
  v70 := Tryz.zeroValue141
  t72 := Tryz.underlying143
  a72 := Tryz.isAgg143
  z72 := Tryz.sizeOf143
  v72 := Tryz.zeroValue143
  t75 := Tryz.underlying146
  a75 := Tryz.isAgg146
  z75 := Tryz.sizeOf146
  v75 := Tryz.zeroValue146
  t76 := Tryz.underlying147
  a76 := Tryz.isAgg147
  z76 := Tryz.sizeOf147
  v76 := Tryz.zeroValue147
  t127 := Tryz.underlying193
  a127 := Tryz.isAgg193
  z127 := Tryz.sizeOf193
  v127 := Tryz.zeroValue193
  t164 := Tryz.underlying215
  a164 := Tryz.isAgg215
  z164 := Tryz.sizeOf215
  v164 := Tryz.zeroValue215 }
theorem layJX:Builder.Extra Tryz.prog layJoin_ren where
  sizeBuilder:=by kernel_rfl
  liesBuilder:=by kernel_rfl
  t5:=Tryz.underlying5
  a5:=Tryz.isAgg5
  z5:=Tryz.sizeOf5
  v5:=Tryz.zeroValue5
  infoByte:=by kernel_rfl
  cellsByte:=by kernel_rfl
  sizeByte:=by kernel_rfl
  neB5:=by decide
def layIdx_ren : Go.Shelf.Ren := ⟨fun | 137 => 51 | 217 => 102 | 266 => 145 | n => n, fun | 9 => 9 | 5 => 5 | 3 => 3 | n => n, fun | n => n⟩
theorem layIdx : Go.Proofs.Lays.n137 Tryz.prog layIdx_ren := {
  mixed := by kernel_rfl
  f137 := Tryz.func51.trans (congrArg some (by kernel_rfl))
  f217 := Tryz.func102.trans (congrArg some (by kernel_rfl))
  f266 := Tryz.func145.trans (congrArg some (by kernel_rfl))
  t3 := Tryz.underlying3
  a3 := Tryz.isAgg3
  z3 := Tryz.sizeOf3
  v3 := Tryz.zeroValue3
  t5 := Tryz.underlying5
  a5 := Tryz.isAgg5
  z5 := Tryz.sizeOf5
  v5 := Tryz.zeroValue5
  t9 := Tryz.underlying9
  a9 := Tryz.isAgg9
  z9 := Tryz.sizeOf9
  v9 := Tryz.zeroValue9 }
def layFmtM_ren : Go.Shelf.Ren := ⟨fun | 173 => 97 | 246 => 139 | 283 => 176 | 284 => 177 | 285 => 178 | 286 => 179 | 129 => 211 | 317 => 210 | 318 => 212 | 319 => 213 | 320 => 214 | 337 => 229 | 338 => 230 | n => n, fun | 2 => 2 | 3 => 3 | 9 => 9 | 4 => 4 | 171 => 210 | 0 => 0 | 53 => 129 | 37 => 22 | 5 => 5 | 173 => 213 | 212 => 234 | 51 => 235 | 20 => 20 | 213 => 236 | 46 => 191 | 232 => 254 | 233 => 255 | n => n, fun | 17 => 1 | 18 => 6 | 19 => 7 | n => n⟩
theorem layFmtM : Go.Proofs.LaysM.n173 Tryz.prog layFmtM_ren := {
  mixed := by kernel_rfl
  f129 := Tryz.func211.trans (congrArg some (by kernel_rfl))
  f173 := Tryz.func97.trans (congrArg some (by kernel_rfl))
  f246 := Tryz.func139.trans (congrArg some (by kernel_rfl))
  f283 := Tryz.func176.trans (congrArg some (by kernel_rfl))
  f284 := Tryz.func177.trans (congrArg some (by kernel_rfl))
  f285 := Tryz.func178.trans (congrArg some (by kernel_rfl))
  f286 := Tryz.func179.trans (congrArg some (by kernel_rfl))
  f317 := Tryz.func210.trans (congrArg some (by kernel_rfl))
  f318 := Tryz.func212.trans (congrArg some (by kernel_rfl))
  f319 := Tryz.func213.trans (congrArg some (by kernel_rfl))
  f320 := Tryz.func214.trans (congrArg some (by kernel_rfl))
  f337 := Tryz.func229.trans (congrArg some (by kernel_rfl))
  f338 := Tryz.func230.trans (congrArg some (by kernel_rfl))
  t0 := Tryz.underlying0
  a0 := Tryz.isAgg0
  z0 := Tryz.sizeOf0
  v0 := Tryz.zeroValue0
  t2 := Tryz.underlying2
  a2 := Tryz.isAgg2
  z2 := Tryz.sizeOf2
  v2 := Tryz.zeroValue2
  t3 := Tryz.underlying3
  a3 := Tryz.isAgg3
  z3 := Tryz.sizeOf3
  v3 := Tryz.zeroValue3
  t4 := Tryz.underlying4
  a4 := Tryz.isAgg4
  z4 := Tryz.sizeOf4
  v4 := Tryz.zeroValue4
  t5 := Tryz.underlying5
  a5 := Tryz.isAgg5
  z5 := Tryz.sizeOf5
  v5 := Tryz.zeroValue5
  t9 := Tryz.underlying9
  a9 := Tryz.isAgg9
  z9 := Tryz.sizeOf9
  v9 := Tryz.zeroValue9
  t20 := Tryz.underlying20
  a20 := Tryz.isAgg20
  z20 := Tryz.sizeOf20
  v20 := Tryz.zeroValue20
  t37 := Tryz.underlying22
  a37 := Tryz.isAgg22
  z37 := Tryz.sizeOf22
  v37 := Tryz.zeroValue22
  t46 := Tryz.underlying191
  a46 := Tryz.isAgg191
  z46 := Tryz.sizeOf191
  v46 := Tryz.zeroValue191
  t51 := Tryz.underlying235
  a51 := Tryz.isAgg235
  z51 := Tryz.sizeOf235
  v51 := Tryz.zeroValue235
  t53 := Tryz.underlying129
  a53 := Tryz.isAgg129
  z53 := Tryz.sizeOf129
  v53 := Tryz.zeroValue129
  t171 := Tryz.underlying210
  a171 := Tryz.isAgg210
  z171 := Tryz.sizeOf210
  v171 := Tryz.zeroValue210
  t173 := Tryz.underlying213
  a173 := Tryz.isAgg213
  z173 := Tryz.sizeOf213
  v173 := Tryz.zeroValue213
  t212 := Tryz.underlying234
  a212 := Tryz.isAgg234
  z212 := Tryz.sizeOf234
  v212 := Tryz.zeroValue234
  t213 := Tryz.underlying236
  a213 := Tryz.isAgg236
  z213 := Tryz.sizeOf236
  t232 := Tryz.underlying254
  a232 := Tryz.isAgg254
  z232 := Tryz.sizeOf254
  v232 := Tryz.zeroValue254
  t233 := Tryz.underlying255
  a233 := Tryz.isAgg255
  z233 := Tryz.sizeOf255
  v233 := Tryz.zeroValue255
  g17 := by kernel_rfl
  g18 := by kernel_rfl
  g19 := by kernel_rfl
  i0 := by kernel_rfl
  i2 := by kernel_rfl
  i3 := by kernel_rfl
  i4 := by kernel_rfl
  i5 := by kernel_rfl
  i9 := by kernel_rfl
  i20 := by kernel_rfl
  i37 := by kernel_rfl
  i46 := by kernel_rfl
  i51 := by kernel_rfl
  i53 := by kernel_rfl
  i171 := by kernel_rfl
  i173 := by kernel_rfl
  i212 := by kernel_rfl
  i232 := by kernel_rfl
  i233 := by kernel_rfl
  m17 := by kernel_rfl
  m18 := by kernel_rfl
  m19 := by kernel_rfl }
def layPar_ren : Go.Shelf.Ren := ⟨fun | 174 => 103 | 247 => 146 | 245 => 147 | 287 => 186 | 279 => 187 | 280 => 188 | 281 => 189 | 282 => 190 | 321 => 219 | 322 => 220 | 316 => 221 | 171 => 223 | 205 => 222 | 243 => 232 | 246 => 139 | 283 => 176 | 284 => 177 | 285 => 178 | 286 => 179 | 129 => 211 | 317 => 210 | 318 => 212 | 319 => 213 | 320 => 214 | 337 => 229 | 338 => 230 | n => n, fun | 9 => 9 | 3 => 3 | 2 => 2 | 75 => 146 | 85 => 151 | 4 => 4 | 167 => 221 | 5 => 5 | 53 => 129 | 175 => 222 | 46 => 191 | 168 => 224 | 37 => 22 | 0 => 0 | 210 => 242 | 21 => 21 | 127 => 193 | 145 => 253 | 143 => 251 | 171 => 210 | 173 => 213 | 212 => 234 | 51 => 235 | 20 => 20 | 213 => 236 | 232 => 254 | 233 => 255 | 80 => 149 | n => n, fun | 15 => 2 | 16 => 3 | 17 => 1 | 18 => 6 | 19 => 7 | n => n⟩
theorem layPar : Go.Proofs.LaysC.n174 Tryz.prog layPar_ren := {
  mixed := by kernel_rfl
  f129 := Tryz.func211.trans (congrArg some (by kernel_rfl))
  f171 := Tryz.func223.trans (congrArg some (by kernel_rfl))
  f174 := Tryz.func103.trans (congrArg some (by kernel_rfl))
  f205 := Tryz.func222.trans (congrArg some (by kernel_rfl))
  f243 := Tryz.func232.trans (congrArg some (by kernel_rfl))
  f245 := Tryz.func147.trans (congrArg some (by kernel_rfl))
  f246 := Tryz.func139.trans (congrArg some (by kernel_rfl))
  f247 := Tryz.func146.trans (congrArg some (by kernel_rfl))
  f279 := Tryz.func187.trans (congrArg some (by kernel_rfl))
  f280 := Tryz.func188.trans (congrArg some (by kernel_rfl))
  f281 := Tryz.func189.trans (congrArg some (by kernel_rfl))
  f282 := Tryz.func190.trans (congrArg some (by kernel_rfl))
  f283 := Tryz.func176.trans (congrArg some (by kernel_rfl))
  f284 := Tryz.func177.trans (congrArg some (by kernel_rfl))
  f285 := Tryz.func178.trans (congrArg some (by kernel_rfl))
  f286 := Tryz.func179.trans (congrArg some (by kernel_rfl))
  f287 := Tryz.func186.trans (congrArg some (by kernel_rfl))
  f316 := Tryz.func221.trans (congrArg some (by kernel_rfl))
  f317 := Tryz.func210.trans (congrArg some (by kernel_rfl))
  f318 := Tryz.func212.trans (congrArg some (by kernel_rfl))
  f319 := Tryz.func213.trans (congrArg some (by kernel_rfl))
  f320 := Tryz.func214.trans (congrArg some (by kernel_rfl))
  f321 := Tryz.func219.trans (congrArg some (by kernel_rfl))
  f322 := Tryz.func220.trans (congrArg some (by kernel_rfl))
  f337 := Tryz.func229.trans (congrArg some (by kernel_rfl))
  f338 := Tryz.func230.trans (congrArg some (by kernel_rfl))
  t0 := Tryz.underlying0
  a0 := Tryz.isAgg0
  z0 := Tryz.sizeOf0
  v0 := Tryz.zeroValue0
  t2 := Tryz.underlying2
  a2 := Tryz.isAgg2
  z2 := Tryz.sizeOf2
  v2 := Tryz.zeroValue2
  t3 := Tryz.underlying3
  a3 := Tryz.isAgg3
  z3 := Tryz.sizeOf3
  v3 := Tryz.zeroValue3
  t4 := Tryz.underlying4
  a4 := Tryz.isAgg4
  z4 := Tryz.sizeOf4
  v4 := Tryz.zeroValue4
  t5 := Tryz.underlying5
  a5 := Tryz.isAgg5
  z5 := Tryz.sizeOf5
  v5 := Tryz.zeroValue5
  t9 := Tryz.underlying9
  a9 := Tryz.isAgg9
  z9 := Tryz.sizeOf9
  v9 := Tryz.zeroValue9
  t20 := Tryz.underlying20
  a20 := Tryz.isAgg20
  z20 := Tryz.sizeOf20
  v20 := Tryz.zeroValue20
  t21 := Tryz.underlying21
  a21 := Tryz.isAgg21
  z21 := Tryz.sizeOf21
  v21 := Tryz.zeroValue21
  t37 := Tryz.underlying22
  a37 := Tryz.isAgg22
  z37 := Tryz.sizeOf22
  v37 := Tryz.zeroValue22
  t46 := Tryz.underlying191
  a46 := Tryz.isAgg191
  z46 := Tryz.sizeOf191
  v46 := Tryz.zeroValue191
  t51 := Tryz.underlying235
  a51 := Tryz.isAgg235
  z51 := Tryz.sizeOf235
  v51 := Tryz.zeroValue235
  t53 := Tryz.underlying129
  a53 := Tryz.isAgg129
  z53 := Tryz.sizeOf129
  v53 := Tryz.zeroValue129
  t75 := Tryz.underlying146
  a75 := Tryz.isAgg146
  z75 := Tryz.sizeOf146
  v75 := Tryz.zeroValue146
  t85 := Tryz.underlying151
  a85 := Tryz.isAgg151
  z85 := Tryz.sizeOf151
  v85 := Tryz.zeroValue151
  t127 := Tryz.underlying193
  a127 := Tryz.isAgg193
  z127 := Tryz.sizeOf193
  v127 := Tryz.zeroValue193
  t143 := Tryz.underlying251
  a143 := Tryz.isAgg251
  z143 := Tryz.sizeOf251
  v143 := Tryz.zeroValue251
  t145 := Tryz.underlying253
  a145 := Tryz.isAgg253
  z145 := Tryz.sizeOf253
  v145 := Tryz.zeroValue253
  t167 := Tryz.underlying221
  a167 := Tryz.isAgg221
  z167 := Tryz.sizeOf221
  v167 := Tryz.zeroValue221
  t168 := Tryz.underlying224
  a168 := Tryz.isAgg224
  z168 := Tryz.sizeOf224
  v168 := Tryz.zeroValue224
  t171 := Tryz.underlying210
  a171 := Tryz.isAgg210
  z171 := Tryz.sizeOf210
  v171 := Tryz.zeroValue210
  t173 := Tryz.underlying213
  a173 := Tryz.isAgg213
  z173 := Tryz.sizeOf213
  v173 := Tryz.zeroValue213
  t175 := Tryz.underlying222
  a175 := Tryz.isAgg222
  z175 := Tryz.sizeOf222
  v175 := Tryz.zeroValue222
  t210 := Tryz.underlying242
  a210 := Tryz.isAgg242
  z210 := Tryz.sizeOf242
  v210 := Tryz.zeroValue242
  t212 := Tryz.underlying234
  a212 := Tryz.isAgg234
  z212 := Tryz.sizeOf234
  v212 := Tryz.zeroValue234
  t213 := Tryz.underlying236
  a213 := Tryz.isAgg236
  z213 := Tryz.sizeOf236
  t232 := Tryz.underlying254
  a232 := Tryz.isAgg254
  z232 := Tryz.sizeOf254
  v232 := Tryz.zeroValue254
  t233 := Tryz.underlying255
  a233 := Tryz.isAgg255
  z233 := Tryz.sizeOf255
  v233 := Tryz.zeroValue255
  g15 := by kernel_rfl
  g16 := by kernel_rfl
  g17 := by kernel_rfl
  g18 := by kernel_rfl
  g19 := by kernel_rfl
  t80 := Tryz.underlying149
  a80 := Tryz.isAgg149
  z80 := Tryz.sizeOf149
  v80 := Tryz.zeroValue149
  i0 := by kernel_rfl
  i2 := by kernel_rfl
  i3 := by kernel_rfl
  i4 := by kernel_rfl
  i5 := by kernel_rfl
  i9 := by kernel_rfl
  i20 := by kernel_rfl
  i21 := by kernel_rfl
  i37 := by kernel_rfl
  i46 := by kernel_rfl
  i51 := by kernel_rfl
  i53 := by kernel_rfl
  i75 := by kernel_rfl
  i80 := by kernel_rfl
  i85 := by kernel_rfl
  i127 := by kernel_rfl
  i143 := by kernel_rfl
  i145 := by kernel_rfl
  i167 := by kernel_rfl
  i168 := by kernel_rfl
  i171 := by kernel_rfl
  i173 := by kernel_rfl
  i175 := by kernel_rfl
  i210 := by kernel_rfl
  i212 := by kernel_rfl
  i232 := by kernel_rfl
  i233 := by kernel_rfl
  m15 := by kernel_rfl
  m16 := by kernel_rfl
  m17 := by kernel_rfl
  m18 := by kernel_rfl
  m19 := by kernel_rfl
  c0 := by kernel_rfl
  c2 := by kernel_rfl
  c3 := by kernel_rfl
  c4 := by kernel_rfl
  c5 := by kernel_rfl
  c9 := by kernel_rfl
  c20 := by kernel_rfl
  c21 := by kernel_rfl
  c37 := by kernel_rfl
  c46 := by kernel_rfl
  c51 := by kernel_rfl
  c53 := by kernel_rfl
  c75 := by kernel_rfl
  c80 := by kernel_rfl
  c85 := by kernel_rfl
  c127 := by kernel_rfl
  c143 := by kernel_rfl
  c145 := by kernel_rfl
  c167 := by kernel_rfl
  c168 := by kernel_rfl
  c171 := by kernel_rfl
  c173 := by kernel_rfl
  c175 := by kernel_rfl
  c210 := by kernel_rfl
  c212 := by kernel_rfl
  c213 := by kernel_rfl
  c232 := by kernel_rfl
  c233 := by kernel_rfl }
def laySpl_ren : Go.Shelf.Ren := ⟨fun | 146 => 50 | 221 => 101 | 268 => 142 | 138 => 143 | 143 => 144 | 195 => 182 | 197 => 183 | 218 => 184 | 219 => 185 | 260 => 215 | 217 => 102 | 225 => 216 | 224 => 217 | 267 => 218 | 266 => 145 | 314 => 231 | n => n, fun | 9 => 9 | 31 => 77 | 3 => 3 | 4 => 4 | 0 => 0 | 105 => 219 | 21 => 21 | 5 => 5 | 46 => 191 | 119 => 245 | 139 => 248 | 138 => 247 | 146 => 249 | 51 => 235 | n => n, fun | 1 => 0 | 3 => 4 | 4 => 5 | n => n⟩
theorem laySpl : Go.Proofs.Lays.n146 Tryz.prog laySpl_ren := {
  mixed := by kernel_rfl
  f138 := Tryz.func143.trans (congrArg some (by kernel_rfl))
  f143 := Tryz.func144.trans (congrArg some (by kernel_rfl))
  f146 := Tryz.func50.trans (congrArg some (by kernel_rfl))
  f195 := Tryz.func182.trans (congrArg some (by kernel_rfl))
  f197 := Tryz.func183.trans (congrArg some (by kernel_rfl))
  f217 := Tryz.func102.trans (congrArg some (by kernel_rfl))
  f218 := Tryz.func184.trans (congrArg some (by kernel_rfl))
  f219 := Tryz.func185.trans (congrArg some (by kernel_rfl))
  f221 := Tryz.func101.trans (congrArg some (by kernel_rfl))
  f224 := Tryz.func217.trans (congrArg some (by kernel_rfl))
  f225 := Tryz.func216.trans (congrArg some (by kernel_rfl))
  f260 := Tryz.func215.trans (congrArg some (by kernel_rfl))
  f266 := Tryz.func145.trans (congrArg some (by kernel_rfl))
  f267 := Tryz.func218.trans (congrArg some (by kernel_rfl))
  f268 := Tryz.func142.trans (congrArg some (by kernel_rfl))
  f314 := Tryz.func231.trans (congrArg some (by kernel_rfl))
  t0 := Tryz.underlying0
  a0 := Tryz.isAgg0
  z0 := Tryz.sizeOf0
  v0 := Tryz.zeroValue0
  t3 := Tryz.underlying3
  a3 := Tryz.isAgg3
  z3 := Tryz.sizeOf3
  v3 := Tryz.zeroValue3
  t4 := Tryz.underlying4
  a4 := Tryz.isAgg4
  z4 := Tryz.sizeOf4
  v4 := Tryz.zeroValue4
  t5 := Tryz.underlying5
  a5 := Tryz.isAgg5
  z5 := Tryz.sizeOf5
  v5 := Tryz.zeroValue5
  t9 := Tryz.underlying9
  a9 := Tryz.isAgg9
  z9 := Tryz.sizeOf9
  v9 := Tryz.zeroValue9
  t21 := Tryz.underlying21
  a21 := Tryz.isAgg21
  z21 := Tryz.sizeOf21
  v21 := Tryz.zeroValue21
  t31 := Tryz.underlying77
  a31 := Tryz.isAgg77
  z31 := Tryz.sizeOf77
  v31 := Tryz.zeroValue77
  t46 := Tryz.underlying191
  a46 := Tryz.isAgg191
  z46 := Tryz.sizeOf191
  v46 := Tryz.zeroValue191
  t51 := Tryz.underlying235
  a51 := Tryz.isAgg235
  z51 := Tryz.sizeOf235
  v51 := Tryz.zeroValue235
  t105 := Tryz.underlying219
  a105 := Tryz.isAgg219
  z105 := Tryz.sizeOf219
  v105 := Tryz.zeroValue219
  t119 := Tryz.underlying245
  a119 := Tryz.isAgg245
  z119 := Tryz.sizeOf245
  t138 := Tryz.underlying247
  a138 := Tryz.isAgg247
  z138 := Tryz.sizeOf247
  v138 := Tryz.zeroValue247
  t139 := Tryz.underlying248
  a139 := Tryz.isAgg248
  z139 := Tryz.sizeOf248
  v139 := Tryz.zeroValue248
  t146 := Tryz.underlying249
  a146 := Tryz.isAgg249
  z146 := Tryz.sizeOf249
  v146 := Tryz.zeroValue249
  g1 := by kernel_rfl
  g3 := by kernel_rfl
  g4 := by kernel_rfl }
def laySplM_ren : Go.Shelf.Ren := ⟨fun | 146 => 50 | 221 => 101 | 268 => 142 | 138 => 143 | 143 => 144 | 195 => 182 | 197 => 183 | 218 => 184 | 219 => 185 | 260 => 215 | 217 => 102 | 225 => 216 | 224 => 217 | 267 => 218 | 266 => 145 | 314 => 231 | n => n, fun | 9 => 9 | 31 => 77 | 3 => 3 | 4 => 4 | 0 => 0 | 105 => 219 | 21 => 21 | 5 => 5 | 46 => 191 | 119 => 245 | 139 => 248 | 138 => 247 | 146 => 249 | 51 => 235 | n => n, fun | 1 => 0 | 3 => 4 | 4 => 5 | n => n⟩
theorem laySplM : Go.Proofs.LaysM.n146 Tryz.prog laySplM_ren := {
  mixed := by kernel_rfl
  f138 := Tryz.func143.trans (congrArg some (by kernel_rfl))
  f143 := Tryz.func144.trans (congrArg some (by kernel_rfl))
  f146 := Tryz.func50.trans (congrArg some (by kernel_rfl))
  f195 := Tryz.func182.trans (congrArg some (by kernel_rfl))
  f197 := Tryz.func183.trans (congrArg some (by kernel_rfl))
  f217 := Tryz.func102.trans (congrArg some (by kernel_rfl))
  f218 := Tryz.func184.trans (congrArg some (by kernel_rfl))
  f219 := Tryz.func185.trans (congrArg some (by kernel_rfl))
  f221 := Tryz.func101.trans (congrArg some (by kernel_rfl))
  f224 := Tryz.func217.trans (congrArg some (by kernel_rfl))
  f225 := Tryz.func216.trans (congrArg some (by kernel_rfl))
  f260 := Tryz.func215.trans (congrArg some (by kernel_rfl))
  f266 := Tryz.func145.trans (congrArg some (by kernel_rfl))
  f267 := Tryz.func218.trans (congrArg some (by kernel_rfl))
  f268 := Tryz.func142.trans (congrArg some (by kernel_rfl))
  f314 := Tryz.func231.trans (congrArg some (by kernel_rfl))
  t0 := Tryz.underlying0
  a0 := Tryz.isAgg0
  z0 := Tryz.sizeOf0
  v0 := Tryz.zeroValue0
  t3 := Tryz.underlying3
  a3 := Tryz.isAgg3
  z3 := Tryz.sizeOf3
  v3 := Tryz.zeroValue3
  t4 := Tryz.underlying4
  a4 := Tryz.isAgg4
  z4 := Tryz.sizeOf4
  v4 := Tryz.zeroValue4
  t5 := Tryz.underlying5
  a5 := Tryz.isAgg5
  z5 := Tryz.sizeOf5
  v5 := Tryz.zeroValue5
  t9 := Tryz.underlying9
  a9 := Tryz.isAgg9
  z9 := Tryz.sizeOf9
  v9 := Tryz.zeroValue9
  t21 := Tryz.underlying21
  a21 := Tryz.isAgg21
  z21 := Tryz.sizeOf21
  v21 := Tryz.zeroValue21
  t31 := Tryz.underlying77
  a31 := Tryz.isAgg77
  z31 := Tryz.sizeOf77
  v31 := Tryz.zeroValue77
  t46 := Tryz.underlying191
  a46 := Tryz.isAgg191
  z46 := Tryz.sizeOf191
  v46 := Tryz.zeroValue191
  t51 := Tryz.underlying235
  a51 := Tryz.isAgg235
  z51 := Tryz.sizeOf235
  v51 := Tryz.zeroValue235
  t105 := Tryz.underlying219
  a105 := Tryz.isAgg219
  z105 := Tryz.sizeOf219
  v105 := Tryz.zeroValue219
  t119 := Tryz.underlying245
  a119 := Tryz.isAgg245
  z119 := Tryz.sizeOf245
  t138 := Tryz.underlying247
  a138 := Tryz.isAgg247
  z138 := Tryz.sizeOf247
  v138 := Tryz.zeroValue247
  t139 := Tryz.underlying248
  a139 := Tryz.isAgg248
  z139 := Tryz.sizeOf248
  v139 := Tryz.zeroValue248
  t146 := Tryz.underlying249
  a146 := Tryz.isAgg249
  z146 := Tryz.sizeOf249
  v146 := Tryz.zeroValue249
  g1 := by kernel_rfl
  g3 := by kernel_rfl
  g4 := by kernel_rfl
  i0 := by kernel_rfl
  i3 := by kernel_rfl
  i4 := by kernel_rfl
  i5 := by kernel_rfl
  i9 := by kernel_rfl
  i21 := by kernel_rfl
  i31 := by kernel_rfl
  i46 := by kernel_rfl
  i51 := by kernel_rfl
  i105 := by kernel_rfl
  i138 := by kernel_rfl
  i139 := by kernel_rfl
  i146 := by kernel_rfl
  m1 := by kernel_rfl
  s1_3 := fun w h => Go.Proofs.cell_of_shapedOpen_int (zero := #[.int .i64 0]) (t := 3) h (of_decide_eq_true (by kernel_rfl)) (by kernel_rfl) rfl (by kernel_rfl) (by kernel_rfl) Tryz.underlying3
  m3 := by kernel_rfl
  m4 := by kernel_rfl }
theorem sent_of {P:Program} {W:World} {n nm:String} {d:DataW Unit} {g t:Nat} {ms:Array (String × TypeId)} (hg:P.globalNamed n = some g) (ht:(P.globals[g]?).map (·.type) = some t) (hu:P.underlying t = some (.interface ms))
    (h:Lib.VarReads P W n (.iface nm d)):∃ u v,W.cell? ⟨g,0,none⟩ = some (.iface u v):=by
  obtain ⟨g',t',cs,fuel,p,hg',ht',hv,hd⟩:=h
  obtain rfl:=Option.some.inj (hg.symm.trans hg')
  obtain rfl:=Option.some.inj (ht.symm.trans ht')
  obtain ⟨_,u,v,hc,_⟩:=iface_of_trod hu hd
  refine ⟨u,v,?_⟩
  rw [World.var?_cell hg hv 0]
  have:cs.toList[0]? = some (.iface u v):=by rw [hc]; rfl
  simpa using this
structure GW (w:World):Prop where
  ml:∃ m,w.cell? ⟨0,0,none⟩ = some (.int .i64 m)
  es:∃ t p,w.cell? ⟨2,0,none⟩ = some (.iface t p)
  er:∃ t p,w.cell? ⟨3,0,none⟩ = some (.iface t p)
  tb:Lib.TabIs Tryz.prog w "internal/strconv.uint64pow10" .u64 Lib.pow10Tab
theorem cell_ltW {w:World} {g:Nat} {v:Value} (h:w.cell? ⟨g,0,none⟩ = some v):g < w.heap.size:=Lib.lt_of_cell h
theorem gw_pow:Tryz.prog.globalNamed "internal/strconv.uint64pow10" = some 1:=by kernel_rfl
theorem GW.ext {w w':World} (h:GW w) (k:Ext w w'):GW w':=by
  have hc:∀ {g v},w.cell? ⟨g,0,none⟩ = some v→w'.cell? ⟨g,0,none⟩ = some v:=fun {g v} hg=>by
    rw [← hg]; exact Below.cell k (cell_ltW hg)
  obtain ⟨⟨m,h1⟩,⟨t,p,h2⟩,⟨t',p',h3⟩,h4⟩:=h
  exact ⟨⟨m,hc h1⟩,⟨t,p,hc h2⟩,⟨t',p',hc h3⟩,var?_below k gw_pow (cell_ltW (h4.cell gw_pow 0 (by decide))) h4⟩
theorem um146:Tryz.prog.underlying 146 = some (.interface (Tryz.prog.methodsAt 146)):=by kernel_rfl
theorem c_ixb (w:World) (s:ByteArray) (c:Nat):Calls Tryz.prog 51 #[.string s,.int .u8 ((c:Nat):Int)] w fun e w'=>e = .returned (.int .i64 (Lib.indexByte s.data.toList c.toUInt8))∧w' = w:=Any.strings_IndexByte layIdx s c w
theorem c_split (w:World) (hG:GW w) (s:ByteArray) (hs:s.size < 4294967281) :
    Calls Tryz.prog 50 #[.string s,.string ⟨#[32]⟩] w fun e w'=>∃ v,e = .returned v∧Ext w w'∧Fr (owL rT 9) w.heap.size w'.heap.size w'.heap v (wds s):=by
  obtain ⟨m,hm⟩:=hG.ml
  refine (Any.strings_Split laySpl (by kernel_rfl) s ⟨#[32]⟩ m w hs hm (by decide)).mono fun e w' ⟨he,hw⟩=>?_
  subst hw
  have hl:(wds s).length = Lib.countB s ⟨#[32]⟩ + 1:=Lib.splitB_all _ (by decide) 0 _ s rfl
  have h:=fr_newT (w:=w) (e:=9) (wds s) (by
    have:=spl_length s.data.toList
    have h2:=(wds_len s).2
    have h3:s.data.toList.length = s.size:=rfl
    unfold maxLen; omega)
  rw [hl] at h
  exact ⟨_,he,ext_alloc _ _,h⟩
theorem els_rT {H:Array Obj}:∀ {us:List Value} {vs:List ByteArray} {F:List Nat},els rT H us vs F→us = vs.map Value.string
  | [],[],_,h=>rfl
  | _ :: _,_ :: _,_,⟨F1,F2,rfl,h1,h2⟩=>by rw [els_rT h2,h1.1]; rfl
  | [],_ :: _,_,h=>h.elim
  | _ :: _,[],_,h=>h.elim
theorem c_join (w:World) (v:Value) (xs:List ByteArray) {B U:Nat} (hv:Fr (owL rT 9) B U w.heap v xs) (hn:xs.length≤100000000) (hl:(jn (xs.map (·.data.toList))).length≤140737488355328) :
    Calls Tryz.prog 49 #[v,.string ⟨#[32]⟩] w fun e w'=>e = .returned (.string (ba (jn (xs.map (·.data.toList)))))∧Ext w w':=by
  obtain ⟨F,hv,_,_⟩:=hv
  rcases hv with ⟨rfl,rfl,_⟩ | ⟨us,b,cap,cur,F',hels,rfl,hg,q1,q2,q3,q4,rfl⟩
  · refine (Any.strings_Join_none layJoin layJX none 0 ⟨#[32]⟩ w).mono fun e w' ⟨he,hw⟩=>⟨he,by subst hw; exact Ext.refl _⟩
  · have hu:=els_rT hels
    have hj:=jn_lib (xs.map (·.data.toList))
    refine (Any.strings_Join layJoin layJX b 0 cap xs ⟨#[32]⟩ w (fun j x hx=>?_) (getElem?_lt hg) (by omega) q1 (by rw [show (⟨#[32]⟩:ByteArray).data.toList = [32] from rfl,hj]; exact hl)).mono fun e w' ⟨he,hw⟩=>⟨?_,hw⟩
    · rw [cell_cellH]
      simp only [cellH,hg,Nat.zero_add]
      have e1:(cur.toList.take xs.length)[j]? = some (.string x):=by rw [q4,hu,List.getElem?_map,hx]; rfl
      have hj:j < xs.length:=(List.getElem?_eq_some_iff.1 hx).1
      rw [List.getElem?_take,if_pos hj] at e1
      simpa using e1
    · rw [he,show (⟨#[32]⟩:ByteArray).data.toList = [32] from rfl,hj]; rfl
theorem c_fmt (w:World) (hG:GW w) (n:Int) (h:-9223372036854775808≤n∧n≤9223372036854775807):Calls Tryz.prog 97 #[.int .i64 n,.int .i64 10] w fun e w'=>e = .returned (.string (ba (Lib.itoa n)))∧Ext w w' :=
  (Any.strconv_FormatInt_10 layFmtM n h.1 h.2 w hG.tb).mono fun e w' ⟨he,k,os,hw⟩=>⟨he,by
    subst hw
    exact ⟨rfl,rfl,rfl,by show w.heap.size≤(w.heap++os).size; rw [Array.size_append]; omega,fun b hb=>by
      show (w.heap++os)[b]? = w.heap[b]?
      exact Array.getElem?_append_left hb⟩⟩
theorem c_parse (w:World) (hG:GW w) (s:ByteArray) (hs:s.size≤281474976710656):Calls Tryz.prog 103 #[.string s,.int .i64 10,.int .i64 64] w fun e w' =>
    ∃ r,e = .returned (.tuple #[.int .i64 (rdN s.data.toList),r])∧Ext w w'∧((pOk s.data.toList = true∧r = .nilIface)∨(pOk s.data.toList = false∧∃ t p,r = .iface t p)):=by
  obtain ⟨t,p,he⟩:=hG.es
  obtain ⟨t',p',hr⟩:=hG.er
  cases h:Lib.parseIntB 64 s.data.toList with
  | ok v =>
    refine (Any.strconv_ParseInt_10_at64_ok layPar s (by omega) v h w).mono fun e w' ⟨h1,h2⟩=>⟨.nilIface,?_,?_,.inl ⟨?_,rfl⟩⟩
    · rw [h1]; unfold rdN; rw [h]
    · rcases h2 with rfl | ⟨x,rfl⟩
      · exact Ext.refl _
      · exact Lib.bytesWorld_below _ _ _
    · unfold pOk; rw [h]
  | «syntax» =>
    have e0:rdN s.data.toList = 0:=by unfold rdN; rw [h]
    refine (Any.strconv_ParseInt_10_at64_syntax layPar s hs h _ w he (.inr ⟨_,_,rfl⟩)).mono fun e w' ⟨M,h1,_,_,h2⟩=>?_
    rw [e0]
    exact ⟨_,h1,h2,.inr ⟨by unfold pOk; rw [h],_,_,rfl⟩⟩
  | range =>
    have e0:rdN s.data.toList = Lib.intSat 64 s.data.toList:=by unfold rdN; rw [h]
    refine (Any.strconv_ParseInt_10_at64_range layPar s hs h _ w hr (.inr ⟨_,_,rfl⟩)).mono fun e w' ⟨M,h1,_,_,h2⟩=>?_
    rw [e0]
    exact ⟨_,h1,h2,.inr ⟨by unfold pOk; rw [h],_,_,rfl⟩⟩
end Go.Proofs.YtlbefjfhfodnlaaGreatDoor
namespace Go.Proofs.YtlbefjfhfodnlaaGreatDoor
open Go Go.RowKit
set_option linter.unusedVariables false
set_option linter.unusedSimpArgs false
set_option maxHeartbeats 4000000
set_option maxRecDepth 100000
attribute [local irreducible] LW
theorem c_impl_decimal (w:World) (n:Int) (_hn:-9223372036854775808≤n∧n≤9223372036854775807) (hG:GW w) :
    Calls Tryz.prog 48 #[.int .i64 n] w (fun e w'=>e = .returned (.string (ba (Lib.itoa n)))∧Ext w w'):=by
  refine calls_mk [.int .i64 n] 5 Tryz.func48 rfl rfl sM ?_
  have hE0:Ext w w:=Ext.refl w
  refine wp_seq (wp_plain _ [0] rfl (lw_tvn 1 rfl (wp_seq (wp_plain _ [0,3,0] rfl (lw_tv 1 rfl (lw_call 97 [] [] [(.int .i64 n),(.int .i64 ((10:Nat):Int))] rfl rfl cf97 zN (c_fmt _ (hG.ext hE0) (n) _hn) ?_))))))
  rintro e1 w1 ⟨rfl,hX1⟩
  refine ⟨_,rfl,hX1,?_⟩
  have hzs1:w.heap.size≤w1.heap.size:=hX1.size
  have hE1:Ext w w1:=hE0.trans hX1
  exact lw_tvn 1 rfl (wp_ret (post_ret [2] rfl (.string (ba (Lib.itoa (n)))) rfl (by exact ⟨rfl,hE1⟩)))
theorem z52_0 {p:Prop} (h:p:=by refine ⟨?_,hE3⟩; first | exact ret_pair (rdO_1 (by assumption)) | exact ret_pair (rdO_2 (by assumption)) | exact ret_pair (rdO_3 (by assumption) (by assumption))):p:=h
theorem c_impl_readDecimal (w:World) (s:ByteArray) (low:Int) (high:Int) (_hlow:-9223372036854775808≤low∧low≤9223372036854775807) (_hhigh:-9223372036854775808≤high∧high≤9223372036854775807) (hs:s.size≤281474976710656) (hG:GW w) :
    Calls Tryz.prog 52 #[.string s,.int .i64 low,.int .i64 high] w (fun e w'=>e = .returned (.tuple #[.int .i64 (rdN s.data.toList),.bool (rdO s low high)])∧Ext w w'):=by
  refine calls_mk [.string s,.int .i64 low,.int .i64 high] 30 Tryz.func52 rfl rfl sM ?_
  have hE0:Ext w w:=Ext.refl w
  refine wp_seq (wp_plain _ [0,0] rfl (lw_tvn 2 rfl (wp_seq (wp_plain _ [0,3,0,0,0,0,0] rfl (lw_tv 1 rfl (lw_call 103 [] [] [(.string s),(.int .i64 ((10:Nat):Int)),(.int .i64 ((64:Nat):Int))] rfl rfl cf103 zN (c_parse _ (hG.ext hE0) (s) oM) ?_))))))
  rintro e1 w1 ⟨r1,rfl,hX1,hp1⟩
  refine ⟨_,rfl,hX1,?_⟩
  have hzs1:w.heap.size≤w1.heap.size:=hX1.size
  have hE1:Ext w w1:=hE0.trans hX1
  refine lw_tv 1 rfl (q_extract (vs:=[(.int .i64 (rdN (s).data.toList)),r1]) (.int .i64 (rdN (s).data.toList)) rfl rfl zN (q_extract (vs:=[(.int .i64 (rdN (s).data.toList)),r1]) r1 rfl rfl zN (lw_tvn 2 rfl (wp_seq (wp_plain _ [0,0,0,0,0,3,0,0,0,0,0,0,0,0,0,0,0] rfl (lw_tv 2 rfl (q_eqI um146 hp1 rfl zN (lw_tv 1 rfl ?_))))))))
  cases hb2:(pOk (s).data.toList)
  ·
    exact lw_tvn 13 rfl (wp_ret (post_ret [6,7] rfl (.tuple #[(.int .i64 (rdN (s).data.toList)),(.bool false)]) rfl (by refine ⟨?_,hE1⟩; first | exact ret_pair (rdO_1 (by assumption)) | exact ret_pair (rdO_2 (by assumption)) | exact ret_pair (rdO_3 (by assumption) (by assumption)))))
  ·
    refine lw_tv 1 rfl (lw_call 48 [] [] [(.int .i64 (rdN (s).data.toList))] rfl rfl cf48 (zS (e:=18) rfl rfl rfl) (c_impl_decimal _ (rdN (s).data.toList) (rdN_rng _) (hG.ext hE1)) ?_)
    rintro e3 w3 ⟨rfl,hX3⟩
    refine ⟨_,rfl,hX3,?_⟩
    have hzs3:w1.heap.size≤w3.heap.size:=hX3.size
    have hE3:Ext w w3:=hE1.trans hX3
    refine lw_tv 1 rfl ?_
    cases hc4:strE (ba (Lib.itoa (rdN (s).data.toList))) s
    ·
      exact q_eqls false u9 rfl rfl hc4 (zS (e:=18) rfl rfl rfl) (lw_tvn 9 rfl (wp_ret (post_ret [6,7] rfl (.tuple #[(.int .i64 (rdN (s).data.toList)),(.bool false)]) rfl z52_0)))
    ·
      exact q_eqls true u9 rfl rfl hc4 (zS (e:=18) rfl rfl rfl) (lw_tv 5 rfl (lw_callq 93 [] [] [(.int .i64 (rdN (s).data.toList)),(.int .i64 low),(.int .i64 high)] rfl rfl cf93 (zS (e:=24) rfl rfl rfl) (.bool (decide (low≤(rdN (s).data.toList)) && decide ((rdN (s).data.toList)≤high))) (fun wq=>c_impl_within wq _ _ _ (rdN_rng _) _hlow _hhigh) (lw_tvn 3 rfl (wp_ret (post_ret [6,7] rfl (.tuple #[(.int .i64 (rdN (s).data.toList)),(.bool (decide (low≤(rdN (s).data.toList)) && decide ((rdN (s).data.toList)≤high)))]) rfl z52_0)))))
theorem z10_0 {p:Prop} (h:p:=by first | exact ⟨ret_str (sc_bad (by assumption)),hE1⟩ | exact ⟨ret_str (sc_nil (by assumption) oM),hE1⟩ | exact ⟨ret_str (sc_end (by assumption) oM oM),hE1⟩):p:=h
theorem c_impl_ScheduleText (w:World) (va:Value) (l:List Av) (hl:RN [] (rdS 2 rAv) w.heap va l) (hll:l.length≤1000000000) (hG:GW w) :
    Calls Tryz.prog 10 #[va] w (fun e w'=>e = .returned (.string (ba (scL l)))∧Ext w w'):=by
  refine calls_mk [va] 43 Tryz.func10 rfl rfl sM ?_
  have hE0:Ext w w:=Ext.refl w
  refine wp_seq (wp_plain _ [0] rfl (lw_tvn 1 rfl (wp_seq (wp_block (wp_seq (wp_plain _ [0,3,0,0] rfl (lw_tv 1 rfl (lw_call 14 [] [] [va] rfl rfl cf14 zN (c_impl_ValidSchedule _ va l (hl.ext (good_rdS good_rAv) hE0)) ?_))))))))
  rintro e1 w1 ⟨rfl,hX1⟩
  refine ⟨_,rfl,hX1,?_⟩
  have hzs1:w.heap.size≤w1.heap.size:=hX1.size
  have hE1:Ext w w1:=hE0.trans hX1
  refine q_not (!(schB l)) rfl rfl zN (lw_tvn 1 rfl ?_)
  cases hb2:(!(schB l))
  ·
    refine c_cond_f (by first | rfl | (show Value.bool _ = _; rw [hb2])) (wp_seq (wp_plain _ [0,0,0,0] rfl (lw_tv 1 rfl (q_len (v:=va) u24 rfl hl.isSl zN ?_))))
    by_cases hc3:((l.length:Nat):Int) = ((0:Nat):Int)
    ·
      exact q_eql true rfl rfl (decide_eq_true hc3) zN (lw_tvn 1 rfl (c_cond_t rfl (wp_seq (wp_plain _ [0] rfl (lw_tvn 1 rfl (wp_ret (b_ret (t_ret (post_ret [2] rfl (.string (⟨#[45]⟩)) rfl z10_0)))))))))
    ·
      refine q_eql false rfl rfl (decide_eq_false hc3) zN (lw_tvn 1 rfl (c_cond_f rfl (wp_skip (wp_seq (wp_plain _ [3,0] rfl (r_nil rT good_rT u77 ti9 zN fun v4 w4 hX4 hz4 hO4=>?_))))))
      have hzs4:w1.heap.size≤w4.heap.size:=hX4.size
      have hE4:Ext w w4:=hE1.trans hX4
      refine lw_tvn 1 rfl (wp_seq (wp_seq (wp_plain _ [0,0,0] rfl (lw_tv 1 rfl (q_len (v:=va) u24 rfl hl.isSl zN (lw_tvn 1 rfl (wp_block ?_)))))))
      refine c_loop (S:=Nat × Value) (fun (⟨k,vo⟩:Nat × Value)=>([(3,vo),(18,(.int .i64 ((k:Nat):Int))),(16,va),(17,(.int .i64 ((l.length:Nat):Int)))]:List (Nat × Value))) (fun (⟨k,vo⟩:Nat × Value) (W:World)=>Ext w W∧Fr (owL rT 9) w.heap.size W.heap.size W.heap vo ((l.take k).map wdB)∧k≤l.length) (fun (⟨k,vo⟩:Nat × Value)=>l.length - k) (0,v4) ⟨rfl,rfl,rfl,rfl,trivial⟩ ⟨hE4,(hO4.up oT).low hE1.size,sD⟩ ?_
      clear hE0 hX1 hzs1 hE1 hO4 hz4 hX4 hzs4 hE4
      rintro ⟨k,vo⟩ ρ5 w5 ⟨hE5,hL5_0,hp5_0⟩
      have hzs5:w.heap.size≤w5.heap.size:=hE5.size
      refine wp_seq (wp_plain _ [0] rfl ?_)
      by_cases hc6:((k:Nat):Int) < ((l.length:Nat):Int)
      ·
        refine q_lss true rfl rfl (decide_eq_true hc6) zN (lw_nil (wp_seq (c_cond_t rfl (wp_skip (wp_seq (wp_block (wp_seq (wp_plain _ [0,2,3,4] rfl (q_idx (v:=va) k u24 tiS79 rfl rfl hl.isSl rfl sD zN ?_)))))))))
        obtain ⟨cs7,hr7,hl7⟩:=hl.get good_rAv Av.zero (k:=k) sD
        obtain ⟨rfl,hx7⟩:=rn_av hr7
        refine q_loadA (p:=eptr va k 2) (.inr rfl) [(.int .i64 ((l.getD k Av.zero).kind)),(.int .i64 ((l.getD k Av.zero).arg))] agg79 rfl (fun wq9 hw9=>hl7 wq9 (Chg.of_ext [] (hE5.trans hw9))) rfl zN (r_allocA (z:=.agg #[.int .i64 0,.int .i64 0]) zr79 zN fun w8 hX8 hz8 hB8=>?_)
        have hzs8:w5.heap.size≤w8.heap.size:=hX8.size
        have hE8:Ext w w8:=hE5.trans hX8
        have hL5_0x8:=hL5_0.ext (oT) hX8
        replace hB8:BX w8.heap w5.heap.size [(.int .i64 0),(.int .i64 0)]:=hB8
        refine e_setA (vs:=[(.int .i64 ((l.getD k Av.zero).kind)),(.int .i64 ((l.getD k Av.zero).arg))]) agg79 rfl rfl (by intro u hu; simp only [List.mem_cons,List.not_mem_nil,or_false] at hu; rcases hu with rfl | rfl <;> first | exact ⟨rfl,rfl⟩) hB8 rfl rfl zN fun w9 hC9 hz9 hB9=>?_
        replace hB9:BX w9.heap w5.heap.size [(.int .i64 ((l.getD k Av.zero).kind)),(.int .i64 ((l.getD k Av.zero).arg))]:=hB9
        have hE9:Ext w w9:=hC9.below hE8 (fun c hc=>by have:=List.mem_singleton.1 hc; omega) hE8.size
        have hzs9:w8.heap.size≤w9.heap.size:=hC9.size
        have hF10:=hL5_0x8.chg (oT) hC9 (fun c hc=>by have:=List.mem_singleton.1 hc; omega)
        refine lw_nil (wp_seq (wp_plain _ [0,2,0,0,2,0,0] rfl ?_))
        have hav:=sch_get (sch_b (by assumption)) (i:=k) oM
        have hav2:=hav
        unfold avK at hav2
        refine q_fldP (p:=(.pointer (some ⟨w5.heap.size,0,none⟩))) (b:=w5.heap.size) (o:=0) 0 fd79_0 rfl rfl zN (q_load (p:=(padd (.pointer (some ⟨w5.heap.size,0,none⟩)) 0)) (.inr rfl) (.int .i64 ((l.getD k Av.zero).kind)) one2 rfl (hB9.ldp (i:=0) sM) zN (q_sub ((l.getD k Av.zero).kind - 1) rfl rfl (w64 oM oM) zN (q_fldP (p:=(.pointer (some ⟨w5.heap.size,0,none⟩))) (b:=w5.heap.size) (o:=0) 0 fd79_0 rfl rfl zN (q_load (p:=(padd (.pointer (some ⟨w5.heap.size,0,none⟩)) 0)) (.inr rfl) (.int .i64 ((l.getD k Av.zero).kind)) one2 rfl (hB9.ldp (i:=0) sM) zN (q_slS (s:=⟨#[97,115,108,114]⟩) (((l.getD k Av.zero).kind - 1).toNat) (((l.getD k Av.zero).kind).toNat) u9 rfl rfl rfl oM oM oM (by show _≤4; omega) zN ?_)))))
        rw [show ((((⟨#[97,115,108,114]⟩:ByteArray)).extract (((l.getD k Av.zero).kind - 1).toNat) (((l.getD k Av.zero).kind).toNat)):ByteArray) = ba [ltr (l.getD k Av.zero).kind] from ltr_s hav]
        refine lw_tvn 1 rfl (wp_seq (wp_seq (wp_plain _ [0,2,0] rfl (q_fldP (p:=(.pointer (some ⟨w5.heap.size,0,none⟩))) (b:=w5.heap.size) (o:=0) 0 fd79_0 rfl rfl zN (q_load (p:=(padd (.pointer (some ⟨w5.heap.size,0,none⟩)) 0)) (.inr rfl) (.int .i64 ((l.getD k Av.zero).kind)) one2 rfl (hB9.ldp (i:=0) sM) zN ?_)))))
        by_cases hc11:(l.getD k Av.zero).kind≠((4:Nat):Int)
        ·
          refine q_neq true rfl rfl (decide_eq_true hc11) zN (lw_nil (c_cond_t rfl (wp_plain _ [0,0,2,3,0,0] rfl (lw_tv 1 rfl (q_fldP (p:=(.pointer (some ⟨w5.heap.size,0,none⟩))) (b:=w5.heap.size) (o:=0) 1 fd79_1 rfl rfl zN (q_load (p:=(padd (.pointer (some ⟨w5.heap.size,0,none⟩)) 1)) (.inr rfl) (.int .i64 ((l.getD k Av.zero).arg)) one2 rfl (hB9.ldp (i:=1) sM) zN (lw_call 48 [] [] [(.int .i64 ((l.getD k Av.zero).arg))] rfl rfl cf48 zN (c_impl_decimal _ ((l.getD k Av.zero).arg) hx7.2 (hG.ext hE9)) ?_)))))))
          rintro e12 w12 ⟨rfl,hX12⟩
          refine ⟨_,rfl,hX12,?_⟩
          have hzs12:w9.heap.size≤w12.heap.size:=hX12.size
          have hE12:Ext w w12:=hE9.trans hX12
          have hF10x12:=hF10.ext (oT) hX12
          have hB9x12:=hB9.ext hX12
          refine q_adds (a:=ba [ltr (l.getD k Av.zero).kind]) (b:=ba (Lib.itoa ((l.getD k Av.zero).arg))) rfl rfl (by rw [ba_size,ba_size,List.length_singleton]; have:=dg_len (n:=(l.getD k Av.zero).arg.toNat) oM; unfold Lib.itoa; rw [if_neg oM]; omega) zN (lw_tvn 1 rfl (wp_plain _ [0,0,3,4,0] rfl (lw_tv 2 rfl (r_one (u:=.string (ba [ltr (l.getD k Av.zero).kind]++ba (Lib.itoa ((l.getD k Av.zero).arg)))) (B:=w12.heap.size) (U:=w12.heap.size) good_rT u77 ti9 rfl rfl (frT (ba [ltr (l.getD k Av.zero).kind]++ba (Lib.itoa ((l.getD k Av.zero).arg)))) (Nat.le_refl _) zN fun v13 w13 hX13 hz13 hO13=>?_))))
          have hzs13:w12.heap.size≤w13.heap.size:=hX13.size
          have hE13:Ext w w13:=hE12.trans hX13
          have hF10x13:=hF10x12.ext (oT) hX13
          have hB9x13:=hB9x12.ext hX13
          refine e_appF good_rT (v:=vo) (a:=v13) u77 ti9 rfl rfl rfl hF10x13 oM hO13 oM oM (by simp; omega) (by simp; unfold maxLen; omega) zN fun v14 w14 F14 hC14 hF14 hO14=>?_
          have hzs14:w13.heap.size≤w14.heap.size:=hC14.size
          have hE14:Ext w w14:=hC14.below hE13 (fun c hc=>by have:=hF14 _ hc; omega) hE13.size
          have hF15:=hB9x13.chg hC14 (fun hm=>by have:=hF14 _ hm; omega)
          refine lw_tvn 1 rfl (wp_plain _ [0,0] rfl (q_add ((k + 1:Nat):Int) rfl rfl (w64n oM sD) zN (lw_tvn 1 rfl ?_)))
          exact ⟨((k + 1),v14),_,rfl,⟨rfl,rfl,rfl,rfl,trivial⟩,⟨hE14,(by rw [tk_map (d:=Av.zero) oM]; have h:=hO14.up oT; first | rwa [wdB_4 oM] at h | rwa [wdB_n hav oM] at h),sD⟩,by first | omega | (dsimp only; omega)⟩
        ·
          refine q_neq false rfl rfl (decide_eq_false hc11) zN (lw_nil (c_cond_f rfl (wp_skip (wp_plain _ [0,0,3,4,0] rfl (lw_tv 2 rfl (r_one (u:=.string (ba [ltr (l.getD k Av.zero).kind])) (B:=w9.heap.size) (U:=w9.heap.size) good_rT u77 ti9 rfl rfl (frT (ba [ltr (l.getD k Av.zero).kind])) (Nat.le_refl _) zN fun v16 w16 hX16 hz16 hO16=>?_))))))
          have hzs16:w9.heap.size≤w16.heap.size:=hX16.size
          have hE16:Ext w w16:=hE9.trans hX16
          have hF10x16:=hF10.ext (oT) hX16
          have hB9x16:=hB9.ext hX16
          refine e_appF good_rT (v:=vo) (a:=v16) u77 ti9 rfl rfl rfl hF10x16 oM hO16 oM oM (by simp; omega) (by simp; unfold maxLen; omega) zN fun v17 w17 F17 hC17 hF17 hO17=>?_
          have hzs17:w16.heap.size≤w17.heap.size:=hC17.size
          have hE17:Ext w w17:=hC17.below hE16 (fun c hc=>by have:=hF17 _ hc; omega) hE16.size
          have hF18:=hB9x16.chg hC17 (fun hm=>by have:=hF17 _ hm; omega)
          refine lw_tvn 1 rfl (wp_plain _ [0,0] rfl (q_add ((k + 1:Nat):Int) rfl rfl (w64n oM sD) zN (lw_tvn 1 rfl ?_)))
          exact ⟨((k + 1),v17),_,rfl,⟨rfl,rfl,rfl,rfl,trivial⟩,⟨hE17,(by rw [tk_map (d:=Av.zero) oM]; have h:=hO17.up oT; first | rwa [wdB_4 oM] at h | rwa [wdB_n hav oM] at h),sD⟩,by first | omega | (dsimp only; omega)⟩
      ·
        refine q_lss false rfl rfl (decide_eq_false hc6) zN (lw_nil (wp_seq (c_cond_f rfl (wp_exit (t_exit (t_exit (c_exit_here (wp_seq (wp_plain _ [0,3,0] rfl (lw_tv 1 rfl (lw_call 49 [] [] [vo,(.string (⟨#[32]⟩))] rfl rfl cf49 zN (c_join _ vo ((l.take k).map wdB) hL5_0 (by have:=(schB_iff.1 (sch_b (by assumption))).1; simp; omega) (by exact Nat.le_trans (sc_j (by assumption) oM) oM)) ?_)))))))))))
        rintro e19 w19 ⟨rfl,hX19⟩
        refine ⟨_,rfl,hX19,?_⟩
        have hzs19:w5.heap.size≤w19.heap.size:=hX19.size
        have hE19:Ext w w19:=hE5.trans hX19
        have hL5_0x19:=hL5_0.ext (oT) hX19
        exact lw_tvn 1 rfl (wp_ret (post_ret [2] rfl (.string (ba (jn (((l.take k).map wdB).map (·.data.toList))))) rfl (by first | exact ⟨ret_str (sc_bad (by assumption)),hE19⟩ | exact ⟨ret_str (sc_nil (by assumption) oM),hE19⟩ | exact ⟨ret_str (sc_end (by assumption) oM oM),hE19⟩)))
  ·
    exact c_cond_t (by first | rfl | (show Value.bool _ = _; rw [hb2])) (wp_seq (wp_plain _ [0] rfl (lw_tvn 1 rfl (wp_ret (b_ret (t_ret (post_ret [2] rfl (.string (⟨#[]⟩)) rfl z10_0)))))))
theorem c_spec_l06Word (w:World) (a:Av) (ha:i64 a.kind∧i64 a.arg) (hav:avK a) :
    Calls Tryz.prog 53 #[(.agg #[(.int .i64 a.kind),(.int .i64 a.arg)])] w (fun e w'=>e = .returned (.string (wdB a))∧Ext w w'):=by
  refine calls_mk [(.agg #[(.int .i64 a.kind),(.int .i64 a.arg)])] 19 Tryz.func53 rfl rfl sM ?_
  have hE0:Ext w w:=Ext.refl w
  have hav2:=hav
  unfold avK at hav2
  refine wp_seq (wp_plain _ [3,0] rfl (r_boxA (cs:=#[(.int .i64 a.kind),(.int .i64 a.arg)]) rfl zN fun w1 hX1 hz1 hB1=>?_))
  have hzs1:w.heap.size≤w1.heap.size:=hX1.size
  have hE1:Ext w w1:=hE0.trans hX1
  replace hB1:BX w1.heap w.heap.size [(.int .i64 a.kind),(.int .i64 a.arg)]:=hB1
  refine lw_tvn 1 rfl (wp_seq (wp_plain _ [0,2,0,2,0,0,0] rfl (q_fldP (p:=(.pointer (some ⟨w.heap.size,0,none⟩))) (b:=w.heap.size) (o:=0) 0 fd79_0 rfl rfl zN (q_load (p:=(padd (.pointer (some ⟨w.heap.size,0,none⟩)) 0)) (.inr rfl) (.int .i64 a.kind) one2 rfl (hB1.ldp (i:=0) sM) zN (q_fldP (p:=(.pointer (some ⟨w.heap.size,0,none⟩))) (b:=w.heap.size) (o:=0) 0 fd79_0 rfl rfl zN (q_load (p:=(padd (.pointer (some ⟨w.heap.size,0,none⟩)) 0)) (.inr rfl) (.int .i64 a.kind) one2 rfl (hB1.ldp (i:=0) sM) zN (q_add (a.kind + 1) rfl rfl (w64 oM oM) zN (q_slS (s:=⟨#[63,97,115,108,114]⟩) ((a.kind).toNat) ((a.kind + 1).toNat) u9 rfl rfl rfl oM oM oM (by show _≤5; omega) zN ?_))))))))
  rw [show ((((⟨#[63,97,115,108,114]⟩:ByteArray)).extract ((a.kind).toNat) ((a.kind + 1).toNat)):ByteArray) = ba [ltr a.kind] from ltr_q hav]
  refine lw_tvn 1 rfl (wp_seq (wp_seq (wp_plain _ [0,2,0] rfl (q_fldP (p:=(.pointer (some ⟨w.heap.size,0,none⟩))) (b:=w.heap.size) (o:=0) 0 fd79_0 rfl rfl zN (q_load (p:=(padd (.pointer (some ⟨w.heap.size,0,none⟩)) 0)) (.inr rfl) (.int .i64 a.kind) one2 rfl (hB1.ldp (i:=0) sM) zN ?_)))))
  by_cases hc2:a.kind≠((4:Nat):Int)
  ·
    refine q_neq true rfl rfl (decide_eq_true hc2) zN (lw_nil (c_cond_t rfl (wp_plain _ [0,0,2,3,0,0] rfl (lw_tv 1 rfl (q_fldP (p:=(.pointer (some ⟨w.heap.size,0,none⟩))) (b:=w.heap.size) (o:=0) 1 fd79_1 rfl rfl zN (q_load (p:=(padd (.pointer (some ⟨w.heap.size,0,none⟩)) 1)) (.inr rfl) (.int .i64 a.arg) one2 rfl (hB1.ldp (i:=1) sM) zN (lw_call 62 [] [] [(.int .i64 a.arg)] rfl rfl cf62 zN (c_DecimalA _ (a.arg) oM oM) ?_)))))))
    rintro e3 w3 ⟨_,rfl,hX3,rfl⟩
    refine ⟨_,rfl,hX3,?_⟩
    have hzs3:w1.heap.size≤w3.heap.size:=hX3.size
    have hE3:Ext w w3:=hE1.trans hX3
    exact q_adds (a:=ba [ltr a.kind]) (b:=decB (a.arg).toNat) rfl rfl (by rw [ba_size,List.length_singleton]; have:=decB_size (n:=a.arg.toNat) oM; omega) zN (lw_tvn 1 rfl (wp_seq (wp_plain _ [0,0] rfl (lw_tvn 2 rfl (wp_ret (post_ret [2] rfl (.string (ba [ltr a.kind]++decB (a.arg).toNat)) rfl (by first | exact ⟨ret_str (wdB_4 oM),hE3⟩ | exact ⟨ret_str (wdB_d oM),hE3⟩)))))))
  ·
    exact q_neq false rfl rfl (decide_eq_false hc2) zN (lw_nil (c_cond_f rfl (wp_skip (wp_seq (wp_plain _ [0,0] rfl (lw_tvn 2 rfl (wp_ret (post_ret [2] rfl (.string (ba [ltr a.kind])) rfl (by first | exact ⟨ret_str (wdB_4 oM),hE1⟩ | exact ⟨ret_str (wdB_d oM),hE1⟩)))))))))
theorem z12_0 {p:Prop} (h:p:=by first | exact ⟨ret_str (sc_bad (by assumption)),hE1⟩ | exact ⟨ret_str (sc_nil (by assumption) oM),hE1⟩ | exact ⟨ret_str (jT_e (by assumption) oM oM hq),hE1⟩):p:=h
theorem z12_1 {p:Prop} (h:p:=by first | omega | (rw [ByteArray.size_append]; show _ + 1 + _≤_; omega)):p:=h
theorem c_spec_ScheduleText (w:World) (va:Value) (l:List Av) (hl:RN [] (rdS 2 rAv) w.heap va l) (hll:l.length≤1000000000) :
    Calls Tryz.prog 12 #[va] w (fun e w'=>e = .returned (.string (ba (scL l)))∧Ext w w'):=by
  refine calls_mk [va] 29 Tryz.func12 rfl rfl sM ?_
  have hE0:Ext w w:=Ext.refl w
  refine wp_seq (wp_plain _ [0] rfl (lw_tvn 1 rfl (wp_seq (wp_seq (wp_plain _ [0,3,0] rfl (lw_tv 1 rfl (lw_call 40 [] [] [va] rfl rfl cf40 zN (c_spec_l06Schedule _ va l (hl.ext (good_rdS good_rAv) hE0) oM) ?_)))))))
  rintro e1 w1 ⟨rfl,hX1⟩
  refine ⟨_,rfl,hX1,?_⟩
  have hzs1:w.heap.size≤w1.heap.size:=hX1.size
  have hE1:Ext w w1:=hE0.trans hX1
  refine q_not (!(schB l)) rfl rfl zN (lw_nil ?_)
  cases hb2:(!(schB l))
  ·
    refine c_cond_f (by first | rfl | (show Value.bool _ = _; rw [hb2])) (wp_skip (wp_seq (wp_seq (wp_plain _ [0,0,0] rfl (lw_tv 1 rfl (q_len (v:=va) u24 rfl hl.isSl zN ?_))))))
    by_cases hc3:((l.length:Nat):Int) = ((0:Nat):Int)
    ·
      exact q_eql true rfl rfl (decide_eq_true hc3) zN (lw_nil (c_cond_t rfl (wp_seq (wp_plain _ [0] rfl (lw_tvn 1 rfl (wp_ret (t_ret (post_ret [2] rfl (.string (⟨#[45]⟩)) rfl z12_0))))))))
    ·
      refine q_eql false rfl rfl (decide_eq_false hc3) zN (lw_nil (c_cond_f rfl (wp_skip (wp_seq (wp_plain _ [0] rfl (lw_tvn 1 rfl (wp_seq (wp_seq (wp_plain _ [0] rfl (lw_tvn 1 rfl (wp_block ?_)))))))))))
      refine c_loop (S:=Nat × ByteArray) (fun (⟨i,o⟩:Nat × ByteArray)=>([(3,(.string o)),(4,(.int .i64 ((i:Nat):Int))),(0,va)]:List (Nat × Value))) (fun (⟨i,o⟩:Nat × ByteArray) (W:World)=>Ext w W∧i≤l.length∧o = ba (jn ((l.take i).map wdL))) (fun (⟨i,o⟩:Nat × ByteArray)=>l.length - i) (0,(⟨#[]⟩)) ⟨rfl,rfl,rfl,trivial⟩ ⟨hE1,sD,(by rfl)⟩ ?_
      clear hE0 hX1 hzs1 hE1
      rintro ⟨i,o⟩ ρ4 w4 ⟨hE4,hp4_0,hq⟩
      have hzs4:w.heap.size≤w4.heap.size:=hE4.size
      refine wp_seq (wp_seq (wp_plain _ [0,0,0,0] rfl (lw_tv 2 rfl (q_len (v:=va) u24 rfl hl.isSl zN ?_))))
      by_cases hc5:((i:Nat):Int) < ((l.length:Nat):Int)
      ·
        refine q_lss true rfl rfl (decide_eq_true hc5) zN (lw_nil (c_cond_t rfl (wp_skip (wp_seq (wp_block (wp_seq (wp_seq (wp_plain _ [0,0] rfl ?_))))))))
        have hos:=jT_len (by assumption) hq
        refine lw_tv 1 rfl ?_
        by_cases hc6:((0:Nat):Int) < ((i:Nat):Int)
        ·
          refine q_gtr true rfl rfl (decide_eq_true hc6) zN (lw_nil (c_cond_t rfl (wp_plain _ [0,0,0] rfl (lw_tv 1 rfl (q_adds (a:=o) (b:=⟨#[32]⟩) rfl rfl (by show _ + 1≤_; omega) zN (lw_tvn 1 rfl (wp_plain _ [0,0,0,0,2,3,0,0] rfl ?_)))))))
          have hav:=sch_get (sch_b (by assumption)) (i:=i) oM
          have hws:=wdB_size hav
          refine lw_tv 3 rfl (q_idx (v:=va) i u24 tiS79 rfl rfl hl.isSl rfl sD zN ?_)
          obtain ⟨cs7,hr7,hl7⟩:=hl.get good_rAv Av.zero (k:=i) sD
          obtain ⟨rfl,hx7⟩:=rn_av hr7
          refine q_loadA (p:=eptr va i 2) (.inr rfl) [(.int .i64 ((l.getD i Av.zero).kind)),(.int .i64 ((l.getD i Av.zero).arg))] agg79 rfl (fun wq9 hw9=>hl7 wq9 (Chg.of_ext [] (hE4.trans hw9))) rfl zN (lw_call 53 [] [] [(.agg #[(.int .i64 ((l.getD i Av.zero).kind)),(.int .i64 ((l.getD i Av.zero).arg))])] rfl rfl cf53 zN (c_spec_l06Word _ (l.getD i Av.zero) ⟨hx7.1,hx7.2⟩ (by exact hav)) ?_)
          rintro e8 w8 ⟨rfl,hX8⟩
          refine ⟨_,rfl,hX8,?_⟩
          have hzs8:w4.heap.size≤w8.heap.size:=hX8.size
          have hE8:Ext w w8:=hE4.trans hX8
          refine q_adds (a:=(o++⟨#[32]⟩)) (b:=wdB (l.getD i Av.zero)) rfl rfl z12_1 zN (lw_tvn 1 rfl (wp_plain _ [0,0,0] rfl (lw_tv 1 rfl (q_add ((i + 1:Nat):Int) rfl rfl (w64n oM sD) zN (lw_tvn 1 rfl ?_)))))
          exact ⟨((i + 1),((o++⟨#[32]⟩)++wdB (l.getD i Av.zero))),_,rfl,⟨rfl,rfl,rfl,trivial⟩,⟨hE8,sD,(by first | exact jT_0 oM oM hq | exact jT_s oM oM hq)⟩,by first | omega | (dsimp only; omega)⟩
        ·
          refine q_gtr false rfl rfl (decide_eq_false hc6) zN (lw_nil (c_cond_f rfl (wp_skip (wp_plain _ [0,0,0,0,2,3,0,0] rfl ?_))))
          have hav:=sch_get (sch_b (by assumption)) (i:=i) oM
          have hws:=wdB_size hav
          refine lw_tv 3 rfl (q_idx (v:=va) i u24 tiS79 rfl rfl hl.isSl rfl sD zN ?_)
          obtain ⟨cs9,hr9,hl9⟩:=hl.get good_rAv Av.zero (k:=i) sD
          obtain ⟨rfl,hx9⟩:=rn_av hr9
          refine q_loadA (p:=eptr va i 2) (.inr rfl) [(.int .i64 ((l.getD i Av.zero).kind)),(.int .i64 ((l.getD i Av.zero).arg))] agg79 rfl (fun wq9 hw9=>hl9 wq9 (Chg.of_ext [] (hE4.trans hw9))) rfl zN (lw_call 53 [] [] [(.agg #[(.int .i64 ((l.getD i Av.zero).kind)),(.int .i64 ((l.getD i Av.zero).arg))])] rfl rfl cf53 zN (c_spec_l06Word _ (l.getD i Av.zero) ⟨hx9.1,hx9.2⟩ (by exact hav)) ?_)
          rintro e10 w10 ⟨rfl,hX10⟩
          refine ⟨_,rfl,hX10,?_⟩
          have hzs10:w4.heap.size≤w10.heap.size:=hX10.size
          have hE10:Ext w w10:=hE4.trans hX10
          refine q_adds (a:=o) (b:=wdB (l.getD i Av.zero)) rfl rfl z12_1 zN (lw_tvn 1 rfl (wp_plain _ [0,0,0] rfl (lw_tv 1 rfl (q_add ((i + 1:Nat):Int) rfl rfl (w64n oM sD) zN (lw_tvn 1 rfl ?_)))))
          exact ⟨((i + 1),(o++wdB (l.getD i Av.zero))),_,rfl,⟨rfl,rfl,rfl,trivial⟩,⟨hE10,sD,(by first | exact jT_0 oM oM hq | exact jT_s oM oM hq)⟩,by first | omega | (dsimp only; omega)⟩
      ·
        exact q_lss false rfl rfl (decide_eq_false hc5) zN (lw_nil (c_cond_f rfl (wp_exit (t_exit (t_exit (c_exit_here (wp_seq (wp_plain _ [0,0] rfl (lw_tvn 2 rfl (wp_ret (post_ret [2] rfl (.string o) rfl (by first | exact ⟨ret_str (sc_bad (by assumption)),hE4⟩ | exact ⟨ret_str (sc_nil (by assumption) oM),hE4⟩ | exact ⟨ret_str (jT_e (by assumption) oM oM hq),hE4⟩))))))))))))
  ·
    exact c_cond_t (by first | rfl | (show Value.bool _ = _; rw [hb2])) (wp_seq (wp_plain _ [0] rfl (lw_tvn 1 rfl (wp_ret (t_ret (post_ret [2] rfl (.string (⟨#[]⟩)) rfl z12_0))))))
theorem z11_0 {p:Prop} (h:p:=by rw [tk_map (d:=ByteArray.empty) oM]; have h:=hPe.bn (good_owS good_rAv); first | (rw [rdB_4 hws oM] at h; exact h.sub (fun b hb=>by (try dsimp only at hb); omega)) | (rw [rdB_n hws oM] at h; exact h.sub (fun b hb=>by (try dsimp only at hb); omega))):p:=h
theorem z11_1 {p:Prop} (h:p:=by intro j hj; exact (Nat.lt_succ_iff_lt_or_eq.1 hj).elim (hd j) fun h9=>by subst h9; exact strE_f (by assumption)):p:=h
theorem c_impl_ReadSchedule (w:World) (s:ByteArray)  (hs:s.size≤1048576) (hG:GW w) :
    Calls Tryz.prog 11 #[.string s] w (fun e w'=>∃ v,e = .returned (.tuple #[v,.int .i64 (rsC s.data.toList)])∧Ext w w'∧Fr (owS 2 rAv 79) w.heap.size w'.heap.size w'.heap v (rsQ s.data.toList)):=by
  refine calls_mk [.string s] 50 Tryz.func11 rfl rfl sM ?_
  have hE0:Ext w w:=Ext.refl w
  have hwl:=wds_le s
  refine wp_seq (wp_plain _ [0,0] rfl (lw_tvn 2 rfl (wp_seq (wp_seq (wp_plain _ [0,0,0] rfl (lw_tv 1 rfl (q_lens (s:=s) u9 rfl zN ?_)))))))
  by_cases hc1:((1600:Nat):Int) < ((s.size:Nat):Int)
  ·
    exact q_gtr true rfl rfl (decide_eq_true hc1) zN (lw_nil (c_cond_t rfl (wp_seq (wp_plain _ [0,0] rfl (lw_tvn 2 rfl (wp_ret (t_ret (post_ret [2,3] rfl (.tuple #[(.slice none 0 0),(.int .i64 ((5:Nat):Int))]) rfl (by first | exact rs_ret hE0 (frNilS _ _ _) (rs_5 (rs_long (by rw [sz_len]; omega))) | exact rs_ret hE0 (frNilS _ _ _) (rs_f5 (rs_stop oM hd hn (by first | (left; omega) | (right; left; assumption) | (right; right; assumption))) (by assumption)) | exact rs_ret hE0 (frNilS _ _ _) (rs_f0 (rs_stop oM hd hn (by first | (left; omega) | (right; left; assumption) | (right; right; assumption))) (by assumption)))))))))))
  ·
    refine q_gtr false rfl rfl (decide_eq_false hc1) zN (lw_nil (c_cond_f rfl (wp_skip (wp_seq (wp_plain _ [3,0] rfl (r_nilS (α:=Av) good_rAv u24 tiS79 zN fun v2 w2 hX2 hz2 hO2=>?_))))))
    have hzs2:w.heap.size≤w2.heap.size:=hX2.size
    have hE2:Ext w w2:=hE0.trans hX2
    refine lw_tvn 1 rfl (wp_seq (wp_seq (wp_plain _ [0,3,0,0] rfl (lw_tv 1 rfl (lw_call 50 [] [] [(.string s),(.string (⟨#[32]⟩))] rfl rfl cf50 zN (c_split _ (hG.ext hE2) (s) oM) ?_)))))
    rintro e3 w3 ⟨v3,rfl,hX3,hO3⟩
    refine ⟨_,rfl,hX3,?_⟩
    have hzs3:w2.heap.size≤w3.heap.size:=hX3.size
    have hE3:Ext w w3:=hE2.trans hX3
    have hO2x3:=hO2.ext ((good_owS good_rAv)) hX3
    refine q_len (v:=v3) u77 rfl hO3.isSl zN (lw_tvn 1 rfl (wp_block ?_))
    have hP0:=FrP.ofF hO2x3
    refine c_loop (S:=Nat × Value) (fun (⟨k,vo⟩:Nat × Value)=>([(4,vo),(15,(.int .i64 ((k:Nat):Int))),(0,(.string s)),(13,v3),(14,(.int .i64 (((wds s).length:Nat):Int)))]:List (Nat × Value))) (fun (⟨k,vo⟩:Nat × Value) (W:World)=>Ext w W∧Fr (owL rT 9) w2.heap.size w3.heap.size W.heap v3 (wds s)∧(FrP (owS 2 rAv 79) (fun b=>w.heap.size≤b∧b < w2.heap.size∨w3.heap.size≤b∧b < W.heap.size) W.heap vo (((wds s).take k).map rdB))∧k≤(wds s).length∧(∀ j,j < k→((wds s).getD j ByteArray.empty).data.toList≠[])∧(0 < k→s.data.toList≠[45])∧w3.heap.size≤W.heap.size) (fun (⟨k,vo⟩:Nat × Value)=>(wds s).length - k) (0,v2) ⟨rfl,rfl,rfl,rfl,rfl,trivial⟩ ⟨hE3,hO3,(by exact hP0.sub (fun b hb=>by (try dsimp only at hb); omega)),sD,(by intro j hj; omega),(by intro h; omega),oM⟩ ?_
    clear hE0 hO2 hz2 hX2 hO3 hX3 hO2x3
    rintro ⟨k,vo⟩ ρ4 w4 ⟨hE4,hL4_0,hPl,hp4_1,hd,hn,hkB5⟩
    have hzs4:w.heap.size≤w4.heap.size:=hE4.size
    refine wp_seq (wp_plain _ [0] rfl ?_)
    by_cases hc6:((k:Nat):Int) < (((wds s).length:Nat):Int)
    ·
      refine q_lss true rfl rfl (decide_eq_true hc6) zN (lw_nil (wp_seq (c_cond_t rfl (wp_skip (wp_seq (wp_block (wp_seq (wp_plain _ [0,2,0] rfl (q_idx (v:=v3) k u77 ti9 rfl rfl hL4_0.isSl rfl sD zN ?_)))))))))
      refine q_load (p:=eptr v3 k 1) (.inr rfl) (.string ((wds s).getD k ByteArray.empty)) one9 rfl (hL4_0.getT sD) zN (lw_tvn 1 rfl (wp_seq (wp_seq (wp_plain _ [0,0,0,0,0,0] rfl (lw_tv 1 rfl ?_)))))
      cases hc7:strE ((wds s).getD k ByteArray.empty) (⟨#[]⟩)
      ·
        refine q_eqls false u9 rfl rfl hc7 zN (lw_tv 2 rfl ?_)
        cases hc8:strE s (⟨#[45]⟩)
        ·
          refine q_eqls false u9 rfl rfl hc8 (zS (e:=21) rfl rfl rfl) (lw_tvn 1 rfl (c_cond_f rfl (wp_skip (wp_seq (wp_plain _ [0,0,0,0,0,3,4] rfl ?_)))))
          have hws:=sz_pos (s:=((wds s).getD k ByteArray.empty)) (by assumption)
          have hix:=ixL_rng ((wds s).getD k ByteArray.empty)
          have hwz:=wd_size (s:=s) (i:=k) oM
          refine lw_tv 1 rfl (q_index (s:=((wds s).getD k ByteArray.empty)) 0 u9 rfl rfl rfl sD zN (lw_callq 51 [] [] [(.string (⟨#[97,115,108,114]⟩)),(.int .u8 ((sAt ((wds s).getD k ByteArray.empty) 0:Nat):Int))] rfl rfl cf51 zN (.int .i64 (ixL ((wds s).getD k ByteArray.empty))) (fun wq=>c_ixb wq (⟨#[97,115,108,114]⟩) (sAt ((wds s).getD k ByteArray.empty) 0)) (q_add (ixL ((wds s).getD k ByteArray.empty) + 1) rfl rfl (w64 oM oM) zN ?_)))
          have hbd10:∀ (wq:World),(Instr.build 79 #[(0,(.int .i64 (ixL ((wds s).getD k ByteArray.empty) + 1)))]).run Tryz.prog wq = .ok (.agg #[(.int .i64 (ixL ((wds s).getD k ByteArray.empty) + 1)),(.int .i64 0)]) wq:=by intro wq; kernel_rfl
          refine q_build (ps:=#[(0,(.int .i64 (ixL ((wds s).getD k ByteArray.empty) + 1)))]) (.agg #[(.int .i64 (ixL ((wds s).getD k ByteArray.empty) + 1)),(.int .i64 0)]) (by simp only [List.map_toArray,List.map_cons,List.map_nil]; rfl) (fun wq=>hbd10  wq) zN (r_allocA (z:=.agg #[.int .i64 0,.int .i64 0]) zr79 zN fun w11 hX11 hz11 hB11=>?_)
          have hzs11:w4.heap.size≤w11.heap.size:=hX11.size
          have hE11:Ext w w11:=hE4.trans hX11
          have hL4_0x11:=hL4_0.ext (oT) hX11
          have hP12:=hPl.ext (good_owS good_rAv) hX11
          replace hB11:BX w11.heap w4.heap.size [(.int .i64 0),(.int .i64 0)]:=hB11
          refine e_setA (vs:=[(.int .i64 (ixL ((wds s).getD k ByteArray.empty) + 1)),(.int .i64 0)]) agg79 rfl rfl (by intro u hu; simp only [List.mem_cons,List.not_mem_nil,or_false] at hu; rcases hu with rfl | rfl <;> first | exact ⟨rfl,rfl⟩) hB11 rfl rfl zN fun w13 hC13 hz13 hB13=>?_
          replace hB13:BX w13.heap w4.heap.size [(.int .i64 (ixL ((wds s).getD k ByteArray.empty) + 1)),(.int .i64 0)]:=hB13
          have hE13:Ext w w13:=hC13.below hE11 (fun c hc=>by have:=List.mem_singleton.1 hc; omega) hE11.size
          have hzs13:w11.heap.size≤w13.heap.size:=hC13.size
          have hF14:=hL4_0x11.chg (oT) hC13 (fun c hc=>by have:=List.mem_singleton.1 hc; omega)
          have hF15:=hP12.chg ((good_owS good_rAv)) hC13 (fun c hc=>by have:=List.mem_singleton.1 hc; intro h9; (try dsimp only at h9); omega)
          refine lw_nil (wp_seq (wp_seq (wp_plain _ [0,2,0] rfl (q_fldP (p:=(.pointer (some ⟨w4.heap.size,0,none⟩))) (b:=w4.heap.size) (o:=0) 0 fd79_0 rfl rfl zN (q_load (p:=(padd (.pointer (some ⟨w4.heap.size,0,none⟩)) 0)) (.inr rfl) (.int .i64 (ixL ((wds s).getD k ByteArray.empty) + 1)) one2 rfl (hB13.ldp (i:=0) sM) zN ?_)))))
          by_cases hc16:ixL ((wds s).getD k ByteArray.empty) + 1≠((4:Nat):Int)
          ·
            refine q_neq true rfl rfl (decide_eq_true hc16) zN (lw_nil (c_cond_t rfl (wp_plain _ [0,0,3,0,0,0,0,4] rfl ?_)))
            have hxz:=ex_size ((wds s).getD k ByteArray.empty) 1 ((wds s).getD k ByteArray.empty).size
            refine lw_tv 1 rfl (q_slT (s:=((wds s).getD k ByteArray.empty)) 1 u9 rfl rfl rfl oM zN (lw_call 52 [] [] [(.string (((wds s).getD k ByteArray.empty).extract 1 ((wds s).getD k ByteArray.empty).size)),(.int .i64 ((0:Nat):Int)),(.int .i64 ((40:Nat):Int))] rfl rfl cf52 zN (c_impl_readDecimal _ ((((wds s).getD k ByteArray.empty).extract 1 ((wds s).getD k ByteArray.empty).size)) (((0:Nat):Int)) (((40:Nat):Int)) oM oM oM (hG.ext hE13)) ?_))
            rintro e17 w17 ⟨rfl,hX17⟩
            refine ⟨_,rfl,hX17,?_⟩
            have hzs17:w13.heap.size≤w17.heap.size:=hX17.size
            have hE17:Ext w w17:=hE13.trans hX17
            have hF14x17:=hF14.ext (oT) hX17
            have hB13x17:=hB13.ext hX17
            have hP18:=hF15.ext (good_owS good_rAv) hX17
            refine lw_tv 1 rfl (q_extract (vs:=[(.int .i64 (rdN ((((wds s).getD k ByteArray.empty).extract 1 ((wds s).getD k ByteArray.empty).size)).data.toList)),(.bool (rdO (((wds s).getD k ByteArray.empty).extract 1 ((wds s).getD k ByteArray.empty).size) ((0:Nat):Int) ((40:Nat):Int)))]) (.int .i64 (rdN ((((wds s).getD k ByteArray.empty).extract 1 ((wds s).getD k ByteArray.empty).size)).data.toList)) rfl rfl zN (q_extract (vs:=[(.int .i64 (rdN ((((wds s).getD k ByteArray.empty).extract 1 ((wds s).getD k ByteArray.empty).size)).data.toList)),(.bool (rdO (((wds s).getD k ByteArray.empty).extract 1 ((wds s).getD k ByteArray.empty).size) ((0:Nat):Int) ((40:Nat):Int)))]) (.bool (rdO (((wds s).getD k ByteArray.empty).extract 1 ((wds s).getD k ByteArray.empty).size) ((0:Nat):Int) ((40:Nat):Int))) rfl rfl zN ?_))
            refine q_fldP (p:=(.pointer (some ⟨w4.heap.size,0,none⟩))) (b:=w4.heap.size) (o:=0) 1 fd79_1 rfl rfl zN (e_setB (k:=1) (w:=w17) sz2 rfl rfl ⟨rfl,rfl⟩ hB13x17 sM zN fun w19 hC19 hz19 hB19=>?_)
            replace hB19:BX w19.heap w4.heap.size [(.int .i64 (ixL ((wds s).getD k ByteArray.empty) + 1)),(.int .i64 (rdN ((((wds s).getD k ByteArray.empty).extract 1 ((wds s).getD k ByteArray.empty).size)).data.toList))]:=hB19
            have hE19:Ext w w19:=hC19.below hE17 (fun c hc=>by have:=List.mem_singleton.1 hc; omega) hE17.size
            have hzs19:w17.heap.size≤w19.heap.size:=hC19.size
            have hF20:=hF14x17.chg (oT) hC19 (fun c hc=>by have:=List.mem_singleton.1 hc; omega)
            have hF21:=hP18.chg ((good_owS good_rAv)) hC19 (fun c hc=>by have:=List.mem_singleton.1 hc; intro h9; (try dsimp only at h9); omega)
            refine lw_nil (wp_plain _ [0,2,3,4,0] rfl ?_)
            have hml:=tkm_len (g:=rdB) (l:=wds s) (i:=k) oM
            refine lw_tv 1 rfl (q_loadA (p:=(.pointer (some ⟨w4.heap.size,0,none⟩))) (.inr rfl) [(.int .i64 (ixL ((wds s).getD k ByteArray.empty) + 1)),(.int .i64 (rdN ((((wds s).getD k ByteArray.empty).extract 1 ((wds s).getD k ByteArray.empty).size)).data.toList))] agg79 rfl (fun wq9 hw9=>LD.of_box (BX.ext (w:=w19) hB19 hw9)) rfl zN ?_)
            refine r_oneS (cs:=[(.int .i64 (ixL ((wds s).getD k ByteArray.empty) + 1)),(.int .i64 (rdN ((((wds s).getD k ByteArray.empty).extract 1 ((wds s).getD k ByteArray.empty).size)).data.toList))]) (y:=(⟨ixL ((wds s).getD k ByteArray.empty) + 1,rdN ((((wds s).getD k ByteArray.empty).extract 1 ((wds s).getD k ByteArray.empty).size)).data.toList⟩:Av)) (B:=w19.heap.size) (U:=w19.heap.size) good_rAv u24 tiS79 rfl (by decide) rfl (frN_avL (a:=(⟨ixL ((wds s).getD k ByteArray.empty) + 1,rdN ((((wds s).getD k ByteArray.empty).extract 1 ((wds s).getD k ByteArray.empty).size)).data.toList⟩:Av)) ⟨⟨by (try dsimp only); omega,by (try dsimp only); omega⟩,(rdN_rng _)⟩) oM zN fun v22 w22 hX22 hz22 hO22=>?_
            have hzs22:w19.heap.size≤w22.heap.size:=hX22.size
            have hE22:Ext w w22:=hE19.trans hX22
            have hF20x22:=hF20.ext (oT) hX22
            have hB19x22:=hB19.ext hX22
            have hP23:=hF21.ext (good_owS good_rAv) hX22
            refine e_appPL (v:=vo) (a:=v22) good_rAv u24 tiS79 rfl (by decide) rfl rfl hP23 (FrP.ofF hO22) (fun b h8 h9=>by (try dsimp only at h8 h9); omega) oM (by unfold maxLen; omega) zN fun v24 w24 F24 hC24 hF24 hO24=>?_
            have hN24:∀ c∈F24,(w.heap.size≤c∧c < w2.heap.size∨w3.heap.size≤c∧c < w4.heap.size):=hF24
            have hM24:∀ c∈F24,w.heap.size≤c∧c < w22.heap.size:=fun c hc=>by have:=hN24 c hc; omega
            have hzs24:w22.heap.size≤w24.heap.size:=hC24.size
            have hE24:Ext w w24:=hC24.below hE22 (fun c hc=>(hM24 c hc).1) hE22.size
            have hF25:=hF20x22.chg (oT) hC24 (fun c hc=>by have:=hN24 c hc; omega)
            have hF26:=hB19x22.chg hC24 (fun hm=>by have:=hN24 _ hm; omega)
            refine lw_tvn 1 rfl (wp_plain _ [0,0] rfl (q_add ((k + 1:Nat):Int) rfl rfl (w64n oM sD) zN (lw_tvn 1 rfl ?_)))
            have hPe:=hO24
            exact ⟨((k + 1),v24),_,rfl,⟨rfl,rfl,rfl,rfl,rfl,trivial⟩,⟨hE24,hF25,z11_0,sD,z11_1,(by intro h; exact strE_f (by assumption)),oM⟩,by first | omega | (dsimp only; omega)⟩
          ·
            refine q_neq false rfl rfl (decide_eq_false hc16) zN (lw_nil (c_cond_f rfl (wp_skip (wp_plain _ [0,2,3,4,0] rfl ?_))))
            have hml:=tkm_len (g:=rdB) (l:=wds s) (i:=k) oM
            refine lw_tv 1 rfl (q_loadA (p:=(.pointer (some ⟨w4.heap.size,0,none⟩))) (.inr rfl) [(.int .i64 (ixL ((wds s).getD k ByteArray.empty) + 1)),(.int .i64 0)] agg79 rfl (fun wq9 hw9=>LD.of_box (BX.ext (w:=w13) hB13 hw9)) rfl zN (r_oneS (cs:=[(.int .i64 (ixL ((wds s).getD k ByteArray.empty) + 1)),(.int .i64 0)]) (y:=(⟨ixL ((wds s).getD k ByteArray.empty) + 1,0⟩:Av)) (B:=w13.heap.size) (U:=w13.heap.size) good_rAv u24 tiS79 rfl (by decide) rfl (frN_avL (a:=(⟨ixL ((wds s).getD k ByteArray.empty) + 1,0⟩:Av)) ⟨⟨by (try dsimp only); omega,by (try dsimp only); omega⟩,⟨by (try dsimp only); omega,by (try dsimp only); omega⟩⟩) oM zN fun v27 w27 hX27 hz27 hO27=>?_))
            have hzs27:w13.heap.size≤w27.heap.size:=hX27.size
            have hE27:Ext w w27:=hE13.trans hX27
            have hF14x27:=hF14.ext (oT) hX27
            have hB13x27:=hB13.ext hX27
            have hP28:=hF15.ext (good_owS good_rAv) hX27
            refine e_appPL (v:=vo) (a:=v27) good_rAv u24 tiS79 rfl (by decide) rfl rfl hP28 (FrP.ofF hO27) (fun b h8 h9=>by (try dsimp only at h8 h9); omega) oM (by unfold maxLen; omega) zN fun v29 w29 F29 hC29 hF29 hO29=>?_
            have hN29:∀ c∈F29,(w.heap.size≤c∧c < w2.heap.size∨w3.heap.size≤c∧c < w4.heap.size):=hF29
            have hM29:∀ c∈F29,w.heap.size≤c∧c < w27.heap.size:=fun c hc=>by have:=hN29 c hc; omega
            have hzs29:w27.heap.size≤w29.heap.size:=hC29.size
            have hE29:Ext w w29:=hC29.below hE27 (fun c hc=>(hM29 c hc).1) hE27.size
            have hF30:=hF14x27.chg (oT) hC29 (fun c hc=>by have:=hN29 c hc; omega)
            have hF31:=hB13x27.chg hC29 (fun hm=>by have:=hN29 _ hm; omega)
            refine lw_tvn 1 rfl (wp_plain _ [0,0] rfl (q_add ((k + 1:Nat):Int) rfl rfl (w64n oM sD) zN (lw_tvn 1 rfl ?_)))
            have hPe:=hO29
            exact ⟨((k + 1),v29),_,rfl,⟨rfl,rfl,rfl,rfl,rfl,trivial⟩,⟨hE29,hF30,z11_0,sD,z11_1,(by intro h; exact strE_f (by assumption)),oM⟩,by first | omega | (dsimp only; omega)⟩
        ·
          refine q_eqls true u9 rfl rfl hc8 (zS (e:=21) rfl rfl rfl) (lw_tvn 1 rfl (c_cond_t rfl (wp_exit (t_exit (c_exit_out rfl (t_exit (t_exit (c_exit_here (wp_seq (wp_seq (wp_plain _ [0,3,0,0] rfl ?_)))))))))))
          have hml:=tkm_len (g:=rdB) (l:=wds s) (i:=k) oM
          refine lw_tv 1 rfl (lw_call 10 [] [] [vo] rfl rfl cf10 zN (c_impl_ScheduleText _ vo (((wds s).take k).map rdB) (RN.of_frA (S:=[]) (hPl.fr (good_owS good_rAv) (B:=w.heap.size) (fun b hb=>by (try dsimp only at hb); omega)) (fun b hb=>by cases hb)) oM (hG.ext hE4)) ?_)
          rintro e32 w32 ⟨rfl,hX32⟩
          refine ⟨_,rfl,hX32,?_⟩
          have hzs32:w4.heap.size≤w32.heap.size:=hX32.size
          have hE32:Ext w w32:=hE4.trans hX32
          have hL4_0x32:=hL4_0.ext (oT) hX32
          have hP33:=hPl.ext (good_owS good_rAv) hX32
          refine lw_tv 1 rfl ?_
          cases hc34:(!strE (ba (scL (((wds s).take k).map rdB))) s)
          ·
            refine q_neqs false u9 rfl rfl hc34 zN (lw_nil (c_cond_f rfl (wp_skip (wp_seq (wp_plain _ [0,0,0] rfl (lw_tvn 3 rfl (wp_ret ?_)))))))
            exact post_ret [2,3] rfl (.tuple #[vo,(.int .i64 ((0:Nat):Int))]) rfl (by first | exact rs_ret hE32 ((hP33.fr (good_owS good_rAv) (B:=w.heap.size) (fun b hb=>by (try dsimp only at hb); omega))) (rs_5 (rs_long (by rw [sz_len]; omega))) | exact rs_ret hE32 ((hP33.fr (good_owS good_rAv) (B:=w.heap.size) (fun b hb=>by (try dsimp only at hb); omega))) (rs_f5 (rs_stop oM hd hn (by first | (left; omega) | (right; left; assumption) | (right; right; assumption))) (by assumption)) | exact rs_ret hE32 ((hP33.fr (good_owS good_rAv) (B:=w.heap.size) (fun b hb=>by (try dsimp only at hb); omega))) (rs_f0 (rs_stop oM hd hn (by first | (left; omega) | (right; left; assumption) | (right; right; assumption))) (by assumption)))
          ·
            exact q_neqs true u9 rfl rfl hc34 zN (lw_nil (c_cond_t rfl (wp_seq (wp_plain _ [0,0] rfl (lw_tvn 2 rfl (wp_ret (t_ret (post_ret [2,3] rfl (.tuple #[(.slice none 0 0),(.int .i64 ((5:Nat):Int))]) rfl (by first | exact rs_ret hE32 (frNilS _ _ _) (rs_5 (rs_long (by rw [sz_len]; omega))) | exact rs_ret hE32 (frNilS _ _ _) (rs_f5 (rs_stop oM hd hn (by first | (left; omega) | (right; left; assumption) | (right; right; assumption))) (by assumption)) | exact rs_ret hE32 (frNilS _ _ _) (rs_f0 (rs_stop oM hd hn (by first | (left; omega) | (right; left; assumption) | (right; right; assumption))) (by assumption)))))))))))
      ·
        refine q_eqls true u9 rfl rfl hc7 zN (lw_tvn 4 rfl (c_cond_t rfl (wp_exit (t_exit (c_exit_out rfl (t_exit (t_exit (c_exit_here (wp_seq (wp_seq (wp_plain _ [0,3,0,0] rfl ?_)))))))))))
        have hml:=tkm_len (g:=rdB) (l:=wds s) (i:=k) oM
        refine lw_tv 1 rfl (lw_call 10 [] [] [vo] rfl rfl cf10 zN (c_impl_ScheduleText _ vo (((wds s).take k).map rdB) (RN.of_frA (S:=[]) (hPl.fr (good_owS good_rAv) (B:=w.heap.size) (fun b hb=>by (try dsimp only at hb); omega)) (fun b hb=>by cases hb)) oM (hG.ext hE4)) ?_)
        rintro e35 w35 ⟨rfl,hX35⟩
        refine ⟨_,rfl,hX35,?_⟩
        have hzs35:w4.heap.size≤w35.heap.size:=hX35.size
        have hE35:Ext w w35:=hE4.trans hX35
        have hL4_0x35:=hL4_0.ext (oT) hX35
        have hP36:=hPl.ext (good_owS good_rAv) hX35
        refine lw_tv 1 rfl ?_
        cases hc37:(!strE (ba (scL (((wds s).take k).map rdB))) s)
        ·
          refine q_neqs false u9 rfl rfl hc37 zN (lw_nil (c_cond_f rfl (wp_skip (wp_seq (wp_plain _ [0,0,0] rfl (lw_tvn 3 rfl (wp_ret ?_)))))))
          exact post_ret [2,3] rfl (.tuple #[vo,(.int .i64 ((0:Nat):Int))]) rfl (by first | exact rs_ret hE35 ((hP36.fr (good_owS good_rAv) (B:=w.heap.size) (fun b hb=>by (try dsimp only at hb); omega))) (rs_5 (rs_long (by rw [sz_len]; omega))) | exact rs_ret hE35 ((hP36.fr (good_owS good_rAv) (B:=w.heap.size) (fun b hb=>by (try dsimp only at hb); omega))) (rs_f5 (rs_stop oM hd hn (by first | (left; omega) | (right; left; assumption) | (right; right; assumption))) (by assumption)) | exact rs_ret hE35 ((hP36.fr (good_owS good_rAv) (B:=w.heap.size) (fun b hb=>by (try dsimp only at hb); omega))) (rs_f0 (rs_stop oM hd hn (by first | (left; omega) | (right; left; assumption) | (right; right; assumption))) (by assumption)))
        ·
          exact q_neqs true u9 rfl rfl hc37 zN (lw_nil (c_cond_t rfl (wp_seq (wp_plain _ [0,0] rfl (lw_tvn 2 rfl (wp_ret (t_ret (post_ret [2,3] rfl (.tuple #[(.slice none 0 0),(.int .i64 ((5:Nat):Int))]) rfl (by first | exact rs_ret hE35 (frNilS _ _ _) (rs_5 (rs_long (by rw [sz_len]; omega))) | exact rs_ret hE35 (frNilS _ _ _) (rs_f5 (rs_stop oM hd hn (by first | (left; omega) | (right; left; assumption) | (right; right; assumption))) (by assumption)) | exact rs_ret hE35 (frNilS _ _ _) (rs_f0 (rs_stop oM hd hn (by first | (left; omega) | (right; left; assumption) | (right; right; assumption))) (by assumption)))))))))))
    ·
      refine q_lss false rfl rfl (decide_eq_false hc6) zN (lw_nil (wp_seq (c_cond_f rfl (wp_exit (t_exit (t_exit (c_exit_here (wp_seq (wp_seq (wp_plain _ [0,3,0,0] rfl ?_))))))))))
      have hml:=tkm_len (g:=rdB) (l:=wds s) (i:=k) oM
      refine lw_tv 1 rfl (lw_call 10 [] [] [vo] rfl rfl cf10 zN (c_impl_ScheduleText _ vo (((wds s).take k).map rdB) (RN.of_frA (S:=[]) (hPl.fr (good_owS good_rAv) (B:=w.heap.size) (fun b hb=>by (try dsimp only at hb); omega)) (fun b hb=>by cases hb)) oM (hG.ext hE4)) ?_)
      rintro e38 w38 ⟨rfl,hX38⟩
      refine ⟨_,rfl,hX38,?_⟩
      have hzs38:w4.heap.size≤w38.heap.size:=hX38.size
      have hE38:Ext w w38:=hE4.trans hX38
      have hL4_0x38:=hL4_0.ext (oT) hX38
      have hP39:=hPl.ext (good_owS good_rAv) hX38
      refine lw_tv 1 rfl ?_
      cases hc40:(!strE (ba (scL (((wds s).take k).map rdB))) s)
      ·
        refine q_neqs false u9 rfl rfl hc40 zN (lw_nil (c_cond_f rfl (wp_skip (wp_seq (wp_plain _ [0,0,0] rfl (lw_tvn 3 rfl (wp_ret ?_)))))))
        exact post_ret [2,3] rfl (.tuple #[vo,(.int .i64 ((0:Nat):Int))]) rfl (by first | exact rs_ret hE38 ((hP39.fr (good_owS good_rAv) (B:=w.heap.size) (fun b hb=>by (try dsimp only at hb); omega))) (rs_5 (rs_long (by rw [sz_len]; omega))) | exact rs_ret hE38 ((hP39.fr (good_owS good_rAv) (B:=w.heap.size) (fun b hb=>by (try dsimp only at hb); omega))) (rs_f5 (rs_stop oM hd hn (by first | (left; omega) | (right; left; assumption) | (right; right; assumption))) (by assumption)) | exact rs_ret hE38 ((hP39.fr (good_owS good_rAv) (B:=w.heap.size) (fun b hb=>by (try dsimp only at hb); omega))) (rs_f0 (rs_stop oM hd hn (by first | (left; omega) | (right; left; assumption) | (right; right; assumption))) (by assumption)))
      ·
        exact q_neqs true u9 rfl rfl hc40 zN (lw_nil (c_cond_t rfl (wp_seq (wp_plain _ [0,0] rfl (lw_tvn 2 rfl (wp_ret (t_ret (post_ret [2,3] rfl (.tuple #[(.slice none 0 0),(.int .i64 ((5:Nat):Int))]) rfl (by first | exact rs_ret hE38 (frNilS _ _ _) (rs_5 (rs_long (by rw [sz_len]; omega))) | exact rs_ret hE38 (frNilS _ _ _) (rs_f5 (rs_stop oM hd hn (by first | (left; omega) | (right; left; assumption) | (right; right; assumption))) (by assumption)) | exact rs_ret hE38 (frNilS _ _ _) (rs_f0 (rs_stop oM hd hn (by first | (left; omega) | (right; left; assumption) | (right; right; assumption))) (by assumption)))))))))))
end Go.Proofs.YtlbefjfhfodnlaaGreatDoor
