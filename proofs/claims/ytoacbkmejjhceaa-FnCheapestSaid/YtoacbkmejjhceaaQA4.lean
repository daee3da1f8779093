/- Wd, We: texts of this claim, joined; what the claim does not come to is left out. -/
import Derived.Test.YtoacbkmejjhceaaQA3
import Derived.Test.YtoacbkmejjhceaaProg
set_option linter.unusedVariables false
set_option linter.unusedSimpArgs false
namespace Go.Proofs.Ytoacbkmejjhceaa
open Go Go.RowKit
set_option linter.unusedVariables false
set_option linter.unusedSimpArgs false
set_option maxHeartbeats 4000000
set_option maxRecDepth 100000
attribute [local irreducible] LW
theorem c_spec_l06Cost (w:World) (va:Value) (ws:List Int) (k:Int) (hws:Rd (rdL rI) w.heap va ws) (_hk:-9223372036854775808≤k∧k≤9223372036854775807) (hwg:wgB ws = true) (hk:0≤k∧k≤8) :
  Calls Try.prog 23 #[va,.int .i64 k] w (fun e w'=>e = .returned (.tuple #[.int .i64 (lcV ws k),.int .i64 (lcE ws k)])∧Ext w w'):=by
 refine calls_mk [va,.int .i64 k] 31 Try.func23 rfl rfl sM ?_
 have hE0:Ext w w:=Ext.refl w
 have hl_va:=hws.lenle
 refine wp_seq (wp_plain _ [0,0] rfl (lw_tvn 2 rfl (wp_seq (wp_seq (wp_plain _ [0,3,0] rfl ?_)))))
 have hwl9:=wgB_iff.1 hwg
 have hwl:=hwl9.1
 have hw9:=hwl9.2
 refine lw_tv 1 rfl (lw_call 39 [] [] [va] rfl rfl cf39 zN (c_spec_l06Weights _ _ _ (hws.ext g1 hE0) (by exact hwl) (by exact hw9)) ?_)
 rintro e1 w1 ⟨rfl,hX1⟩
 refine ⟨_,rfl,hX1,?_⟩
 have hzs1:w.heap.size≤w1.heap.size:=hX1.size
 have hE1:Ext w w1:=hE0.trans hX1
 refine q_not false rfl rfl zN (lw_nil (c_cond_f rfl (wp_skip (wp_seq (wp_seq (wp_plain _ [0,0,0] rfl (lw_tv 1 rfl (lw_callq 40 [] [] [(.int .i64 k),(.int .i64 ((0 :Nat):Int)),(.int .i64 ((8 :Nat):Int))] rfl rfl cf40 zN (.bool (decide (((0 :Nat):Int)≤k) && decide (k≤((8 :Nat):Int)))) (fun wq=>c_spec_l00In wq _ _ _ _hk oM oM) (q_not (!(decide (((0 :Nat):Int)≤k) && decide (k≤((8 :Nat):Int)))) rfl rfl zN (lw_nil ?_))))))))))
 cases hb3:(!(decide (((0 :Nat):Int)≤k) && decide (k≤((8 :Nat):Int))))
 ·
  refine c_cond_f (by first | rfl | (show Value.bool _ = _; rw [hb3])) (wp_skip (wp_seq (wp_seq (wp_plain _ [0,0,0] rfl ?_))))
  generalize hg_kq:k = kqI at *
  obtain ⟨kq,rfl⟩:∃ n:Nat,kqI = ((n :Nat):Int):=⟨kqI.toNat,by omega⟩
  have hT:lcT ws ((kq :Nat):Int) = (lc ws kq 0 ws.length).1:=by unfold lcT; rw [Int.toNat_natCast]
  refine lw_tv 1 rfl (q_len (v:=va) u25 rfl hws.isSl zN ?_)
  by_cases hc4:((ws.length :Nat):Int) < ((2 :Nat):Int)
  ·
   exact q_lss true rfl rfl (decide_eq_true hc4) zN (lw_nil (c_cond_t rfl (wp_seq (wp_plain _ [0,0] rfl (lw_tvn 2 rfl (wp_ret (t_ret (post_ret [4,5] rfl (.tuple #[(.int .i64 ((0 :Nat):Int)),(.int .i64 ((0 :Nat):Int))]) rfl ⟨(by rw [lcV_0 (by rw [hT,lc_1 oM]; decide),lcE_0 (by rw [hT,lc_1 oM]; decide),hT,lc_1 oM]; rfl),hE1⟩))))))))
  ·
   refine q_lss false rfl rfl (decide_eq_false hc4) zN (lw_nil (c_cond_f rfl (wp_skip (wp_seq (wp_plain _ [0,0,3,0,0,2,0,2,0,0,0,2,0] rfl (lw_tv 2 rfl (lw_call 30 [] [] [va,(.int .i64 ((kq :Nat):Int))] rfl rfl cf30 zN (c_spec_l06Table _ va ws kq (hws.ext g1 hE1) oM hwl hw9 oM) ?_)))))))
   rintro e5 w5 ⟨v5,T5,rfl,hX5,hO5,hTb5,hTl5⟩
   refine ⟨_,rfl,hX5,?_⟩
   have hzs5:w1.heap.size≤w5.heap.size:=hX5.size
   have hE5:Ext w w5:=hE1.trans hX5
   have hml5:(tbS T5).length = kq + 1:=by rw [tbS_len,hTl5]
   have hL5:=hTb5 kq oM
   have hLl5:=hL5.len
   have hLr5:=hL5.row 0 oM
   have htop:=hTb5.top (c:=kq) oM
   have hbb5:=lc_bd4 (w:=ws) hw9 kq 0 ws.length oM
   refine lw_tv 1 rfl (q_idx (v:=v5) kq u53 ti79 rfl rfl (tb_rd hO5).isSl rfl oM zN ?_)
   obtain ⟨ue6,hl6,hr6⟩:=Rd.get [] (k:=kq) (tb_rd hO5) oM
   refine q_load (p:=eptr v5 kq 1) (.inr rfl) ue6 one79 rfl hl6 zN (q_idx (v:=ue6) 0 u79 ti25 rfl rfl hr6.isSl rfl oM zN ?_)
   obtain ⟨ue7,hl7,hr7⟩:=Rd.get [] (k:=0) hr6 oM
   refine q_load (p:=eptr ue6 0 1) (.inr rfl) ue7 one25 rfl hl7 zN (lw_tv 1 rfl (q_len (v:=va) u25 rfl hws.isSl zN (q_idx (v:=ue7) ws.length u25 ti2 rfl rfl hr7.isSl rfl oM zN ?_)))
   have hg8:=Rd.getI (k:=ws.length) hr7 oM
   refine q_load (p:=eptr ue7 ws.length 1) (.inr rfl) (.int .i64 ((((tbS T5).getD kq []).getD 0 []).getD ws.length 0)) one2 rfl hg8.1 zN (lw_tvn 1 rfl (wp_seq (wp_seq (wp_plain _ [0,0] rfl (lw_tv 1 rfl ?_)))))
   by_cases hc9:(((tbS T5).getD kq []).getD 0 []).getD ws.length 0 < ((0 :Nat):Int)
   ·
    exact q_lss true rfl rfl (decide_eq_true hc9) zN (lw_nil (c_cond_t rfl (wp_seq (wp_plain _ [0,0] rfl (lw_tvn 2 rfl (wp_ret (t_ret (post_ret [4,5] rfl (.tuple #[(.int .i64 ((0 :Nat):Int)),(.int .i64 ((4 :Nat):Int))]) rfl ⟨(by rw [lcV_n oM,lcE_n oM]; rfl),hE5⟩))))))))
   ·
    exact q_lss false rfl rfl (decide_eq_false hc9) zN (lw_nil (c_cond_f rfl (wp_skip (wp_seq (wp_plain _ [0,0,0] rfl (lw_tvn 3 rfl (wp_ret (post_ret [4,5] rfl (.tuple #[(.int .i64 ((((tbS T5).getD kq []).getD 0 []).getD ws.length 0)),(.int .i64 ((0 :Nat):Int))]) rfl ⟨(by rw [lcV_0 oM,lcE_0 oM,hT,← htop]; rfl),hE5⟩))))))))
 ·
  exact c_cond_t (by first | rfl | (show Value.bool _ = _; rw [hb3])) (wp_seq (wp_plain _ [0,0] rfl (lw_tvn 2 rfl (wp_ret (t_ret (post_ret [4,5] rfl (.tuple #[(.int .i64 ((0 :Nat):Int)),(.int .i64 ((2 :Nat):Int))]) rfl ⟨(by exfalso; first | (simp_all; done) | (have h9:=hk.1; have h8:=hk.2; simp_all; omega)),hE1⟩))))))
theorem c_spec_LeastCost (w:World) (va:Value) (ws:List Int) (k:Int) (hws:Rd (rdL rI) w.heap va ws) (_hk:-9223372036854775808≤k∧k≤9223372036854775807) (hwg:wgB ws = true) (hk:0≤k∧k≤8) :
  Calls Try.prog 7 #[va,.int .i64 k] w (fun e w'=>e = .returned (.tuple #[.int .i64 (lcV ws k),.int .i64 (lcE ws k)])∧Ext w w'):=by
 refine calls_mk [va,.int .i64 k] 11 Try.func7 rfl rfl sM ?_
 have hE0:Ext w w:=Ext.refl w
 have hl_va:=hws.lenle
 refine wp_seq (wp_plain _ [0,0] rfl (lw_tvn 2 rfl (wp_seq (wp_plain _ [0,0,3,0,0,0,0] rfl (lw_tv 2 rfl (lw_call 23 [] [] [va,(.int .i64 k)] rfl rfl cf23 zN (c_spec_l06Cost _ _ _ _ (hws.ext g1 hE0) _hk (by exact hwg) oM) ?_))))))
 rintro e1 w1 ⟨rfl,hX1⟩
 refine ⟨_,rfl,hX1,?_⟩
 have hzs1:w.heap.size≤w1.heap.size:=hX1.size
 have hE1:Ext w w1:=hE0.trans hX1
 exact q_extract (vs:=[(.int .i64 (lcV ws k)),(.int .i64 (lcE ws k))]) (.int .i64 (lcV ws k)) rfl rfl zN (q_extract (vs:=[(.int .i64 (lcV ws k)),(.int .i64 (lcE ws k))]) (.int .i64 (lcE ws k)) rfl rfl zN (lw_tvn 2 rfl (wp_ret (post_ret [4,5] rfl (.tuple #[(.int .i64 (lcV ws k)),(.int .i64 (lcE ws k))]) rfl ⟨rfl,hE1⟩))))
theorem z29_0 {p:Prop} (h:p:=by first | omega | (simp only [List.length_append,List.length_cons,List.length_nil]; omega)):p:=h
theorem z29_1 {p:Prop} (h:p:=by simp only [maxLen,List.length_append,List.length_cons,List.length_nil]; omega):p:=h
theorem z29_2 {p:Prop} (h:p:=by simp only [List.map_toArray,List.map_cons,List.map_nil]; rfl):p:=h
theorem z29_3 {p:Prop} (h:p:=by refine ⟨?_,?_⟩ <;> (try unfold i64) <;> (dsimp only; omega)):p:=h
theorem z29_4 {p:Prop} (h:p:=by rw [show b - (a + m) = b - a - m from by omega]; exact hm.rt):p:=h
theorem z29_5 {p:Prop} (h:p:=by rw [show a + m - a = m from by omega]; exact hm.lf):p:=h
theorem z29_6 {p:Prop} (h:p:=by decide):p:=h
theorem c_spec_l06Plan (w:World) (va:Value) (ws:List Int) (vt:Value) (TT:List (List (List Int))) (a:Nat) (b:Nat) (c:Nat) (d:Nat) (held:Bool) (hws:Rd (rdL rI) w.heap va ws) (hTT:Rd (rdL (rdL (rdL rI))) w.heap vt TT) (_ha:a≤1000000000000) (_hb:b≤1000000000000) (_hc:c≤1000000000000) (_hd:d≤1000000000000) (hwl:ws.length≤40) (hw9:∀ i,0≤ws.getD i 0∧ws.getD i 0≤1000) (hTb:TbK ws ws.length TT) (hab:a≤b∧b≤ws.length) (hcd:c < TT.length∧c + d≤8) (h0:0≤(lc ws c a (b - a)).1) (IH:∀ (w1:World) (x y z q:Nat) (hd:Bool),Rd (rdL rI) w1.heap va ws→Rd (rdL (rdL (rdL rI))) w1.heap vt TT→y - x < b - a→(x≤y∧y≤ws.length)→(z < TT.length∧z + q≤8)→0≤(lc ws z x (y - x)).1→Calls Try.prog 29 #[va,vt,.int .i64 ((x :Nat):Int),.int .i64 ((y :Nat):Int),.int .i64 ((z :Nat):Int),.int .i64 ((q :Nat):Int),.bool hd] w1 fun e w'=>∃ v2:Value,e = .returned v2∧Ext w1 w'∧Fr (owS 2 rAv 56) w1.heap.size w'.heap.size w'.heap v2 (pl ws z x (y - x) q hd)) :
  Calls Try.prog 29 #[va,vt,.int .i64 ((a :Nat):Int),.int .i64 ((b :Nat):Int),.int .i64 ((c :Nat):Int),.int .i64 ((d :Nat):Int),.bool held] w (fun e w'=>∃ v2:Value,e = .returned v2∧Ext w w'∧Fr (owS 2 rAv 56) w.heap.size w'.heap.size w'.heap v2 (pl ws c a (b - a) d held)):=by
 refine calls_mk [va,vt,.int .i64 ((a :Nat):Int),.int .i64 ((b :Nat):Int),.int .i64 ((c :Nat):Int),.int .i64 ((d :Nat):Int),.bool held] 77 Try.func29 rfl rfl sM ?_
 have hE0:Ext w w:=Ext.refl w
 have hl_va:=hws.lenle
 have hl_vt:=hTT.lenle
 refine wp_seq (wp_plain _ [0] rfl (lw_tvn 1 rfl (wp_seq (wp_seq (wp_plain _ [0,0,0] rfl (lw_tv 2 rfl ?_))))))
 by_cases hc1:((a :Nat):Int) = ((b :Nat):Int)
 ·
  refine q_eql true rfl rfl (decide_eq_true hc1) zN (lw_nil (c_cond_t rfl (wp_seq (wp_plain _ [3,0] rfl (r_nilS (α:=Av) good_rAv u24 tiS56 zN fun v2 w2 hX2 hz2 hO2=>?_)))))
  have hzs2:w.heap.size≤w2.heap.size:=hX2.size
  have hE2:Ext w w2:=hE0.trans hX2
  refine lw_tvn 1 rfl (wp_ret (t_ret ?_))
  have hFr:Fr (owS 2 rAv 56) w.heap.size w2.heap.size w2.heap v2 (pl ws c a (b - a) d held):=by rw [show b - a = 0 from by omega,pl_0]; exact ((hO2.up (good_owS good_rAv)).low (B':=w.heap.size) oM)
  exact post_ret [14] rfl v2 rfl ⟨_,rfl,hE2,hFr⟩
 ·
  refine q_eql false rfl rfl (decide_eq_false hc1) zN (lw_nil (c_cond_f rfl (wp_skip (wp_seq (wp_seq (wp_plain _ [0,0,0,0] rfl (lw_tv 2 rfl ?_)))))))
  refine q_sub (((b :Nat):Int) - ((a :Nat):Int)) rfl rfl (w64 sD sD) zN ?_
  by_cases hc3:((b :Nat):Int) - ((a :Nat):Int) = ((1 :Nat):Int)
  ·
   refine q_eql true rfl rfl (decide_eq_true hc3) zN (lw_nil (c_cond_t rfl (wp_seq (wp_plain _ [0,3,0] rfl ?_))))
   have hbd4:∀ (wq:World),(Instr.build 56 #[(0,(.int .i64 ((4 :Nat):Int)))]).run Try.prog wq = .ok (.agg #[(.int .i64 ((4 :Nat):Int)),(.int .i64 0)]) wq:=by intro wq; kernel_rfl
   refine q_build (ps:=#[(0,(.int .i64 ((4 :Nat):Int)))]) (.agg #[(.int .i64 ((4 :Nat):Int)),(.int .i64 0)]) z29_2 (fun wq=>hbd4  wq) zN (r_oneS (cs:=[(.int .i64 ((4 :Nat):Int)),(.int .i64 0)]) (y:=(⟨((4 :Nat):Int),0⟩:Av)) (B:=w.heap.size) (U:=w.heap.size) good_rAv u24 tiS56 rfl z29_6 rfl (frN_av (a:=(⟨((4 :Nat):Int),0⟩:Av)) z29_3) oM zN ?_)
   intro v5 w5 hX5 hz5 hO5
   have hzs5:w.heap.size≤w5.heap.size:=hX5.size
   have hE5:Ext w w5:=hE0.trans hX5
   refine lw_tvn 1 rfl (wp_ret (t_ret ?_))
   have hFr:Fr (owS 2 rAv 56) w.heap.size w5.heap.size w5.heap v5 (pl ws c a (b - a) d held):=by rw [show b - a = 1 from by omega,pl_1]; exact ((hO5.up (good_owS good_rAv)).low (B':=w.heap.size) oM)
   exact post_ret [14] rfl v5 rfl ⟨_,rfl,hE5,hFr⟩
  ·
   refine q_eql false rfl rfl (decide_eq_false hc3) zN (lw_nil (c_cond_f rfl (wp_skip (wp_seq (wp_plain _ [0,0,0,0,0,3,0,0,0,0,0] rfl (lw_tv 5 rfl ?_))))))
   refine lw_call 47 [] [] [va,vt,(.int .i64 ((a :Nat):Int)),(.int .i64 ((b :Nat):Int)),(.int .i64 ((c :Nat):Int))] rfl rfl cf47 zN (c_spec_l06Split _ _ _ _ _ (a) (b) (c) (hws.ext g1 hE0) (hTT.ext g3 hE0) sD sD sD (by exact hwl) (by exact hw9) (by exact spT_all hTb oM oM oM)) ?_
   rintro e6 w6 ⟨rfl,hX6⟩
   refine ⟨_,rfl,hX6,?_⟩
   have hzs6:w.heap.size≤w6.heap.size:=hX6.size
   have hE6:Ext w w6:=hE0.trans hX6
   refine lw_tv 1 rfl (q_extract (vs:=[(.int .i64 (((lc ws c a (b - a)).2 :Nat):Int)),(.int .i64 ((lc ws c a (b - a)).1))]) (.int .i64 (((lc ws c a (b - a)).2 :Nat):Int)) rfl rfl zN (q_extract (vs:=[(.int .i64 (((lc ws c a (b - a)).2 :Nat):Int)),(.int .i64 ((lc ws c a (b - a)).1))]) (.int .i64 ((lc ws c a (b - a)).1)) rfl rfl zN (lw_tvn 2 rfl (wp_seq (wp_plain _ [3,0] rfl ?_)))))
   obtain ⟨m,hm⟩:=spk (d:=b - a) oM h0
   have hm1:=hm.m1
   have hm2:=hm.md
   have hc1:=hm.c1
   rw [hm.at_]
   refine r_nilS (α:=Av) good_rAv u24 tiS56 zN fun v7 w7 hX7 hz7 hO7=>?_
   have hzs7:w6.heap.size≤w7.heap.size:=hX7.size
   have hE7:Ext w w7:=hE6.trans hX7
   refine lw_tvn 1 rfl (wp_seq (wp_seq (wp_plain _ [0,0] rfl (lw_tv 1 rfl (q_not (!held) rfl rfl zN (lw_nil ?_))))))
   cases hb8:(!held)
   ·
    refine c_cond_f (by first | rfl | (show Value.bool _ = _; rw [hb8])) (wp_skip (wp_seq (wp_plain _ [0,0,0,0,0,3,4,0] rfl (lw_tv 3 rfl (q_sub ((m :Nat):Int) rfl rfl (w64n oM oM) zN ?_)))))
    have hbd9:∀ (wq:World),(Instr.build 56 #[(0,(.int .i64 ((1 :Nat):Int))),(1,(.int .i64 ((m :Nat):Int)))]).run Try.prog wq = .ok (.agg #[(.int .i64 ((1 :Nat):Int)),(.int .i64 ((m :Nat):Int))]) wq:=by intro wq; kernel_rfl
    refine q_build (ps:=#[(0,(.int .i64 ((1 :Nat):Int))),(1,(.int .i64 ((m :Nat):Int)))]) (.agg #[(.int .i64 ((1 :Nat):Int)),(.int .i64 ((m :Nat):Int))]) z29_2 (fun wq=>hbd9  wq) zN (r_oneS (cs:=[(.int .i64 ((1 :Nat):Int)),(.int .i64 ((m :Nat):Int))]) (y:=(⟨((1 :Nat):Int),((m :Nat):Int)⟩:Av)) (B:=w7.heap.size) (U:=w7.heap.size) good_rAv u24 tiS56 rfl z29_6 rfl (frN_av (a:=(⟨((1 :Nat):Int),((m :Nat):Int)⟩:Av)) z29_3) oM zN ?_)
    intro v10 w10 hX10 hz10 hO10
    have hzs10:w7.heap.size≤w10.heap.size:=hX10.size
    have hE10:Ext w w10:=hE7.trans hX10
    have hO7x10:=hO7.ext ((good_owS good_rAv)) hX10
    refine e_appS (v:=v7) (a:=v10) good_rAv u24 tiS56 rfl z29_6 rfl rfl hO7x10 oM hO10 oM oM z29_0 z29_1 zN fun v11 w11 F11 hC11 hF11 hO11=>?_
    have hzs11:w10.heap.size≤w11.heap.size:=hC11.size
    have hE11:Ext w w11:=hC11.below hE10 (fun c hc=>by have:=hF11 _ hc; omega) hE10.size
    refine lw_tvn 1 rfl (wp_seq (wp_plain _ [0,0,0,0,0,0,0,0,0,3,4,0] rfl (lw_tv 6 rfl (q_sub ((c - 1 :Nat):Int) rfl rfl (w64n oM oM) zN (lw_tv 1 rfl (q_add ((d + 1 :Nat):Int) rfl rfl (w64n oM oM) zN (lw_call 29 [] [] [va,vt,(.int .i64 ((a + m :Nat):Int)),(.int .i64 ((b :Nat):Int)),(.int .i64 ((c - 1 :Nat):Int)),(.int .i64 ((d + 1 :Nat):Int)),(.bool false)] rfl rfl cf29 zN (IH _ (a + m) b (c - 1) (d + 1) false (hws.ext g1 hE11) (hTT.ext g3 hE11) oM oM oM z29_4) ?_)))))))
    rintro e12 w12 ⟨v12,rfl,hX12,hO12⟩
    refine ⟨_,rfl,hX12,?_⟩
    have hzs12:w11.heap.size≤w12.heap.size:=hX12.size
    have hE12:Ext w w12:=hE11.trans hX12
    have hO11x12:=hO11.ext ((good_owS good_rAv)) hX12
    have hpm12:=(pl_mem (b - (a + m)) (w:=ws) (c:=c - 1) (a:=a + m) (ds:=d + 1) (held:=false) oM oM z29_4).1.2 oM
    refine e_appA (v:=v11) (a:=v12) (ys:=pl ws (c - 1) (a + m) (b - (a + m)) (d + 1) false) good_rAv flN_r u24 tiS56 rfl z29_6 rfl rfl hO11x12 oM (RN.of_frA (S:=[]) hO12 (fun b hb=>by cases hb)) z29_0 z29_1 zN fun v13 w13 F13 hC13 hF13 hO13=>?_
    have hzs13:w12.heap.size≤w13.heap.size:=hC13.size
    have hE13:Ext w w13:=hC13.below hE12 (fun c hc=>by have:=hF13 _ hc; omega) hE12.size
    refine lw_tvn 1 rfl (wp_seq (wp_plain _ [0,0,0,3,4,0] rfl (lw_tv 2 rfl ?_)))
    have hbd14:∀ (wq:World),(Instr.build 56 #[(0,(.int .i64 ((3 :Nat):Int))),(1,(.int .i64 ((d :Nat):Int)))]).run Try.prog wq = .ok (.agg #[(.int .i64 ((3 :Nat):Int)),(.int .i64 ((d :Nat):Int))]) wq:=by intro wq; kernel_rfl
    refine q_build (ps:=#[(0,(.int .i64 ((3 :Nat):Int))),(1,(.int .i64 ((d :Nat):Int)))]) (.agg #[(.int .i64 ((3 :Nat):Int)),(.int .i64 ((d :Nat):Int))]) z29_2 (fun wq=>hbd14  wq) zN (r_oneS (cs:=[(.int .i64 ((3 :Nat):Int)),(.int .i64 ((d :Nat):Int))]) (y:=(⟨((3 :Nat):Int),((d :Nat):Int)⟩:Av)) (B:=w13.heap.size) (U:=w13.heap.size) good_rAv u24 tiS56 rfl z29_6 rfl (frN_av (a:=(⟨((3 :Nat):Int),((d :Nat):Int)⟩:Av)) z29_3) oM zN ?_)
    intro v15 w15 hX15 hz15 hO15
    have hzs15:w13.heap.size≤w15.heap.size:=hX15.size
    have hE15:Ext w w15:=hE13.trans hX15
    have hO13x15:=hO13.ext ((good_owS good_rAv)) hX15
    refine e_appS (v:=v13) (a:=v15) good_rAv u24 tiS56 rfl z29_6 rfl rfl hO13x15 oM hO15 oM oM z29_0 z29_1 zN fun v16 w16 F16 hC16 hF16 hO16=>?_
    have hzs16:w15.heap.size≤w16.heap.size:=hC16.size
    have hE16:Ext w w16:=hC16.below hE15 (fun c hc=>by have:=hF16 _ hc; omega) hE15.size
    refine lw_tvn 1 rfl (wp_seq (wp_plain _ [0,0,0,0,0,0,0,3,4,0] rfl (lw_tv 7 rfl (lw_call 29 [] [] [va,vt,(.int .i64 ((a :Nat):Int)),(.int .i64 ((a + m :Nat):Int)),(.int .i64 ((c :Nat):Int)),(.int .i64 ((d :Nat):Int)),(.bool true)] rfl rfl cf29 zN (IH _ a (a + m) c d true (hws.ext g1 hE16) (hTT.ext g3 hE16) oM oM oM z29_5) ?_))))
    rintro e17 w17 ⟨v17,rfl,hX17,hO17⟩
    refine ⟨_,rfl,hX17,?_⟩
    have hzs17:w16.heap.size≤w17.heap.size:=hX17.size
    have hE17:Ext w w17:=hE16.trans hX17
    have hO16x17:=hO16.ext ((good_owS good_rAv)) hX17
    have hpm17:=(pl_mem (a + m - a) (w:=ws) (c:=c) (a:=a) (ds:=d) (held:=true) oM oM z29_5).1.2 oM
    refine e_appA (v:=v16) (a:=v17) (ys:=pl ws c a ((a + m) - a) d true) good_rAv flN_r u24 tiS56 rfl z29_6 rfl rfl hO16x17 oM (RN.of_frA (S:=[]) hO17 (fun b hb=>by cases hb)) z29_0 z29_1 zN fun v18 w18 F18 hC18 hF18 hO18=>?_
    have hzs18:w17.heap.size≤w18.heap.size:=hC18.size
    have hE18:Ext w w18:=hC18.below hE17 (fun c hc=>by have:=hF18 _ hc; omega) hE17.size
    refine lw_tvn 1 rfl (wp_ret ?_)
    have hFr:Fr (owS 2 rAv 56) w.heap.size w18.heap.size w18.heap v18 (pl ws c a (b - a) d held):=by (have e1:b - (a + m) = b - a - m:=by omega); (have e3:a + m - a = m:=by omega); (have h9:=((hO18.up (good_owS good_rAv)).low (B':=w.heap.size) oM)); rw [e1,e3] at h9; rw [pl_s oM h0 hm]; first | ((have hh:held = true:=(by first | assumption | simpa using (by assumption:(!held) = false))); rw [if_pos hh]; simpa [List.append_assoc] using h9) | ((have hh:held = false:=(by simpa using (by assumption:(!held) = true))); rw [if_neg (by rw [hh]; decide)]; simpa [List.append_assoc] using h9)
    exact post_ret [14] rfl v18 rfl ⟨_,rfl,hE18,hFr⟩
   ·
    refine c_cond_t (by first | rfl | (show Value.bool _ = _; rw [hb8])) (wp_plain _ [0,0,0,3,4,0] rfl (lw_tv 2 rfl ?_))
    have hbd19:∀ (wq:World),(Instr.build 56 #[(0,(.int .i64 ((2 :Nat):Int))),(1,(.int .i64 ((d :Nat):Int)))]).run Try.prog wq = .ok (.agg #[(.int .i64 ((2 :Nat):Int)),(.int .i64 ((d :Nat):Int))]) wq:=by intro wq; kernel_rfl
    refine q_build (ps:=#[(0,(.int .i64 ((2 :Nat):Int))),(1,(.int .i64 ((d :Nat):Int)))]) (.agg #[(.int .i64 ((2 :Nat):Int)),(.int .i64 ((d :Nat):Int))]) z29_2 (fun wq=>hbd19  wq) zN (r_oneS (cs:=[(.int .i64 ((2 :Nat):Int)),(.int .i64 ((d :Nat):Int))]) (y:=(⟨((2 :Nat):Int),((d :Nat):Int)⟩:Av)) (B:=w7.heap.size) (U:=w7.heap.size) good_rAv u24 tiS56 rfl z29_6 rfl (frN_av (a:=(⟨((2 :Nat):Int),((d :Nat):Int)⟩:Av)) z29_3) oM zN ?_)
    intro v20 w20 hX20 hz20 hO20
    have hzs20:w7.heap.size≤w20.heap.size:=hX20.size
    have hE20:Ext w w20:=hE7.trans hX20
    have hO7x20:=hO7.ext ((good_owS good_rAv)) hX20
    refine e_appS (v:=v7) (a:=v20) good_rAv u24 tiS56 rfl z29_6 rfl rfl hO7x20 oM hO20 oM oM z29_0 z29_1 zN fun v21 w21 F21 hC21 hF21 hO21=>?_
    have hzs21:w20.heap.size≤w21.heap.size:=hC21.size
    have hE21:Ext w w21:=hC21.below hE20 (fun c hc=>by have:=hF21 _ hc; omega) hE20.size
    refine lw_tvn 1 rfl (wp_seq (wp_plain _ [0,0,0,0,0,3,4,0] rfl (lw_tv 3 rfl (q_sub ((m :Nat):Int) rfl rfl (w64n oM oM) zN ?_))))
    have hbd22:∀ (wq:World),(Instr.build 56 #[(0,(.int .i64 ((1 :Nat):Int))),(1,(.int .i64 ((m :Nat):Int)))]).run Try.prog wq = .ok (.agg #[(.int .i64 ((1 :Nat):Int)),(.int .i64 ((m :Nat):Int))]) wq:=by intro wq; kernel_rfl
    refine q_build (ps:=#[(0,(.int .i64 ((1 :Nat):Int))),(1,(.int .i64 ((m :Nat):Int)))]) (.agg #[(.int .i64 ((1 :Nat):Int)),(.int .i64 ((m :Nat):Int))]) z29_2 (fun wq=>hbd22  wq) zN (r_oneS (cs:=[(.int .i64 ((1 :Nat):Int)),(.int .i64 ((m :Nat):Int))]) (y:=(⟨((1 :Nat):Int),((m :Nat):Int)⟩:Av)) (B:=w21.heap.size) (U:=w21.heap.size) good_rAv u24 tiS56 rfl z29_6 rfl (frN_av (a:=(⟨((1 :Nat):Int),((m :Nat):Int)⟩:Av)) z29_3) oM zN ?_)
    intro v23 w23 hX23 hz23 hO23
    have hzs23:w21.heap.size≤w23.heap.size:=hX23.size
    have hE23:Ext w w23:=hE21.trans hX23
    have hO21x23:=hO21.ext ((good_owS good_rAv)) hX23
    refine e_appS (v:=v21) (a:=v23) good_rAv u24 tiS56 rfl z29_6 rfl rfl hO21x23 oM hO23 oM oM z29_0 z29_1 zN fun v24 w24 F24 hC24 hF24 hO24=>?_
    have hzs24:w23.heap.size≤w24.heap.size:=hC24.size
    have hE24:Ext w w24:=hC24.below hE23 (fun c hc=>by have:=hF24 _ hc; omega) hE23.size
    refine lw_tvn 1 rfl (wp_seq (wp_plain _ [0,0,0,0,0,0,0,0,0,3,4,0] rfl (lw_tv 6 rfl (q_sub ((c - 1 :Nat):Int) rfl rfl (w64n oM oM) zN (lw_tv 1 rfl (q_add ((d + 1 :Nat):Int) rfl rfl (w64n oM oM) zN (lw_call 29 [] [] [va,vt,(.int .i64 ((a + m :Nat):Int)),(.int .i64 ((b :Nat):Int)),(.int .i64 ((c - 1 :Nat):Int)),(.int .i64 ((d + 1 :Nat):Int)),(.bool false)] rfl rfl cf29 zN (IH _ (a + m) b (c - 1) (d + 1) false (hws.ext g1 hE24) (hTT.ext g3 hE24) oM oM oM z29_4) ?_)))))))
    rintro e25 w25 ⟨v25,rfl,hX25,hO25⟩
    refine ⟨_,rfl,hX25,?_⟩
    have hzs25:w24.heap.size≤w25.heap.size:=hX25.size
    have hE25:Ext w w25:=hE24.trans hX25
    have hO24x25:=hO24.ext ((good_owS good_rAv)) hX25
    have hpm25:=(pl_mem (b - (a + m)) (w:=ws) (c:=c - 1) (a:=a + m) (ds:=d + 1) (held:=false) oM oM z29_4).1.2 oM
    refine e_appA (v:=v24) (a:=v25) (ys:=pl ws (c - 1) (a + m) (b - (a + m)) (d + 1) false) good_rAv flN_r u24 tiS56 rfl z29_6 rfl rfl hO24x25 oM (RN.of_frA (S:=[]) hO25 (fun b hb=>by cases hb)) z29_0 z29_1 zN fun v26 w26 F26 hC26 hF26 hO26=>?_
    have hzs26:w25.heap.size≤w26.heap.size:=hC26.size
    have hE26:Ext w w26:=hC26.below hE25 (fun c hc=>by have:=hF26 _ hc; omega) hE25.size
    refine lw_tvn 1 rfl (wp_seq (wp_plain _ [0,0,0,3,4,0] rfl (lw_tv 2 rfl ?_)))
    have hbd27:∀ (wq:World),(Instr.build 56 #[(0,(.int .i64 ((3 :Nat):Int))),(1,(.int .i64 ((d :Nat):Int)))]).run Try.prog wq = .ok (.agg #[(.int .i64 ((3 :Nat):Int)),(.int .i64 ((d :Nat):Int))]) wq:=by intro wq; kernel_rfl
    refine q_build (ps:=#[(0,(.int .i64 ((3 :Nat):Int))),(1,(.int .i64 ((d :Nat):Int)))]) (.agg #[(.int .i64 ((3 :Nat):Int)),(.int .i64 ((d :Nat):Int))]) z29_2 (fun wq=>hbd27  wq) zN (r_oneS (cs:=[(.int .i64 ((3 :Nat):Int)),(.int .i64 ((d :Nat):Int))]) (y:=(⟨((3 :Nat):Int),((d :Nat):Int)⟩:Av)) (B:=w26.heap.size) (U:=w26.heap.size) good_rAv u24 tiS56 rfl z29_6 rfl (frN_av (a:=(⟨((3 :Nat):Int),((d :Nat):Int)⟩:Av)) z29_3) oM zN ?_)
    intro v28 w28 hX28 hz28 hO28
    have hzs28:w26.heap.size≤w28.heap.size:=hX28.size
    have hE28:Ext w w28:=hE26.trans hX28
    have hO26x28:=hO26.ext ((good_owS good_rAv)) hX28
    refine e_appS (v:=v26) (a:=v28) good_rAv u24 tiS56 rfl z29_6 rfl rfl hO26x28 oM hO28 oM oM z29_0 z29_1 zN fun v29 w29 F29 hC29 hF29 hO29=>?_
    have hzs29:w28.heap.size≤w29.heap.size:=hC29.size
    have hE29:Ext w w29:=hC29.below hE28 (fun c hc=>by have:=hF29 _ hc; omega) hE28.size
    refine lw_tvn 1 rfl (wp_seq (wp_plain _ [0,0,0,0,0,0,0,3,4,0] rfl (lw_tv 7 rfl (lw_call 29 [] [] [va,vt,(.int .i64 ((a :Nat):Int)),(.int .i64 ((a + m :Nat):Int)),(.int .i64 ((c :Nat):Int)),(.int .i64 ((d :Nat):Int)),(.bool true)] rfl rfl cf29 zN (IH _ a (a + m) c d true (hws.ext g1 hE29) (hTT.ext g3 hE29) oM oM oM z29_5) ?_))))
    rintro e30 w30 ⟨v30,rfl,hX30,hO30⟩
    refine ⟨_,rfl,hX30,?_⟩
    have hzs30:w29.heap.size≤w30.heap.size:=hX30.size
    have hE30:Ext w w30:=hE29.trans hX30
    have hO29x30:=hO29.ext ((good_owS good_rAv)) hX30
    have hpm30:=(pl_mem (a + m - a) (w:=ws) (c:=c) (a:=a) (ds:=d) (held:=true) oM oM z29_5).1.2 oM
    refine e_appA (v:=v29) (a:=v30) (ys:=pl ws c a ((a + m) - a) d true) good_rAv flN_r u24 tiS56 rfl z29_6 rfl rfl hO29x30 oM (RN.of_frA (S:=[]) hO30 (fun b hb=>by cases hb)) z29_0 z29_1 zN fun v31 w31 F31 hC31 hF31 hO31=>?_
    have hzs31:w30.heap.size≤w31.heap.size:=hC31.size
    have hE31:Ext w w31:=hC31.below hE30 (fun c hc=>by have:=hF31 _ hc; omega) hE30.size
    refine lw_tvn 1 rfl (wp_ret ?_)
    have hFr:Fr (owS 2 rAv 56) w.heap.size w31.heap.size w31.heap v31 (pl ws c a (b - a) d held):=by (have e1:b - (a + m) = b - a - m:=by omega); (have e3:a + m - a = m:=by omega); (have h9:=((hO31.up (good_owS good_rAv)).low (B':=w.heap.size) oM)); rw [e1,e3] at h9; rw [pl_s oM h0 hm]; first | ((have hh:held = true:=(by first | assumption | simpa using (by assumption:(!held) = false))); rw [if_pos hh]; simpa [List.append_assoc] using h9) | ((have hh:held = false:=(by simpa using (by assumption:(!held) = true))); rw [if_neg (by rw [hh]; decide)]; simpa [List.append_assoc] using h9)
    exact post_ret [14] rfl v31 rfl ⟨_,rfl,hE31,hFr⟩
theorem c_plan2A (va vt:Value) (ws:List Int) (TT:List (List (List Int))) (hwl:ws.length≤40) (hw9:∀ i,0≤ws.getD i 0∧ws.getD i 0≤1000) (hTb:TbK ws ws.length TT):∀ (w1:World) (x y z q:Nat) (hd:Bool),Rd (rdL rI) w1.heap va ws→Rd (rdL (rdL (rdL rI))) w1.heap vt TT→ (x≤y∧y≤ws.length)→(z < TT.length∧z + q≤8)→0≤(lc ws z x (y - x)).1→Calls Try.prog 29 #[va,vt,.int .i64 ((x :Nat):Int),.int .i64 ((y :Nat):Int),.int .i64 ((z :Nat):Int),.int .i64 ((q :Nat):Int),.bool hd] w1 fun e w'=>∃ v2:Value,e = .returned v2∧Ext w1 w'∧Fr (owS 2 rAv 56) w1.heap.size w'.heap.size w'.heap v2 (pl ws z x (y - x) q hd):=by
 have H:∀ n:Nat,∀ (w1:World) (x y z q:Nat) (hd:Bool),Rd (rdL rI) w1.heap va ws→Rd (rdL (rdL (rdL rI))) w1.heap vt TT→ y - x < n→(x≤y∧y≤ws.length)→(z < TT.length∧z + q≤8)→0≤(lc ws z x (y - x)).1→Calls Try.prog 29 #[va,vt,.int .i64 ((x :Nat):Int),.int .i64 ((y :Nat):Int),.int .i64 ((z :Nat):Int),.int .i64 ((q :Nat):Int),.bool hd] w1 fun e w'=>∃ v2:Value,e = .returned v2∧Ext w1 w'∧Fr (owS 2 rAv 56) w1.heap.size w'.heap.size w'.heap v2 (pl ws z x (y - x) q hd):=by
  intro n
  induction n with
  | zero=>intro w1 x y z q hd _ _ h; omega
  | succ n ih =>
   intro w1 x y z q hd h1 h2 hn hxy hz h0
   exact c_spec_l06Plan w1 va ws vt TT x y z q hd h1 h2 (by omega) (by omega) (by omega) (by omega) hwl hw9 hTb hxy hz h0 (fun w2 x2 y2 z2 q2 hd2 a1 a2 a3 a4 a5 a6=>ih w2 x2 y2 z2 q2 hd2 a1 a2 (by omega) a4 a5 a6)
 exact fun w1 x y z q hd a1 a2 a4 a5 a6=>H (y - x + 1) w1 x y z q hd a1 a2 (by omega) a4 a5 a6
theorem c_spec_BestSchedule (w:World) (va:Value) (ws:List Int) (k:Int) (hws:Rd (rdL rI) w.heap va ws) (_hk:-9223372036854775808≤k∧k≤9223372036854775807) (hwg:wgB ws = true) (hk:0≤k∧k≤8) :
  Calls Try.prog 10 #[va,.int .i64 k] w (fun e w'=>∃ v2:Value,e = .returned (.tuple #[v2,.int .i64 (lcE ws k)])∧Ext w w'∧Fr (owS 2 rAv 56) w.heap.size w'.heap.size w'.heap v2 (plT ws k)):=by
 refine calls_mk [va,.int .i64 k] 26 Try.func10 rfl rfl sM ?_
 have hE0:Ext w w:=Ext.refl w
 have hl_va:=hws.lenle
 refine wp_seq (wp_plain _ [0,0] rfl (lw_tvn 2 rfl (wp_seq (wp_seq (wp_plain _ [0,0,3,0,0,0,0,0] rfl (lw_tv 2 rfl (lw_call 23 [] [] [va,(.int .i64 k)] rfl rfl cf23 zN (c_spec_l06Cost _ _ _ _ (hws.ext g1 hE0) _hk (by exact hwg) oM) ?_)))))))
 rintro e1 w1 ⟨rfl,hX1⟩
 refine ⟨_,rfl,hX1,?_⟩
 have hzs1:w.heap.size≤w1.heap.size:=hX1.size
 have hE1:Ext w w1:=hE0.trans hX1
 refine lw_tv 1 rfl (q_extract (vs:=[(.int .i64 (lcV ws k)),(.int .i64 (lcE ws k))]) (.int .i64 (lcV ws k)) rfl rfl zN (q_extract (vs:=[(.int .i64 (lcV ws k)),(.int .i64 (lcE ws k))]) (.int .i64 (lcE ws k)) rfl rfl zN (lw_tvn 2 rfl (wp_seq (wp_plain _ [0,0] rfl (lw_tv 1 rfl ?_))))))
 by_cases hc2:lcE ws k≠((0 :Nat):Int)
 ·
  refine q_neq true rfl rfl (decide_eq_true hc2) zN (lw_nil (c_cond_t rfl (wp_seq (wp_plain _ [3,0,0,0] rfl (r_nilS (α:=Av) good_rAv u24 tiS56 zN fun v3 w3 hX3 hz3 hO3=>?_)))))
  have hzs3:w1.heap.size≤w3.heap.size:=hX3.size
  have hE3:Ext w w3:=hE1.trans hX3
  exact lw_tvn 3 rfl (wp_ret (t_ret (post_ret [4,5] rfl (.tuple #[v3,(.int .i64 (lcE ws k))]) rfl ⟨_,(by rfl),hE3,(by (have h9:lcT ws k < 0:=by (have:=@lcE_0 ws k); (by_cases h8:lcT ws k < 0; exact h8; exact absurd (this h8) oM)); rw [show plT ws k = [] from if_pos h9]; exact ((hO3.up (good_owS good_rAv)).low (B':=w.heap.size) oM))⟩)))
 ·
  refine q_neq false rfl rfl (decide_eq_false hc2) zN (lw_nil (c_cond_f rfl (wp_skip (wp_seq (wp_plain _ [0,0,0,3,0,0,0,3,0,0] rfl ?_)))))
  have hwl9:=wgB_iff.1 hwg
  have hwl:=hwl9.1
  have hw9:=hwl9.2
  have hT:¬ lcT ws k < 0:=fun h9=>by rw [lcE_n h9] at *; omega
  have hpT:plT ws k = pl ws k.toNat 0 ws.length 0 false:=if_neg hT
  have hE0q:lcE ws k = 0:=lcE_0 hT
  have hlq:0≤(lc ws k.toNat 0 ws.length).1:=by unfold lcT at hT; omega
  generalize hg_kq:k = kqI at *
  obtain ⟨kq,rfl⟩:∃ n:Nat,kqI = ((n :Nat):Int):=⟨kqI.toNat,by omega⟩
  rw [Int.toNat_natCast] at hpT hlq
  refine lw_tv 3 rfl (lw_call 30 [] [] [va,(.int .i64 ((kq :Nat):Int))] rfl rfl cf30 zN (c_spec_l06Table _ va ws kq (hws.ext g1 hE1) oM hwl hw9 oM) ?_)
  rintro e4 w4 ⟨v4,T4,rfl,hX4,hO4,hTb4,hTl4⟩
  refine ⟨_,rfl,hX4,?_⟩
  have hzs4:w1.heap.size≤w4.heap.size:=hX4.size
  have hE4:Ext w w4:=hE1.trans hX4
  have hml4:(tbS T4).length = kq + 1:=by rw [tbS_len,hTl4]
  have hL4:=hTb4 kq oM
  have hLl4:=hL4.len
  have hLr4:=hL4.row 0 oM
  have htop:=hTb4.top (c:=kq) oM
  have hbb4:=lc_bd4 (w:=ws) hw9 kq 0 ws.length oM
  refine lw_tv 1 rfl (q_len (v:=va) u25 rfl hws.isSl zN (lw_tv 1 rfl (lw_call 29 [] [] [va,v4,(.int .i64 ((0 :Nat):Int)),(.int .i64 ((ws.length :Nat):Int)),(.int .i64 ((kq :Nat):Int)),(.int .i64 ((0 :Nat):Int)),(.bool false)] rfl rfl cf29 zN (c_plan2A va v4 ws (tbS T4) hwl hw9 hTb4 _ 0 ws.length kq 0 false (hws.ext g1 hE4) (tb_rd hO4) oM oM (by rw [Nat.sub_zero]; exact hlq)) ?_)))
  rintro e5 w5 ⟨v5,rfl,hX5,hO5⟩
  refine ⟨_,rfl,hX5,?_⟩
  have hzs5:w4.heap.size≤w5.heap.size:=hX5.size
  have hE5:Ext w w5:=hE4.trans hX5
  exact lw_tvn 2 rfl (wp_ret (post_ret [4,5] rfl (.tuple #[v5,(.int .i64 ((0 :Nat):Int))]) rfl ⟨_,(by rw [hE0q]; rfl),hE5,(by rw [hpT]; (have h9:=((hO5.up (good_owS good_rAv)).low (B':=w.heap.size) oM)); rw [Nat.sub_zero] at h9; exact h9)⟩))
end Go.Proofs.Ytoacbkmejjhceaa
namespace Go.Proofs.Ytoacbkmejjhceaa
open Go Go.RowKit
set_option linter.unusedVariables false
set_option linter.unusedSimpArgs false
set_option maxHeartbeats 4000000
set_option maxRecDepth 100000
attribute [local irreducible] LW
theorem c_laws_f6big (w:World) (vc:Value) (cs:List UInt8) (hcs:Rd (rdL rU) w.heap vc cs)  :
  Calls Try.prog 4 #[vc] w (fun e w'=>e = .returned (.bool (decide (((4096 :Nat):Int) < ((cs.length :Nat):Int))))∧Ext w w'):=by
 refine calls_mk [vc] 6 Try.func4 rfl rfl sM ?_
 have hE0:Ext w w:=Ext.refl w
 have hl_vc:=hcs.lenle
 exact wp_seq (wp_plain _ [0] rfl (lw_tvn 1 rfl (wp_seq (wp_plain _ [0,0,0,0] rfl (lw_tv 1 rfl (q_len (v:=vc) u22 rfl hcs.isSl zN (q_gtr (decide (((4096 :Nat):Int) < ((cs.length :Nat):Int))) rfl rfl rfl zN (lw_tvn 1 rfl (wp_ret (post_ret [2] rfl (.bool (decide (((4096 :Nat):Int) < ((cs.length :Nat):Int)))) rfl ⟨rfl,hE0⟩))))))))))
theorem z3_0 {p:Prop} (h:p:=by intro u hu; simp only [List.mem_cons,List.not_mem_nil,or_false] at hu; rcases hu with rfl | rfl | rfl | rfl | rfl <;> first | exact ⟨rfl,rfl⟩):p:=h
theorem z3_1 {p:Prop} (h:p:=by first | rfl | exact ret_bool (decide_eq_true hno) | exact ret_bool (by simp_all)):p:=h
theorem z3_2 {p:Prop} (h:p:=by have:=hLD.k; omega):p:=h
theorem c_laws_FnCheapest (w:World) (vc:Value) (cs:List UInt8) (hcs:Rd (rdL rU) w.heap vc cs)  :
  Calls Try.prog 3 #[vc] w (fun e w'=>e = .returned (.bool true)∧Ext w w'):=by
 refine calls_mk [vc] 130 Try.func3 rfl rfl sM ?_
 have hE0:Ext w w:=Ext.refl w
 have hl_vc:=hcs.lenle
 refine wp_seq (wp_plain _ [0] rfl (lw_tvn 1 rfl (wp_seq (wp_seq (wp_plain _ [0,3] rfl (lw_tv 1 rfl (lw_call 4 [] [] [vc] rfl rfl cf4 zN (c_laws_f6big _ _ _ (hcs.ext good_u hE0)) ?_)))))))
 rintro e1 w1 ⟨rfl,hX1⟩
 refine ⟨_,rfl,hX1,?_⟩
 have hzs1:w.heap.size≤w1.heap.size:=hX1.size
 have hE1:Ext w w1:=hE0.trans hX1
 refine lw_nil ?_
 cases hb2:(decide (((4096 :Nat):Int) < ((cs.length :Nat):Int)))
 ·
  have hdc3:=of_decide_eq_false hb2
  refine c_cond_f (by first | rfl | (show Value.bool _ = _; rw [hb2])) (wp_skip (wp_seq (wp_plain _ [0,3,0,0,0,0,0,0,0] rfl (lw_tv 1 rfl (lw_call 5 [] [] [vc] rfl rfl cf5 zN (c_spec_LawChain _ vc _ (hcs.ext good_u hE1) oM) ?_)))))
  rintro e4 w4 ⟨vlD,vwD,lD,wD,kD,rfl,hX4,hlD,hwD,hLD⟩
  refine ⟨_,rfl,hX4,?_⟩
  have hzs4:w1.heap.size≤w4.heap.size:=hX4.size
  have hE4:Ext w w4:=hE1.trans hX4
  have hsl:=schB_iff.1 hLD.sch
  have hkD:=hLD.k
  have hwl:=hLD.wl
  have hwg:=wg_all (w:=wD) oM hLD.wb
  have hpl:=plT_len (w:=wD) (k:=kD) hwg oM
  refine lw_tv 1 rfl (q_extract (vs:=[vlD,vwD,(.int .i64 kD)]) vlD rfl rfl zN (q_extract (vs:=[vlD,vwD,(.int .i64 kD)]) vwD rfl rfl zN (q_extract (vs:=[vlD,vwD,(.int .i64 kD)]) (.int .i64 kD) rfl rfl zN (lw_tvn 3 rfl (wp_seq (wp_plain _ [0,0,3,0,0,0,0,0] rfl (lw_tv 2 rfl (lw_call 6 [] [] [vwD,(.int .i64 kD)] rfl rfl cf6 zN (c_impl_LeastCost _ _ _ _ hwD.rd1 z3_2 (by exact hwg) oM) ?_))))))))
  rintro e5 w5 ⟨rfl,hX5⟩
  refine ⟨_,rfl,hX5,?_⟩
  have hzs5:w4.heap.size≤w5.heap.size:=hX5.size
  have hE5:Ext w w5:=hE4.trans hX5
  have hlDx5:=hlD.ext ((good_owS good_rAv)) hX5
  have hwDx5:=hwD.ext (o1) hX5
  refine lw_tv 1 rfl (q_extract (vs:=[(.int .i64 (lcV wD kD)),(.int .i64 (lcE wD kD))]) (.int .i64 (lcV wD kD)) rfl rfl zN (q_extract (vs:=[(.int .i64 (lcV wD kD)),(.int .i64 (lcE wD kD))]) (.int .i64 (lcE wD kD)) rfl rfl zN (lw_tvn 2 rfl (wp_seq (wp_plain _ [0,0,3,0,0,0,0,0] rfl (lw_tv 2 rfl (lw_call 7 [] [] [vwD,(.int .i64 kD)] rfl rfl cf7 zN (c_spec_LeastCost _ _ _ _ hwDx5.rd1 z3_2 (by exact hwg) oM) ?_)))))))
  rintro e6 w6 ⟨rfl,hX6⟩
  refine ⟨_,rfl,hX6,?_⟩
  have hzs6:w5.heap.size≤w6.heap.size:=hX6.size
  have hE6:Ext w w6:=hE5.trans hX6
  have hlDx6:=hlDx5.ext ((good_owS good_rAv)) hX6
  have hwDx6:=hwDx5.ext (o1) hX6
  refine lw_tv 1 rfl (q_extract (vs:=[(.int .i64 (lcV wD kD)),(.int .i64 (lcE wD kD))]) (.int .i64 (lcV wD kD)) rfl rfl zN (q_extract (vs:=[(.int .i64 (lcV wD kD)),(.int .i64 (lcE wD kD))]) (.int .i64 (lcE wD kD)) rfl rfl zN (lw_tvn 2 rfl (wp_seq (wp_seq (wp_plain _ [0,0,0,0,0,0,0,0] rfl (lw_tv 2 rfl (q_neq false rfl rfl sM zN (lw_tv 3 rfl (q_neq false rfl rfl sM (zS (e:=43) rfl rfl rfl) (lw_tvn 1 rfl (c_cond_f rfl (wp_skip (wp_seq (wp_plain _ [0,0,0,3,0,0,0,3,4,0] rfl (lw_tv 3 rfl (lw_call 8 [] [] [vlD,vwD,(.int .i64 kD)] rfl rfl cf8 zN (c_impl_RunSchedule _ vlD lD vwD wD (kD) (RN.of_frA (S:=[]) hlDx6 (fun b hb=>by cases hb)) hwDx6.rd1 z3_2) ?_)))))))))))))))))
  rintro e7 w7 ⟨rfl,hX7⟩
  refine ⟨_,rfl,hX7,?_⟩
  have hzs7:w6.heap.size≤w7.heap.size:=hX7.size
  have hE7:Ext w w7:=hE6.trans hX7
  have hlDx7:=hlDx6.ext ((good_owS good_rAv)) hX7
  have hwDx7:=hwDx6.ext (o1) hX7
  refine lw_tv 1 rfl (q_extract (vs:=[(.agg #[(.int .i64 ((rnU lD wD (kD)).cost)),(.int .i64 ((rnU lD wD (kD)).adv)),(.int .i64 ((rnU lD wD (kD)).st)),(.int .i64 ((rnU lD wD (kD)).ld)),(.int .i64 ((rnU lD wD (kD)).sl))]),(.int .i64 (rnA lD wD (kD)))]) (.agg #[(.int .i64 ((rnU lD wD (kD)).cost)),(.int .i64 ((rnU lD wD (kD)).adv)),(.int .i64 ((rnU lD wD (kD)).st)),(.int .i64 ((rnU lD wD (kD)).ld)),(.int .i64 ((rnU lD wD (kD)).sl))]) rfl rfl zN (q_extract (vs:=[(.agg #[(.int .i64 ((rnU lD wD (kD)).cost)),(.int .i64 ((rnU lD wD (kD)).adv)),(.int .i64 ((rnU lD wD (kD)).st)),(.int .i64 ((rnU lD wD (kD)).ld)),(.int .i64 ((rnU lD wD (kD)).sl))]),(.int .i64 (rnA lD wD (kD)))]) (.int .i64 (rnA lD wD (kD))) rfl rfl zN (r_allocA (z:=.agg #[.int .i64 0,.int .i64 0,.int .i64 0,.int .i64 0,.int .i64 0]) zr31 zN fun w8 hX8 hz8 hB8=>?_)))
  have hzs8:w7.heap.size≤w8.heap.size:=hX8.size
  have hE8:Ext w w8:=hE7.trans hX8
  have hlDx8:=hlDx7.ext ((good_owS good_rAv)) hX8
  have hwDx8:=hwDx7.ext (o1) hX8
  replace hB8:BX w8.heap w7.heap.size [(.int .i64 0),(.int .i64 0),(.int .i64 0),(.int .i64 0),(.int .i64 0)]:=hB8
  refine e_setA (vs:=[(.int .i64 ((rnU lD wD (kD)).cost)),(.int .i64 ((rnU lD wD (kD)).adv)),(.int .i64 ((rnU lD wD (kD)).st)),(.int .i64 ((rnU lD wD (kD)).ld)),(.int .i64 ((rnU lD wD (kD)).sl))]) agg31 rfl rfl z3_0 hB8 rfl rfl zN fun w9 hC9 hz9 hB9=>?_
  replace hB9:BX w9.heap w7.heap.size [(.int .i64 ((rnU lD wD (kD)).cost)),(.int .i64 ((rnU lD wD (kD)).adv)),(.int .i64 ((rnU lD wD (kD)).st)),(.int .i64 ((rnU lD wD (kD)).ld)),(.int .i64 ((rnU lD wD (kD)).sl))]:=hB9
  have hzs9:w8.heap.size≤w9.heap.size:=hC9.size
  have hE9:Ext w w9:=hC9.below hE8 (fun c hc=>by have:=List.mem_singleton.1 hc; omega) hE8.size
  have hF11:=hwDx8.chg (o1) hC9 (fun c hc=>by have:=List.mem_singleton.1 hc; omega)
  refine lw_tvn 1 rfl (wp_seq (wp_plain _ [0,0,3,0,0,0,0,0] rfl (lw_tv 2 rfl (lw_call 9 [] [] [vwD,(.int .i64 kD)] rfl rfl cf9 zN (c_impl_BestSchedule _ vwD wD (kD) hF11.rd1 z3_2 (by exact hwg) oM) ?_))))
  rintro e12 w12 ⟨v12,rfl,hX12,hO12⟩
  refine ⟨_,rfl,hX12,?_⟩
  have hzs12:w9.heap.size≤w12.heap.size:=hX12.size
  have hE12:Ext w w12:=hE9.trans hX12
  have hF11x12:=hF11.ext (o1) hX12
  have hB9x12:=hB9.ext hX12
  have hle12:=lcE_rng (w:=wD) (k:=kD)
  refine lw_tv 1 rfl (q_extract (vs:=[v12,(.int .i64 (lcE wD (kD)))]) v12 rfl rfl zN (q_extract (vs:=[v12,(.int .i64 (lcE wD (kD)))]) (.int .i64 (lcE wD (kD))) rfl rfl zN (lw_tvn 2 rfl (wp_seq (wp_plain _ [0,0,3,0,0,0,0,0] rfl (lw_tv 2 rfl (lw_call 10 [] [] [vwD,(.int .i64 kD)] rfl rfl cf10 zN (c_spec_BestSchedule _ vwD wD (kD) hF11x12.rd1 z3_2 (by exact hwg) oM) ?_)))))))
  rintro e13 w13 ⟨v13,rfl,hX13,hO13⟩
  refine ⟨_,rfl,hX13,?_⟩
  have hzs13:w12.heap.size≤w13.heap.size:=hX13.size
  have hE13:Ext w w13:=hE12.trans hX13
  have hF11x13:=hF11x12.ext (o1) hX13
  have hB9x13:=hB9x12.ext hX13
  have hO12x13:=hO12.ext ((good_owS good_rAv)) hX13
  have hle13:=lcE_rng (w:=wD) (k:=kD)
  refine lw_tv 1 rfl (q_extract (vs:=[v13,(.int .i64 (lcE wD (kD)))]) v13 rfl rfl zN (q_extract (vs:=[v13,(.int .i64 (lcE wD (kD)))]) (.int .i64 (lcE wD (kD))) rfl rfl zN (lw_tvn 2 rfl (wp_seq (wp_seq (wp_plain _ [0,0,0,0,0,0,3,0,0] rfl (lw_tv 2 rfl (q_neq false rfl rfl sM zN (lw_tv 3 rfl (lw_call 11 [] [] [v12,v13] rfl rfl cf11 (zS (e:=70) rfl rfl rfl) (c_laws_f6actions _ v12 (plT wD (kD)) v13 (plT wD (kD)) (RN.of_frA (S:=[]) hO12x13 (fun b hb=>by cases hb)) (RN.of_frA (S:=[]) hO13 (fun b hb=>by cases hb)) oM oM) ?_))))))))))
  rintro e14 w14 ⟨rfl,hX14⟩
  refine ⟨_,rfl,hX14,?_⟩
  have hzs14:w13.heap.size≤w14.heap.size:=hX14.size
  have hE14:Ext w w14:=hE13.trans hX14
  have hF11x14:=hF11x13.ext (o1) hX14
  have hB9x14:=hB9x13.ext hX14
  have hO13x14:=hO13.ext ((good_owS good_rAv)) hX14
  rw [show (decide ((plT wD (kD)) = (plT wD (kD)))) = true from decide_eq_true rfl]
  refine q_not false rfl rfl (zS (e:=70) rfl rfl rfl) (lw_tvn 1 rfl (c_cond_f rfl (wp_skip (wp_seq (wp_seq (wp_plain _ [0,0] rfl (lw_tv 1 rfl ?_)))))))
  by_cases hc15:lcE wD kD≠((0 :Nat):Int)
  ·
   refine q_neq true rfl rfl (decide_eq_true hc15) zN (lw_nil (c_cond_t rfl (wp_seq (wp_plain _ [0,0,0,0,0,0,0,0] rfl ?_))))
   have hno:=least_no (l:=lD) (k:=kD) hLD.sch hwg oM oM
   refine lw_tv 1 rfl ?_
   have hc16:(rnA lD wD (kD))≠((0 :Nat):Int):=hno
   exact q_neq true rfl rfl (decide_eq_true hc16) zN (lw_tv 3 rfl (q_eql (decide ((lcE wD (kD)) = lcE wD kD)) rfl rfl rfl (zS (e:=80) rfl rfl rfl) (lw_tvn 2 rfl (wp_ret (t_ret (post_ret [2] rfl (.bool (decide ((lcE wD (kD)) = lcE wD kD))) rfl ⟨z3_1,hE14⟩))))))
  ·
   refine q_neq false rfl rfl (decide_eq_false hc15) zN (lw_nil (c_cond_f rfl (wp_skip (wp_seq (wp_plain _ [0,0,0,3,0,0,0,3,4,0] rfl ?_)))))
   have hE0q:lcE wD kD = 0:=by omega
   have hPD:=plD (w:=wD) (k:=kD) hwg oM hE0q
   refine lw_tv 3 rfl (lw_call 8 [] [] [v13,vwD,(.int .i64 kD)] rfl rfl cf8 zN (c_impl_RunSchedule _ v13 (plT wD (kD)) vwD wD (kD) (RN.of_frA (S:=[]) hO13x14 (fun b hb=>by cases hb)) hF11x14.rd1 z3_2) ?_)
   rintro e17 w17 ⟨rfl,hX17⟩
   refine ⟨_,rfl,hX17,?_⟩
   have hzs17:w14.heap.size≤w17.heap.size:=hX17.size
   have hE17:Ext w w17:=hE14.trans hX17
   have hF11x17:=hF11x14.ext (o1) hX17
   have hB9x17:=hB9x14.ext hX17
   have hO13x17:=hO13x14.ext ((good_owS good_rAv)) hX17
   refine lw_tv 1 rfl (q_extract (vs:=[(.agg #[(.int .i64 ((rnU (plT wD (kD)) wD (kD)).cost)),(.int .i64 ((rnU (plT wD (kD)) wD (kD)).adv)),(.int .i64 ((rnU (plT wD (kD)) wD (kD)).st)),(.int .i64 ((rnU (plT wD (kD)) wD (kD)).ld)),(.int .i64 ((rnU (plT wD (kD)) wD (kD)).sl))]),(.int .i64 (rnA (plT wD (kD)) wD (kD)))]) (.agg #[(.int .i64 ((rnU (plT wD (kD)) wD (kD)).cost)),(.int .i64 ((rnU (plT wD (kD)) wD (kD)).adv)),(.int .i64 ((rnU (plT wD (kD)) wD (kD)).st)),(.int .i64 ((rnU (plT wD (kD)) wD (kD)).ld)),(.int .i64 ((rnU (plT wD (kD)) wD (kD)).sl))]) rfl rfl zN ?_)
   refine q_extract (vs:=[(.agg #[(.int .i64 ((rnU (plT wD (kD)) wD (kD)).cost)),(.int .i64 ((rnU (plT wD (kD)) wD (kD)).adv)),(.int .i64 ((rnU (plT wD (kD)) wD (kD)).st)),(.int .i64 ((rnU (plT wD (kD)) wD (kD)).ld)),(.int .i64 ((rnU (plT wD (kD)) wD (kD)).sl))]),(.int .i64 (rnA (plT wD (kD)) wD (kD)))]) (.int .i64 (rnA (plT wD (kD)) wD (kD))) rfl rfl zN ?_
   have hq19:=hB9x17.lt
   refine r_allocA (z:=.agg #[.int .i64 0,.int .i64 0,.int .i64 0,.int .i64 0,.int .i64 0]) zr31 zN fun w18 hX18 hz18 hB18=>?_
   have hzs18:w17.heap.size≤w18.heap.size:=hX18.size
   have hE18:Ext w w18:=hE17.trans hX18
   have hF11x18:=hF11x17.ext (o1) hX18
   have hB9x18:=hB9x17.ext hX18
   have hO13x18:=hO13x17.ext ((good_owS good_rAv)) hX18
   replace hB18:BX w18.heap w17.heap.size [(.int .i64 0),(.int .i64 0),(.int .i64 0),(.int .i64 0),(.int .i64 0)]:=hB18
   refine e_setA (vs:=[(.int .i64 ((rnU (plT wD (kD)) wD (kD)).cost)),(.int .i64 ((rnU (plT wD (kD)) wD (kD)).adv)),(.int .i64 ((rnU (plT wD (kD)) wD (kD)).st)),(.int .i64 ((rnU (plT wD (kD)) wD (kD)).ld)),(.int .i64 ((rnU (plT wD (kD)) wD (kD)).sl))]) agg31 rfl rfl z3_0 hB18 rfl rfl zN fun w20 hC20 hz20 hB20=>?_
   replace hB20:BX w20.heap w17.heap.size [(.int .i64 ((rnU (plT wD (kD)) wD (kD)).cost)),(.int .i64 ((rnU (plT wD (kD)) wD (kD)).adv)),(.int .i64 ((rnU (plT wD (kD)) wD (kD)).st)),(.int .i64 ((rnU (plT wD (kD)) wD (kD)).ld)),(.int .i64 ((rnU (plT wD (kD)) wD (kD)).sl))]:=hB20
   have hzs20:w18.heap.size≤w20.heap.size:=hC20.size
   have hE20:Ext w w20:=hC20.below hE18 (fun c hc=>by have:=List.mem_singleton.1 hc; omega) hE18.size
   have hF22:=hF11x18.chg (o1) hC20 (fun c hc=>by have:=List.mem_singleton.1 hc; omega)
   have hF23:=hB9x18.chg hC20 (fun hm=>by have:=List.mem_singleton.1 hm; omega)
   have hF25:=hO13x18.chg ((good_owS good_rAv)) hC20 (fun c hc=>by have:=List.mem_singleton.1 hc; omega)
   refine lw_tvn 1 rfl (wp_seq (wp_plain _ [0,0,0,0,3,0,0,0,0,0] rfl (lw_tv 2 rfl (q_len (v:=vwD) u25 rfl hF22.isSl zN (lw_tv 1 rfl (lw_call 12 [] [] [v13,(.int .i64 ((wD.length :Nat):Int)),(.int .i64 kD)] rfl rfl cf12 zN (c_impl_TrimSchedule _ v13 (plT wD (kD)) (((wD.length :Nat):Int)) (kD) (RN.of_frA (S:=[]) hF25 (fun b hb=>by cases hb)) oM z3_2 oM) ?_))))))
   rintro e26 w26 ⟨v26,rfl,hX26,hO26⟩
   refine ⟨_,rfl,hX26,?_⟩
   have hzs26:w20.heap.size≤w26.heap.size:=hX26.size
   have hE26:Ext w w26:=hE20.trans hX26
   have hF23x26:=hF23.ext hX26
   have hF25x26:=hF25.ext ((good_owS good_rAv)) hX26
   have hB20x26:=hB20.ext hX26
   refine lw_tv 1 rfl (q_extract (vs:=[v26,(.int .i64 (tmC (plT wD (kD)) (((wD.length :Nat):Int)) (kD)))]) v26 rfl rfl zN (q_extract (vs:=[v26,(.int .i64 (tmC (plT wD (kD)) (((wD.length :Nat):Int)) (kD)))]) (.int .i64 (tmC (plT wD (kD)) (((wD.length :Nat):Int)) (kD))) rfl rfl zN (lw_tvn 2 rfl (wp_seq (wp_seq (wp_plain _ [0,0,0,0,0,0,0,0,0,0,0,0,0,3,0,0] rfl ?_))))))
   have hrm27:Fr (owS 2 rAv 56) w20.heap.size w26.heap.size w26.heap v26 ((plT wD kD)):=by have h:=hO26; rw [hPD.r] at h; exact h
   refine lw_tv 1 rfl ?_
   have hc28:¬ ((lcE wD (kD))≠((0 :Nat):Int)):=(fun h9=>h9 hE0q)
   refine q_neq false rfl rfl (decide_eq_false hc28) zN (lw_tv 2 rfl ?_)
   have hc29:¬ ((rnA (plT wD (kD)) wD (kD))≠((0 :Nat):Int)):=(fun h9=>h9 hPD.v0)
   refine q_neq false rfl rfl (decide_eq_false hc29) (zS (e:=102) rfl rfl rfl) (lw_tv 3 rfl ?_)
   have hc30:¬ ((tmC (plT wD (kD)) (((wD.length :Nat):Int)) (kD))≠((0 :Nat):Int)):=(fun h9=>h9 hPD.c)
   refine q_neq false rfl rfl (decide_eq_false hc30) (zS (e:=106) rfl rfl rfl) (lw_tv 4 rfl (lw_call 11 [] [] [v26,v13] rfl rfl cf11 (zS (e:=110) rfl rfl rfl) (c_laws_f6actions _ v26 (plT wD kD) v13 (plT wD (kD)) (RN.of_frA (S:=[]) hrm27 (fun b hb=>by cases hb)) (RN.of_frA (S:=[]) hF25x26 (fun b hb=>by cases hb)) oM oM) ?_))
   rintro e31 w31 ⟨rfl,hX31⟩
   refine ⟨_,rfl,hX31,?_⟩
   have hzs31:w26.heap.size≤w31.heap.size:=hX31.size
   have hE31:Ext w w31:=hE26.trans hX31
   have hF23x31:=hF23x26.ext hX31
   have hB20x31:=hB20x26.ext hX31
   have hrm27x31:=hrm27.ext ((good_owS good_rAv)) hX31
   rw [show (decide ((plT wD kD) = (plT wD (kD)))) = true from decide_eq_true rfl]
   refine q_not false rfl rfl (zS (e:=110) rfl rfl rfl) (lw_tvn 1 rfl (c_cond_f rfl (wp_skip (wp_seq (wp_plain _ [0,2,0,0,0,0,0,0,0,2,0,0,0,0,0] rfl ?_)))))
   have hge:=least_ge (l:=lD) hLD.sch hwg (k:=kD) oM
   refine q_fldP (p:=(.pointer (some ⟨w17.heap.size,0,none⟩))) (b:=w17.heap.size) (o:=0) 0 fd31_0 rfl rfl zN (q_load (p:=(padd (.pointer (some ⟨w17.heap.size,0,none⟩)) 0)) (.inr rfl) (.int .i64 ((rnU (plT wD (kD)) wD (kD)).cost)) one2 rfl (hB20x31.ldp (i:=0) sM) zN (lw_tv 1 rfl ?_))
   have hc32:(rnU (plT wD (kD)) wD (kD)).cost = lcV wD kD:=hPD.cost
   refine q_eql true rfl rfl (decide_eq_true hc32) zN (lw_tv 2 rfl ?_)
   by_cases hc33:(rnA lD wD (kD))≠((0 :Nat):Int)
   ·
    exact q_neq true rfl rfl (decide_eq_true hc33) (zS (e:=120) rfl rfl rfl) (lw_tvn 8 rfl (wp_ret (post_ret [2] rfl (.bool true) rfl ⟨z3_1,hE31⟩)))
   ·
    exact q_neq false rfl rfl (decide_eq_false hc33) (zS (e:=120) rfl rfl rfl) (lw_tv 1 rfl (q_fldP (p:=(.pointer (some ⟨w7.heap.size,0,none⟩))) (b:=w7.heap.size) (o:=0) 0 fd31_0 rfl rfl (zS (e:=123) rfl rfl rfl) (q_load (p:=(padd (.pointer (some ⟨w7.heap.size,0,none⟩)) 0)) (.inr rfl) (.int .i64 ((rnU lD wD (kD)).cost)) one2 rfl (hF23x31.ldp (i:=0) sM) (zS (e:=123) rfl rfl rfl) (lw_tv 1 rfl (q_geq (decide (lcV wD kD≤(rnU lD wD (kD)).cost)) rfl rfl rfl (zS (e:=123) rfl rfl rfl) (lw_tvn 3 rfl (wp_ret (post_ret [2] rfl (.bool (decide (lcV wD kD≤(rnU lD wD (kD)).cost))) rfl ⟨z3_1,hE31⟩))))))))
 ·
  have hdc34:=of_decide_eq_true hb2
  exact c_cond_t (by first | rfl | (show Value.bool _ = _; rw [hb2])) (wp_seq (wp_plain _ [0] rfl (lw_tvn 1 rfl (wp_ret (t_ret (post_ret [2] rfl (.bool true) rfl ⟨z3_1,hE1⟩))))))
end Go.Proofs.Ytoacbkmejjhceaa
