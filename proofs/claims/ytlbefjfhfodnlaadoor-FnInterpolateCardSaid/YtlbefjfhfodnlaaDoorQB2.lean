/- T, Sa, Sb, Sk, St, Sv, Sw, Sx, Lc, Lh, Wc, We: texts of this claim, joined; what the claim does not come to is left out. -/
import Derived.Test.YtlbefjfhfodnlaaDoorQB1
import Derived.Test.YtlbefjfhfodnlaaDoorProg
import Derived.Shelf.LaySoft
import Derived.Shelf.Strings.OnBuilder
import Derived.Shelf.Small.Strs
import Derived.Shelf.LaysM
import Derived.Shelf.LaysC
import Derived.Shelf.Strconv.Itoa4
import Derived.Shelf.Strconv.ParseIntPublic10
import Derived.Shelf.Strings.Split
import Derived.Ground.NamesProg
import Derived.WalkSmall
import Derived.Lib.LaidU8
import Derived.LaidLaws
set_option linter.unusedVariables false
set_option linter.unusedSimpArgs false
namespace Go.Proofs.YtlbefjfhfodnlaaDoor
open Go Go.RowKit
theorem mixed:Tryd.prog.follows .mixedOrders = true:=by kernel_rfl
theorem cf5:((Tryd.prog.funcs[5]?).map fun fn=>(fn.name != "runtime.NumGoroutine") && fn.body.isSome) = some true:=by kernel_rfl
theorem cf6:((Tryd.prog.funcs[6]?).map fun fn=>(fn.name != "runtime.NumGoroutine") && fn.body.isSome) = some true:=by kernel_rfl
theorem cf7:((Tryd.prog.funcs[7]?).map fun fn=>(fn.name != "runtime.NumGoroutine") && fn.body.isSome) = some true:=by kernel_rfl
theorem cf8:((Tryd.prog.funcs[8]?).map fun fn=>(fn.name != "runtime.NumGoroutine") && fn.body.isSome) = some true:=by kernel_rfl
theorem cf9:((Tryd.prog.funcs[9]?).map fun fn=>(fn.name != "runtime.NumGoroutine") && fn.body.isSome) = some true:=by kernel_rfl
theorem cf10:((Tryd.prog.funcs[10]?).map fun fn=>(fn.name != "runtime.NumGoroutine") && fn.body.isSome) = some true:=by kernel_rfl
theorem cf11:((Tryd.prog.funcs[11]?).map fun fn=>(fn.name != "runtime.NumGoroutine") && fn.body.isSome) = some true:=by kernel_rfl
theorem cf17:((Tryd.prog.funcs[17]?).map fun fn=>(fn.name != "runtime.NumGoroutine") && fn.body.isSome) = some true:=by kernel_rfl
theorem cf18:((Tryd.prog.funcs[18]?).map fun fn=>(fn.name != "runtime.NumGoroutine") && fn.body.isSome) = some true:=by kernel_rfl
theorem cf19:((Tryd.prog.funcs[19]?).map fun fn=>(fn.name != "runtime.NumGoroutine") && fn.body.isSome) = some true:=by kernel_rfl
theorem cf20:((Tryd.prog.funcs[20]?).map fun fn=>(fn.name != "runtime.NumGoroutine") && fn.body.isSome) = some true:=by kernel_rfl
theorem cf21:((Tryd.prog.funcs[21]?).map fun fn=>(fn.name != "runtime.NumGoroutine") && fn.body.isSome) = some true:=by kernel_rfl
theorem cf22:((Tryd.prog.funcs[22]?).map fun fn=>(fn.name != "runtime.NumGoroutine") && fn.body.isSome) = some true:=by kernel_rfl
theorem cf23:((Tryd.prog.funcs[23]?).map fun fn=>(fn.name != "runtime.NumGoroutine") && fn.body.isSome) = some true:=by kernel_rfl
theorem cf24:((Tryd.prog.funcs[24]?).map fun fn=>(fn.name != "runtime.NumGoroutine") && fn.body.isSome) = some true:=by kernel_rfl
theorem cf25:((Tryd.prog.funcs[25]?).map fun fn=>(fn.name != "runtime.NumGoroutine") && fn.body.isSome) = some true:=by kernel_rfl
theorem cf26:((Tryd.prog.funcs[26]?).map fun fn=>(fn.name != "runtime.NumGoroutine") && fn.body.isSome) = some true:=by kernel_rfl
theorem cf27:((Tryd.prog.funcs[27]?).map fun fn=>(fn.name != "runtime.NumGoroutine") && fn.body.isSome) = some true:=by kernel_rfl
theorem cf28:((Tryd.prog.funcs[28]?).map fun fn=>(fn.name != "runtime.NumGoroutine") && fn.body.isSome) = some true:=by kernel_rfl
theorem cf29:((Tryd.prog.funcs[29]?).map fun fn=>(fn.name != "runtime.NumGoroutine") && fn.body.isSome) = some true:=by kernel_rfl
theorem cf33:((Tryd.prog.funcs[33]?).map fun fn=>(fn.name != "runtime.NumGoroutine") && fn.body.isSome) = some true:=by kernel_rfl
theorem cf35:((Tryd.prog.funcs[35]?).map fun fn=>(fn.name != "runtime.NumGoroutine") && fn.body.isSome) = some true:=by kernel_rfl
theorem cf38:((Tryd.prog.funcs[38]?).map fun fn=>(fn.name != "runtime.NumGoroutine") && fn.body.isSome) = some true:=by kernel_rfl
theorem cf39:((Tryd.prog.funcs[39]?).map fun fn=>(fn.name != "runtime.NumGoroutine") && fn.body.isSome) = some true:=by kernel_rfl
theorem cf40:((Tryd.prog.funcs[40]?).map fun fn=>(fn.name != "runtime.NumGoroutine") && fn.body.isSome) = some true:=by kernel_rfl
theorem cf41:((Tryd.prog.funcs[41]?).map fun fn=>(fn.name != "runtime.NumGoroutine") && fn.body.isSome) = some true:=by kernel_rfl
theorem cf42:((Tryd.prog.funcs[42]?).map fun fn=>(fn.name != "runtime.NumGoroutine") && fn.body.isSome) = some true:=by kernel_rfl
theorem cf43:((Tryd.prog.funcs[43]?).map fun fn=>(fn.name != "runtime.NumGoroutine") && fn.body.isSome) = some true:=by kernel_rfl
theorem cf44:((Tryd.prog.funcs[44]?).map fun fn=>(fn.name != "runtime.NumGoroutine") && fn.body.isSome) = some true:=by kernel_rfl
theorem cf51:((Tryd.prog.funcs[51]?).map fun fn=>(fn.name != "runtime.NumGoroutine") && fn.body.isSome) = some true:=by kernel_rfl
theorem cf53:((Tryd.prog.funcs[53]?).map fun fn=>(fn.name != "runtime.NumGoroutine") && fn.body.isSome) = some true:=by kernel_rfl
theorem cf54:((Tryd.prog.funcs[54]?).map fun fn=>(fn.name != "runtime.NumGoroutine") && fn.body.isSome) = some true:=by kernel_rfl
theorem cf55:((Tryd.prog.funcs[55]?).map fun fn=>(fn.name != "runtime.NumGoroutine") && fn.body.isSome) = some true:=by kernel_rfl
theorem cf56:((Tryd.prog.funcs[56]?).map fun fn=>(fn.name != "runtime.NumGoroutine") && fn.body.isSome) = some true:=by kernel_rfl
theorem cf71:((Tryd.prog.funcs[71]?).map fun fn=>(fn.name != "runtime.NumGoroutine") && fn.body.isSome) = some true:=by kernel_rfl
theorem one2:oneTy Tryd.prog 2:=by unfold oneTy; kernel_rfl
theorem one3:oneTy Tryd.prog 3:=by unfold oneTy; kernel_rfl
theorem one5:oneTy Tryd.prog 5:=by unfold oneTy; kernel_rfl
theorem one9:oneTy Tryd.prog 9:=by unfold oneTy; kernel_rfl
theorem one22:oneTy Tryd.prog 22:=by unfold oneTy; kernel_rfl
theorem one64:oneTy Tryd.prog 64:=by unfold oneTy; kernel_rfl
theorem sz2:(Tryd.prog.info? 2).map (·.size) = some 1:=by kernel_rfl
theorem sz3:(Tryd.prog.info? 3).map (·.size) = some 1:=by kernel_rfl
theorem sz64:(Tryd.prog.info? 64).map (·.size) = some 1:=by kernel_rfl
theorem ti2:TI Tryd.prog 2 1 (.int .i64 0) 8:=by unfold TI; kernel_rfl
theorem ti5:TI Tryd.prog 5 1 (.int .u8 0) 1:=by unfold TI; kernel_rfl
theorem ti9:TI Tryd.prog 9 1 (.string ByteArray.empty) 16:=by unfold TI; kernel_rfl
theorem u2:Tryd.prog.underlying 2 = some (.int .i64):=by kernel_rfl
theorem u3:Tryd.prog.underlying 3 = some (.int .i64):=by kernel_rfl
theorem u4:Tryd.prog.underlying 4 = some (.bool):=by kernel_rfl
theorem u5:Tryd.prog.underlying 5 = some (.int .u8):=by kernel_rfl
theorem u9:Tryd.prog.underlying 9 = some (.string):=by kernel_rfl
theorem u22:Tryd.prog.underlying 22 = some (.slice 5):=by kernel_rfl
theorem u24:Tryd.prog.underlying 24 = some (.slice 2):=by kernel_rfl
theorem u52:Tryd.prog.underlying 52 = some (.slice 9):=by kernel_rfl
theorem u64:Tryd.prog.underlying 64 = some (.int .u64):=by kernel_rfl
end Go.Proofs.YtlbefjfhfodnlaaDoor
namespace Go.Proofs.YtlbefjfhfodnlaaDoor
open Go Go.RowKit
set_option linter.unusedVariables false
set_option linter.unusedSimpArgs false
set_option maxHeartbeats 4000000
set_option maxRecDepth 100000
attribute [local irreducible] LW
theorem c_impl_within (w:World) (n:Int) (low:Int) (high:Int) (_hn:-9223372036854775808≤n∧n≤9223372036854775807) (_hlow:-9223372036854775808≤low∧low≤9223372036854775807) (_hhigh:-9223372036854775808≤high∧high≤9223372036854775807)  :
  Calls Tryd.prog 40 #[.int .i64 n,.int .i64 low,.int .i64 high] w (fun e w'=>e = .returned (.bool (decide (low≤n) && decide (n≤high)))∧w' = w):=by
 refine calls_mk [.int .i64 n,.int .i64 low,.int .i64 high] 15 Tryd.func40 rfl rfl sM ?_
 have hE0:w = w:=rfl
 refine wp_seq (wp_plain _ [0] rfl (lw_tvn 1 rfl (wp_seq (wp_plain _ [0,0,0,0,0,0,0,0,0] rfl (lw_tv 2 rfl ?_)))))
 by_cases hc1:low≤n
 ·
  exact q_geq true rfl rfl (decide_eq_true hc1) zN (lw_tv 3 rfl (q_leq (decide (n≤high)) rfl rfl rfl (zS (e:=10) rfl rfl rfl) (lw_tvn 2 rfl (wp_ret (post_ret [6] rfl (.bool (decide (n≤high))) rfl ⟨(ret_bool (by simp [*])),hE0⟩)))))
 ·
  exact q_geq false rfl rfl (decide_eq_false hc1) zN (lw_tvn 6 rfl (wp_ret (post_ret [6] rfl (.bool false) rfl ⟨(ret_bool (by simp [*])),hE0⟩)))
theorem c_impl_Residue (w:World) (n:Int) (_hn:-9223372036854775808≤n∧n≤9223372036854775807)  :
  Calls Tryd.prog 27 #[.int .i64 n] w (fun e w'=>e = .returned (.int .i64 (md n))∧w' = w):=by
 refine calls_mk [.int .i64 n] 7 Tryd.func27 rfl rfl sM ?_
 have hE0:w = w:=rfl
 exact wp_seq (wp_plain _ [0] rfl (lw_tvn 1 rfl (wp_seq (wp_plain _ [0,0,0,0,0] rfl (lw_tv 1 rfl (q_rem (n.tmod 1000003) rfl rfl (by decide) rfl zN (q_add (wr ((n.tmod 1000003) + ((1000003 :Nat):Int))) rfl rfl rfl zN (q_rem ((wr ((n.tmod 1000003) + ((1000003 :Nat):Int))).tmod 1000003) rfl rfl (by decide) rfl zN (lw_tvn 1 rfl (wp_ret (post_ret [2] rfl (.int .i64 ((wr ((n.tmod 1000003) + ((1000003 :Nat):Int))).tmod 1000003)) rfl ⟨(ret_int (res_eq n)),hE0⟩)))))))))))
theorem c_impl_Plus (w:World) (a:Int) (b:Int) (_ha:-9223372036854775808≤a∧a≤9223372036854775807) (_hb:-9223372036854775808≤b∧b≤9223372036854775807)  :
  Calls Tryd.prog 26 #[.int .i64 a,.int .i64 b] w (fun e w'=>e = .returned (.int .i64 (md (a + b)))∧w' = w):=by
 refine calls_mk [.int .i64 a,.int .i64 b] 11 Tryd.func26 rfl rfl sM ?_
 have hE0:w = w:=rfl
 exact wp_seq (wp_plain _ [0] rfl (lw_tvn 1 rfl (wp_seq (wp_plain _ [0,0,0,0,0,0,0] rfl (lw_tv 1 rfl (lw_callq 27 [] [] [(.int .i64 a)] rfl rfl cf27 zN (.int .i64 (md a)) (fun wq=>c_impl_Residue wq _ _ha) (lw_tv 1 rfl (lw_callq 27 [] [] [(.int .i64 b)] rfl rfl cf27 zN (.int .i64 (md b)) (fun wq=>c_impl_Residue wq _ _hb) (q_add (wr ((md a) + (md b))) rfl rfl rfl zN (q_rem ((wr ((md a) + (md b))).tmod 1000003) rfl rfl (by decide) rfl zN (lw_tvn 1 rfl (wp_ret (post_ret [4] rfl (.int .i64 ((wr ((md a) + (md b))).tmod 1000003)) rfl ⟨(ret_int (plus_eq a b)),hE0⟩)))))))))))))
theorem c_impl_minus (w:World) (a:Int) (b:Int) (_ha:-9223372036854775808≤a∧a≤9223372036854775807) (_hb:-9223372036854775808≤b∧b≤9223372036854775807)  :
  Calls Tryd.prog 24 #[.int .i64 a,.int .i64 b] w (fun e w'=>e = .returned (.int .i64 (md (a - b)))∧w' = w):=by
 refine calls_mk [.int .i64 a,.int .i64 b] 10 Tryd.func24 rfl rfl sM ?_
 have hE0:w = w:=rfl
 exact wp_seq (wp_plain _ [0] rfl (lw_tvn 1 rfl (wp_seq (wp_plain _ [0,0,0,0,0,0] rfl (lw_tv 2 rfl (lw_callq 27 [] [] [(.int .i64 b)] rfl rfl cf27 zN (.int .i64 (md b)) (fun wq=>c_impl_Residue wq _ _hb) (q_sub (wr (((1000003 :Nat):Int) - (md b))) rfl rfl rfl zN (lw_callq 26 [] [] [(.int .i64 a),(.int .i64 (wr (((1000003 :Nat):Int) - (md b))))] rfl rfl cf26 zN (.int .i64 (md (a + (wr (((1000003 :Nat):Int) - (md b)))))) (fun wq=>c_impl_Plus wq _ _ _ha (wr_rng _)) (lw_tvn 1 rfl (wp_ret (post_ret [4] rfl (.int .i64 (md (a + (wr (((1000003 :Nat):Int) - (md b)))))) rfl ⟨(ret_int (minus_eq a b)),hE0⟩)))))))))))
theorem z42_0 {p:Prop} (h:p:=by exact ⟨by omega,by first | exact pw_odd hI.2 oM (by assumption) | exact pw_even hI.2 oM (by assumption)⟩):p:=h
theorem c_impl_Power (w:World) (a:Int) (n:Int) (_ha:-9223372036854775808≤a∧a≤9223372036854775807) (_hn:-9223372036854775808≤n∧n≤9223372036854775807)  :
  Calls Tryd.prog 42 #[.int .i64 a,.int .i64 n] w (fun e w'=>e = .returned (.int .i64 (pw a n))∧w' = w):=by
 refine calls_mk [.int .i64 a,.int .i64 n] 27 Tryd.func42 rfl rfl sM ?_
 have hE0:w = w:=rfl
 refine wp_seq (wp_plain _ [0] rfl (lw_tvn 1 rfl (wp_seq (wp_seq (wp_plain _ [0,0] rfl (lw_tv 1 rfl ?_))))))
 by_cases hc1:n < ((0 :Nat):Int)
 ·
  exact q_lss true rfl rfl (decide_eq_true hc1) zN (lw_nil (c_cond_t rfl (wp_seq (wp_plain _ [0] rfl (lw_tvn 1 rfl (wp_ret (t_ret (post_ret [4] rfl (.int .i64 ((0 :Nat):Int)) rfl ⟨(ret_int (pw_neg (by assumption))),hE0⟩))))))))
 ·
  refine q_lss false rfl rfl (decide_eq_false hc1) zN (lw_nil (c_cond_f rfl (wp_skip (wp_seq (wp_plain _ [0] rfl (lw_tvn 1 rfl (wp_seq (wp_seq (wp_plain _ [0,0,0] rfl (lw_tv 1 rfl (lw_callq 27 [] [] [(.int .i64 a)] rfl rfl cf27 zN (.int .i64 (md a)) (fun wq=>c_impl_Residue wq _ _ha) (lw_tvn 1 rfl (wp_block ?_)))))))))))))
  refine c_loop (S:=Int × Int × Int) (fun (⟨m,x,b⟩:Int × Int × Int)=>([(1,(.int .i64 m)),(5,(.int .i64 x)),(6,(.int .i64 b))]:List (Nat × Value))) (fun (⟨m,x,b⟩:Int × Int × Int) (W:World)=>W = w∧(0≤m∧md (x * b ^ m.toNat) = md (a ^ n.toNat))∧m≤9223372036854775807∧(0≤x∧x < 1000003)∧(0≤b∧b < 1000003)) (fun (⟨m,x,b⟩:Int × Int × Int)=>m.toNat) (n,((1 :Nat):Int),(md a)) ⟨rfl,rfl,rfl,trivial⟩ ⟨hE0,(by exact ⟨by omega,pw_start a n.toNat⟩),oM,oM,(by exact md_num _)⟩ ?_
  clear hE0
  rintro ⟨m,x,b⟩ ρ3 w3 ⟨hE3,hI,hm,hx,hb⟩
  refine wp_seq (wp_seq (wp_plain _ [0,0] rfl (lw_tv 1 rfl ?_)))
  by_cases hc4:((0 :Nat):Int) < m
  ·
   refine q_gtr true rfl rfl (decide_eq_true hc4) zN (lw_nil (c_cond_t rfl (wp_skip (wp_seq (wp_block (wp_seq (wp_seq (wp_plain _ [0,0,0] rfl (lw_tv 1 rfl (q_rem (m % 2) rfl rfl (by decide) (tm2 hI.1) zN ?_))))))))))
   by_cases hc5:m % 2 = ((1 :Nat):Int)
   ·
    refine q_eql true rfl rfl (decide_eq_true hc5) zN (lw_nil (c_cond_t rfl (wp_plain _ [0,0,0,0,0] rfl (lw_tv 2 rfl (q_mul (wr (x * b)) rfl rfl rfl zN (q_rem (md (x * b)) rfl rfl (by decide) (nm_eq hx hb) zN (lw_tvn 1 rfl (wp_plain _ [0,0,0,0,0] rfl (lw_tv 2 rfl (q_mul (wr (b * b)) rfl rfl rfl zN (q_rem (md (b * b)) rfl rfl (by decide) (nm_eq hb hb) zN (lw_tvn 1 rfl (wp_plain _ [0,0,0] rfl (lw_tv 1 rfl (q_quo (m / 2) rfl rfl (by decide) (td2 hI.1 hm) zN (lw_tvn 1 rfl ?_))))))))))))))))
    exact ⟨((m / 2),(md (x * b)),(md (b * b))),_,rfl,⟨rfl,rfl,rfl,trivial⟩,⟨hE3,z42_0,oM,(by first | exact hx | exact md_num _),(by exact md_num _)⟩,by first | omega | (dsimp only; omega)⟩
   ·
    exact q_eql false rfl rfl (decide_eq_false hc5) zN (lw_nil (c_cond_f rfl (wp_skip (wp_plain _ [0,0,0,0,0] rfl (lw_tv 2 rfl (q_mul (wr (b * b)) rfl rfl rfl zN (q_rem (md (b * b)) rfl rfl (by decide) (nm_eq hb hb) zN (lw_tvn 1 rfl (wp_plain _ [0,0,0] rfl (lw_tv 1 rfl (q_quo (m / 2) rfl rfl (by decide) (td2 hI.1 hm) zN (lw_tvn 1 rfl ⟨((m / 2),x,(md (b * b))),_,rfl,⟨rfl,rfl,rfl,trivial⟩,⟨hE3,z42_0,oM,(by first | exact hx | exact md_num _),(by exact md_num _)⟩,by first | omega | (dsimp only; omega)⟩))))))))))))
  ·
   exact q_gtr false rfl rfl (decide_eq_false hc4) zN (lw_nil (c_cond_f rfl (wp_exit (t_exit (t_exit (c_exit_here (wp_seq (wp_plain _ [0,0] rfl (lw_tvn 2 rfl (wp_ret (post_ret [4] rfl (.int .i64 x) rfl ⟨(ret_int (pw_end hI.2 hI.1 (by assumption) (by assumption) hx)),hE3⟩)))))))))))
theorem c_impl_inverse (w:World) (a:Int) (_ha:-9223372036854775808≤a∧a≤9223372036854775807)  :
  Calls Tryd.prog 25 #[.int .i64 a] w (fun e w'=>e = .returned (.int .i64 (inv a))∧w' = w):=by
 refine calls_mk [.int .i64 a] 5 Tryd.func25 rfl rfl sM ?_
 have hE0:w = w:=rfl
 exact wp_seq (wp_plain _ [0] rfl (lw_tvn 1 rfl (wp_seq (wp_plain _ [0,0,0] rfl (lw_tv 1 rfl (lw_callq 42 [] [] [(.int .i64 a),(.int .i64 ((1000001 :Nat):Int))] rfl rfl cf42 zN (.int .i64 (pw a ((1000001 :Nat):Int))) (fun wq=>c_impl_Power wq _ _ _ha oM) (lw_tvn 1 rfl (wp_ret (post_ret [2] rfl (.int .i64 (pw a ((1000001 :Nat):Int))) rfl ⟨rfl,hE0⟩)))))))))
theorem c_impl_isNumber (w:World) (n:Int) (_hn:-9223372036854775808≤n∧n≤9223372036854775807)  :
  Calls Tryd.prog 55 #[.int .i64 n] w (fun e w'=>e = .returned (.bool (isN n))∧w' = w):=by
 refine calls_mk [.int .i64 n] 5 Tryd.func55 rfl rfl sM ?_
 have hE0:w = w:=rfl
 exact wp_seq (wp_plain _ [0] rfl (lw_tvn 1 rfl (wp_seq (wp_plain _ [0,0,0] rfl (lw_tv 1 rfl (lw_callq 40 [] [] [(.int .i64 n),(.int .i64 ((0 :Nat):Int)),(.int .i64 ((1000002 :Nat):Int))] rfl rfl cf40 zN (.bool (decide (((0 :Nat):Int)≤n) && decide (n≤((1000002 :Nat):Int)))) (fun wq=>c_impl_within wq _ _ _ _hn oM oM) (lw_tvn 1 rfl (wp_ret (post_ret [2] rfl (.bool (decide (((0 :Nat):Int)≤n) && decide (n≤((1000002 :Nat):Int)))) rfl ⟨(ret_bool (by unfold isN; rfl)),hE0⟩)))))))))
theorem c_impl_areNumbers_1 (w:World) (n:Int) (_hn:-9223372036854775808≤n∧n≤9223372036854775807)  :
  Calls Tryd.prog 54 #[.int .i64 n] w (fun e w'=>e = .returned (.bool (!isN n))∧Ext w w'):=by
 refine calls_mk [.int .i64 n] 6 Tryd.func54 rfl rfl sM ?_
 have hE0:Ext w w:=Ext.refl w
 exact wp_seq (wp_plain _ [0] rfl (lw_tvn 1 rfl (wp_seq (wp_plain _ [0,0,0,0] rfl (lw_tv 1 rfl (lw_callq 55 [] [] [(.int .i64 n)] rfl rfl cf55 zN (.bool (isN n)) (fun wq=>c_impl_isNumber wq _ _hn) (q_not (!(isN n)) rfl rfl zN (lw_tvn 1 rfl (wp_ret (post_ret [2] rfl (.bool (!(isN n))) rfl ⟨rfl,hE0⟩))))))))))
end Go.Proofs.YtlbefjfhfodnlaaDoor
namespace Go.Proofs.YtlbefjfhfodnlaaDoor
open Go Go.RowKit
set_option linter.unusedVariables false
set_option linter.unusedSimpArgs false
set_option maxHeartbeats 4000000
set_option maxRecDepth 100000
attribute [local irreducible] LW
def ixF {α:Type} (p:α→Bool) (l:List α):Int:=if l.any p then ((l.findIdx p:Nat):Int) else -1
theorem ix_yes {α:Type} {p:α→Bool} {l:List α} {k:Nat} (d:α) (h:∀ j,j < k→p (l.getD j d) = false) (hk:k < l.length) (hp:p (l.getD k d) = true):((k:Nat):Int) = ixF p l:=by
  have e:∀ j,(hj:j < l.length)→l.getD j d = l[j]:=fun j hj=>by simp [hj]
  have h1:l.any p = true:=List.any_eq_true.2 ⟨l[k],List.getElem_mem hk,by rw [← e k hk]; exact hp⟩
  have h2:l.findIdx p = k:=by
    rw [List.findIdx_eq hk]
    refine ⟨by rw [← e k hk]; exact hp,fun j hj=>?_⟩
    have:=h j hj
    rw [e j (by omega)] at this
    exact this
  unfold ixF; rw [if_pos h1,h2]
theorem ix_no {α:Type} {p:α→Bool} {l:List α} {k:Nat} (d:α) (h:∀ j,j < k→p (l.getD j d) = false) (hk:l.length≤k):(-1:Int) = ixF p l:=by
  have h1:l.any p = false:=by
    rw [List.any_eq_false]
    intro x hx
    obtain ⟨j,hj,rfl⟩:=List.getElem_of_mem hx
    have:=h j (by omega)
    have e:l.getD j d = l[j]:=by simp [hj]
    rw [e] at this
    simp [this]
  unfold ixF; rw [h1]; rfl
theorem ix_ge {α:Type} (p:α→Bool) (l:List α):decide (((0:Nat):Int)≤ixF p l) = l.any p:=by
  unfold ixF
  split
  · rename_i h; rw [h]; exact decide_eq_true (by omega)
  · rename_i h; rw [Bool.not_eq_true] at h; rw [h]; exact decide_eq_false (by omega)
theorem ix_step {α:Type} {p:α→Bool} {l:List α} {k:Nat} {d:α} (h:∀ j,j < k→p (l.getD j d) = false) (hp:p (l.getD k d) = false):∀ j,j < k + 1→p (l.getD j d) = false:=by
  intro j hj
  by_cases e:j = k
  · subst e; exact hp
  · exact h j (by omega)
theorem c_slices_IndexFunc___int64_int64_ (w:World) (va:Value) (a:List Int) (q:Nat) (qf qc:List Value) (p:Int→Bool) (ha:Rd (rdL rI) w.heap va a) (hcf_q:((Tryd.prog.funcs[q]?).map fun fn=>(fn.name != "runtime.NumGoroutine") && fn.body.isSome) = some true) (hp:∀ (x:Int),-9223372036854775808≤x∧x≤9223372036854775807→∀ w1,Ext w w1→Calls Tryd.prog q (qf++[Value.int .i64 x]++qc).toArray w1 (fun e w2=>e = .returned (.bool (p x))∧Ext w1 w2))  :
  Calls Tryd.prog 71 #[va,.func (.func q) qf.toArray qc.toArray] w (fun e w'=>e = .returned (.int .i64 (ixF p a))∧Ext w w'):=by
 refine calls_mk [va,.func (.func q) qf.toArray qc.toArray] 19 Tryd.func71 rfl rfl sM ?_
 have hE0:Ext w w:=Ext.refl w
 have hl_va:=ha.lenle
 refine wp_seq (wp_plain _ [0] rfl (lw_tvn 1 rfl (wp_seq (wp_seq (wp_plain _ [0,0,0] rfl (lw_tv 1 rfl (q_len (v:=va) u24 rfl ha.isSl zN (lw_tvn 1 rfl (wp_block ?_)))))))))
 refine c_loop (S:=Nat) (fun (k:Nat)=>([(8,(.int .i64 ((k :Nat):Int))),(0,va),(1,(.func (.func q) qf.toArray qc.toArray)),(7,(.int .i64 ((a.length :Nat):Int)))]:List (Nat × Value))) (fun (k:Nat) (W:World)=>Ext w W∧k≤a.length∧(∀ j,j < k→p (a.getD j 0) = false)) (fun (k:Nat)=>a.length - k) 0 ⟨rfl,rfl,rfl,rfl,trivial⟩ ⟨hE0,sD,(by intro j hj; omega)⟩ ?_
 clear hE0
 rintro k ρ1 w1 ⟨hE1,hp1_0,hq⟩
 have hzs1:w.heap.size≤w1.heap.size:=hE1.size
 refine wp_seq (wp_plain _ [0] rfl ?_)
 by_cases hc2:((k :Nat):Int) < ((a.length :Nat):Int)
 ·
  refine q_lss true rfl rfl (decide_eq_true hc2) zN (lw_nil (wp_seq (c_cond_t rfl (wp_skip (wp_seq (wp_block (wp_seq (wp_plain _ [0,0] rfl (lw_tvn 2 rfl (wp_seq (wp_plain _ [0,0,0,0,2,3] rfl (lw_tv 3 rfl (q_idx (v:=va) k u24 ti2 rfl rfl ha.isSl rfl sD zN ?_)))))))))))))
  refine q_load (p:=eptr va k 1) (.inr rfl) (.int .i64 (a.getD k 0)) one2 rfl (ldH_ext hE1 (ha.getI sD).1) zN ?_
  have hcall3:=hp (a.getD k 0) (ha.getI sD).2 _ hE1
  refine lw_call q qf qc _ rfl rfl hcf_q zN hcall3 ?_
  rintro e3 w3 ⟨rfl,hX3⟩
  refine ⟨_,rfl,hX3,?_⟩
  have hzs3:=hX3.size
  have hE3:=hE1.trans hX3
  cases hc3:p (a.getD k 0)
  ·
   refine lw_nil (c_cond_f rfl (wp_skip (wp_plain _ [0,0] rfl (q_add ((k + 1 :Nat):Int) rfl rfl (w64n oM sD) zN (lw_tvn 1 rfl ?_)))))
   exact ⟨(k + 1),_,rfl,⟨rfl,rfl,rfl,rfl,trivial⟩,⟨hE3,sD,(by exact ix_step hq (by assumption))⟩,by first | omega | (dsimp only; omega)⟩
  ·
   exact lw_nil (c_cond_t rfl (wp_seq (wp_plain _ [0,0] rfl (lw_tvn 2 rfl (wp_ret (b_ret (t_ret (t_ret (b_ret (t_ret (post_ret [4] rfl (.int .i64 ((k :Nat):Int)) rfl ⟨(ret_int (ix_yes 0 hq oM (by assumption))),hE3⟩)))))))))))
 ·
  exact q_lss false rfl rfl (decide_eq_false hc2) zN (lw_nil (wp_seq (c_cond_f rfl (wp_exit (t_exit (t_exit (c_exit_here (wp_seq (wp_plain _ [0] rfl (lw_tvn 1 rfl (wp_ret (post_ret [4] rfl (.int .i64 (-1)) rfl ⟨(ret_int (ix_no 0 hq oM)),hE1⟩))))))))))))
theorem c_slices_ContainsFunc___int64_int64_ (w:World) (va:Value) (a:List Int) (q:Nat) (qf qc:List Value) (p:Int→Bool) (ha:Rd (rdL rI) w.heap va a) (hcf_q:((Tryd.prog.funcs[q]?).map fun fn=>(fn.name != "runtime.NumGoroutine") && fn.body.isSome) = some true) (hp:∀ (x:Int),-9223372036854775808≤x∧x≤9223372036854775807→∀ w1,Ext w w1→Calls Tryd.prog q (qf++[Value.int .i64 x]++qc).toArray w1 (fun e w2=>e = .returned (.bool (p x))∧Ext w1 w2))  :
  Calls Tryd.prog 53 #[va,.func (.func q) qf.toArray qc.toArray] w (fun e w'=>e = .returned (.bool (a.any p))∧Ext w w'):=by
 refine calls_mk [va,.func (.func q) qf.toArray qc.toArray] 9 Tryd.func53 rfl rfl sM ?_
 have hE0:Ext w w:=Ext.refl w
 have hl_va:=ha.lenle
 refine wp_seq (wp_plain _ [0] rfl (lw_tvn 1 rfl (wp_seq (wp_plain _ [0,0,3,0,0] rfl (lw_tv 2 rfl (lw_call 71 [] [] [va,(.func (.func q) qf.toArray qc.toArray)] rfl rfl cf71 zN (c_slices_IndexFunc___int64_int64_ _ _ _ q qf qc p (ha.ext g1 hE0) hcf_q (fun x hx w1 hw=>hp x hx w1 (hE0.trans hw))) ?_))))))
 rintro e1 w1 ⟨rfl,hX1⟩
 refine ⟨_,rfl,hX1,?_⟩
 have hzs1:=hX1.size
 have hE1:=hE0.trans hX1
 exact q_geq (decide (((0 :Nat):Int)≤ixF p a)) rfl rfl rfl zN (lw_tvn 1 rfl (wp_ret (post_ret [4] rfl (.bool (decide (((0 :Nat):Int)≤ixF p a))) rfl ⟨(ret_bool (ix_ge p a)),hE1⟩)))
theorem c_slices_Clone___int64_int64_ (w:World) (va:Value) (a:List Int) (ha:Rd (rdL rI) w.heap va a) (hla:a.length≤1000000000000) :
  Calls Tryd.prog 21 #[va] w (fun e w'=>∃ v0:Value,e = .returned (v0)∧Ext w w'∧Fr (owL rI 2) w.heap.size w'.heap.size w'.heap v0 a):=by
 refine calls_mk [va] 8 Tryd.func21 rfl rfl sM ?_
 have hE0:Ext w w:=Ext.refl w
 have hl_va:=ha.lenle
 refine wp_seq (wp_plain _ [0] rfl (lw_tvn 1 rfl (wp_seq (wp_seq (wp_plain _ [0,0] rfl (lw_tv 1 rfl ?_))))))
 cases hc1:isNilV va
 ·
  refine q_nilq (v:=va) false u24 rfl rfl ha.isSl hc1 zN (lw_nil (c_cond_f rfl (wp_skip (wp_seq (wp_plain _ [3,0,4,0] rfl (r_nil (rI) good_rI u24 ti2 zN fun v2 w2 hX2 hz2 hO2=>?_))))))
  have hzs2:=hX2.size
  have hE2:=hE0.trans hX2
  refine lw_tv 1 rfl (e_appI (v:=v2) (a:=va) u24 ti2 rfl rfl rfl hO2 hE2.size (ha.ext g1 hE2) sD (by unfold maxLen; first | omega | assumption | (simp; done) | (simp; omega)) zN fun v3 w3 F3 hC3 hF3 hO3=>?_)
  have hE3:Ext w w3:=hC3.below hE2 (fun c hc=>Nat.le_trans (Nat.le_refl _) (hF3 c hc).1) hE2.size
  have hzs3:=hC3.size
  exact lw_tvn 1 rfl (wp_ret (post_ret [2] rfl v3 rfl ⟨v3,rfl,hE3,hO3.up o1⟩))
 ·
  refine q_nilq (v:=va) true u24 rfl rfl ha.isSl hc1 zN (lw_nil (c_cond_t rfl (wp_seq (wp_plain _ [0] rfl (lw_tvn 1 rfl (wp_ret (t_ret ?_)))))))
  have hnil:a = []:=ha.nil_of (by assumption)
  subst hnil
  exact post_ret [2] rfl (.slice none 0 0) rfl ⟨(.slice none 0 0),rfl,hE0,frNil _ _ _⟩
theorem c_impl_areNumbers (w:World) (va:Value) (a:List Int) (count:Int) (ha:Rd (rdL rI) w.heap va a) (_hcount:-9223372036854775808≤count∧count≤9223372036854775807)  :
  Calls Tryd.prog 41 #[va,.int .i64 count] w (fun e w'=>e = .returned (.bool (decide (((a.length :Nat):Int) = count) && allN a))∧Ext w w'):=by
 refine calls_mk [va,.int .i64 count] 14 Tryd.func41 rfl rfl sM ?_
 have hE0:Ext w w:=Ext.refl w
 have hl_va:=ha.lenle
 refine wp_seq (wp_plain _ [0] rfl (lw_tvn 1 rfl (wp_seq (wp_plain _ [0,0,0,0,0,0,3,0,0,0] rfl (lw_tv 1 rfl (q_len (v:=va) u24 rfl ha.isSl zN (lw_tv 1 rfl ?_)))))))
 by_cases hc1:((a.length :Nat):Int) = count
 ·
  refine q_eql true rfl rfl (decide_eq_true hc1) zN (lw_tv 2 rfl (lw_call 53 [] [] [va,(.func (.func 54) #[] #[])] rfl rfl cf53 (zS (e:=9) rfl rfl rfl) (c_slices_ContainsFunc___int64_int64_ _ _ _ 54 [] [] (fun x=>!isN x) (ha.ext g1 hE0) cf54 (fun x hx w1 hw=>c_impl_areNumbers_1 w1 x hx)) ?_))
  rintro e2 w2 ⟨rfl,hX2⟩
  refine ⟨_,rfl,hX2,?_⟩
  have hzs2:=hX2.size
  have hE2:=hE0.trans hX2
  exact q_not (!(a.any (fun x=>!isN x))) rfl rfl (zS (e:=9) rfl rfl rfl) (lw_tvn 2 rfl (wp_ret (post_ret [4] rfl (.bool (!(a.any (fun x=>!isN x)))) rfl ⟨(ret_bool (by first | (rw [any_not]; simp [*]; done) | simp [*])),hE2⟩)))
 ·
  exact q_eql false rfl rfl (decide_eq_false hc1) zN (lw_tvn 6 rfl (wp_ret (post_ret [4] rfl (.bool false) rfl ⟨(ret_bool (by first | (rw [any_not]; simp [*]; done) | simp [*])),hE0⟩)))
end Go.Proofs.YtlbefjfhfodnlaaDoor
namespace Go.Proofs.YtlbefjfhfodnlaaDoor
open Go Go.RowKit
set_option linter.unusedVariables false
set_option linter.unusedSimpArgs false
set_option maxHeartbeats 4000000
set_option maxRecDepth 100000
attribute [local irreducible] LW
theorem c_impl_scaled (w:World) (va:Value) (a:List Int) (y:Int) (ha:Rd (rdL rI) w.heap va a) (_hy:-9223372036854775808≤y∧y≤9223372036854775807) (hla:a.length≤1000000000000) (hqa:allN a = true) (hy:0≤y∧y < 1000003) :
  Calls Tryd.prog 23 #[va,.int .i64 y] w (fun e w'=>∃ v0:Value,e = .returned (v0)∧Ext w w'∧Fr (owL rI 2) w.heap.size w'.heap.size w'.heap v0 (sclS a y)):=by
 refine calls_mk [va,.int .i64 y] 27 Tryd.func23 rfl rfl sM ?_
 have hE0:Ext w w:=Ext.refl w
 have hl_va:=ha.lenle
 refine wp_seq (wp_plain _ [0] rfl (lw_tvn 1 rfl (wp_seq (wp_plain _ [0,0,3,0] rfl (lw_tv 1 rfl (q_len (v:=va) u24 rfl ha.isSl zN (r_make (n:=a.length) u24 ti2 rfl rfl rfl sD zN fun v1 w1 hX1 hz1 hO1=>?_)))))))
 have hzs1:=hX1.size
 have hE1:=hE0.trans hX1
 refine lw_tvn 1 rfl (wp_seq (wp_seq (wp_plain _ [0,0,0] rfl (lw_tv 1 rfl (q_len (v:=va) u24 rfl ha.isSl zN (lw_tvn 1 rfl (wp_block ?_)))))))
 refine c_loop (S:=Nat) (fun (k:Nat)=>([(12,(.int .i64 ((k :Nat):Int))),(0,va),(1,(.int .i64 y)),(5,v1),(11,(.int .i64 ((a.length :Nat):Int)))]:List (Nat × Value))) (fun (k:Nat) (W:World)=>Ext w W∧Fr (owL rI 2) w.heap.size W.heap.size W.heap v1 (mix k (sclS a y) (List.replicate a.length 0))∧k≤a.length) (fun (k:Nat)=>a.length - k) 0 ⟨rfl,rfl,rfl,rfl,rfl,trivial⟩ ⟨hE1,(by rw [mix_zero]; exact hO1.up o1),sD⟩ ?_
 clear hE0 hO1 hz1 hX1 hzs1 hE1
 rintro k ρ2 w2 ⟨hE2,hL2_0,hp2_0⟩
 have hzs2:w.heap.size≤w2.heap.size:=hE2.size
 have hml:=mix_len k (sclS a y) (List.replicate a.length 0) sM
 rw [List.length_replicate] at hml
 have hga:=allN_get hqa k
 refine wp_seq (wp_plain _ [0] rfl ?_)
 by_cases hc3:((k :Nat):Int) < ((a.length :Nat):Int)
 ·
  refine q_lss true rfl rfl (decide_eq_true hc3) zN (lw_nil (wp_seq (c_cond_t rfl (wp_skip (wp_seq (wp_block (wp_seq (wp_plain _ [0,0] rfl (lw_tvn 2 rfl (wp_plain _ [0,0,0,0,0,2,0,0,0,0,4] rfl (lw_tv 4 rfl (q_idx (v:=va) k u24 ti2 rfl rfl ha.isSl rfl sD zN ?_))))))))))))
  refine q_load (p:=eptr va k 1) (.inr rfl) (.int .i64 (a.getD k 0)) one2 rfl (ldH_ext hE2 (ha.getI sD).1) zN (lw_tv 1 rfl (q_mul (wr ((a.getD k 0) * y)) rfl rfl rfl zN (q_rem (md (a.getD k 0 * y)) rfl rfl (by decide) (nm_eq hga hy) zN ?_)))
  refine q_idx (v:=v1) k u24 ti2 rfl rfl hL2_0.isSl rfl sD zN (e_setI (v:=v1) (w:=w2) sz2 rfl rfl (md_rng _) hL2_0 sD zN fun w4 F4 hC4 hz4 hF4 hO4=>?_)
  have hE4:Ext w w4:=hC4.below hE2 (fun c hc=>Nat.le_trans (Nat.le_refl _) (hF4 c hc).1) hE2.size
  have hzs4:=hC4.size
  refine lw_nil (wp_plain _ [0,0] rfl (q_add ((k + 1 :Nat):Int) rfl rfl (w64n oM sD) zN (lw_tvn 1 rfl ?_)))
  exact ⟨(k + 1),_,rfl,⟨rfl,rfl,rfl,rfl,rfl,trivial⟩,⟨hE4,(by unfold sclS; rw [mix_tab sM oM]; exact hO4.up o1),sD⟩,by first | omega | (dsimp only; omega)⟩
 ·
  exact q_lss false rfl rfl (decide_eq_false hc3) zN (lw_nil (wp_seq (c_cond_f rfl (wp_exit (t_exit (t_exit (c_exit_here (wp_seq (wp_plain _ [0,0] rfl (lw_tvn 2 rfl (wp_ret (post_ret [4] rfl v1 rfl ⟨v1,rfl,hE2,(by have h:=hL2_0.up o1; rwa [mix_all sM (by simp; omega)] at h)⟩))))))))))))
theorem c_impl_added (w:World) (va:Value) (a:List Int) (vb:Value) (b:List Int) (ha:Rd (rdL rI) w.heap va a) (hb:Rd (rdL rI) w.heap vb b) (hla:a.length≤1000000000000) (hl:a.length≤b.length) (hqa:allN a = true) (hqb:allN b = true) :
  Calls Tryd.prog 22 #[va,vb] w (fun e w'=>∃ v0:Value,e = .returned (v0)∧Ext w w'∧Fr (owL rI 2) w.heap.size w'.heap.size w'.heap v0 (addS a b)):=by
 refine calls_mk [va,vb] 30 Tryd.func22 rfl rfl sM ?_
 have hE0:Ext w w:=Ext.refl w
 have hl_va:=ha.lenle
 have hl_vb:=hb.lenle
 refine wp_seq (wp_plain _ [0] rfl (lw_tvn 1 rfl (wp_seq (wp_plain _ [0,0,3,0] rfl (lw_tv 1 rfl (q_len (v:=va) u24 rfl ha.isSl zN (r_make (n:=a.length) u24 ti2 rfl rfl rfl sD zN fun v1 w1 hX1 hz1 hO1=>?_)))))))
 have hzs1:=hX1.size
 have hE1:=hE0.trans hX1
 refine lw_tvn 1 rfl (wp_seq (wp_seq (wp_plain _ [0,0,0] rfl (lw_tv 1 rfl (q_len (v:=va) u24 rfl ha.isSl zN (lw_tvn 1 rfl (wp_block ?_)))))))
 refine c_loop (S:=Nat) (fun (k:Nat)=>([(12,(.int .i64 ((k :Nat):Int))),(0,va),(1,vb),(5,v1),(11,(.int .i64 ((a.length :Nat):Int)))]:List (Nat × Value))) (fun (k:Nat) (W:World)=>Ext w W∧Fr (owL rI 2) w.heap.size W.heap.size W.heap v1 (mix k (addS a b) (List.replicate a.length 0))∧k≤a.length) (fun (k:Nat)=>a.length - k) 0 ⟨rfl,rfl,rfl,rfl,rfl,trivial⟩ ⟨hE1,(by rw [mix_zero]; exact hO1.up o1),sD⟩ ?_
 clear hE0 hO1 hz1 hX1 hzs1 hE1
 rintro k ρ2 w2 ⟨hE2,hL2_0,hp2_0⟩
 have hzs2:w.heap.size≤w2.heap.size:=hE2.size
 have hml:=mix_len k (addS a b) (List.replicate a.length 0) sM
 rw [List.length_replicate] at hml
 have hga:=allN_get hqa k
 have hgb:=allN_get hqb k
 refine wp_seq (wp_plain _ [0] rfl ?_)
 by_cases hc3:((k :Nat):Int) < ((a.length :Nat):Int)
 ·
  refine q_lss true rfl rfl (decide_eq_true hc3) zN (lw_nil (wp_seq (c_cond_t rfl (wp_skip (wp_seq (wp_block (wp_seq (wp_plain _ [0,0] rfl (lw_tvn 2 rfl (wp_draw _ [0,0,0,0,0,1,0,0,0,1,0,0,0,4] mixed (by kernel_rfl) (lw_tv 4 rfl (q_idx (v:=va) k u24 ti2 rfl rfl ha.isSl rfl sD zN ?_))))))))))))
  refine q_load (p:=eptr va k 1) (.inl rfl) (.int .i64 (a.getD k 0)) one2 rfl (ldH_ext hE2.drew (ha.getI sD).1) zN (lw_tv 2 rfl ?_)
  refine q_idx (v:=vb) k u24 ti2 rfl rfl hb.isSl rfl sD zN ?_
  refine q_load (p:=eptr vb k 1) (.inl rfl) (.int .i64 (b.getD k 0)) one2 rfl (ldH_ext hE2.drew (hb.getI sD).1) zN (q_add (wr ((a.getD k 0) + (b.getD k 0))) rfl rfl rfl zN (q_rem (md (a.getD k 0 + b.getD k 0)) rfl rfl (by decide) (nadd_eq hga hgb) zN ?_))
  refine q_idx (v:=v1) k u24 ti2 rfl rfl hL2_0.isSl rfl sD zN (e_setI (v:=v1) (w:=w2.drew) sz2 rfl rfl (md_rng _) hL2_0 sD zN fun w4 F4 hC4 hz4 hF4 hO4=>?_)
  replace hC4:=hC4.of_drew
  have hE4:Ext w w4:=hC4.below hE2 (fun c hc=>Nat.le_trans (Nat.le_refl _) (hF4 c hc).1) hE2.size
  have hzs4:=hC4.size
  refine lw_nil (wp_plain _ [0,0] rfl (q_add ((k + 1 :Nat):Int) rfl rfl (w64n oM sD) zN (lw_tvn 1 rfl ?_)))
  exact ⟨(k + 1),_,rfl,⟨rfl,rfl,rfl,rfl,rfl,trivial⟩,⟨hE4,(by unfold addS; rw [mix_tab sM oM]; exact hO4.up o1),sD⟩,by first | omega | (dsimp only; omega)⟩
 ·
  exact q_lss false rfl rfl (decide_eq_false hc3) zN (lw_nil (wp_seq (c_cond_f rfl (wp_exit (t_exit (t_exit (c_exit_here (wp_seq (wp_plain _ [0,0] rfl (lw_tvn 2 rfl (wp_ret (post_ret [4] rfl v1 rfl ⟨v1,rfl,hE2,(by have h:=hL2_0.up o1; rwa [mix_all sM (by simp; omega)] at h)⟩))))))))))))
end Go.Proofs.YtlbefjfhfodnlaaDoor
namespace Go.Proofs.YtlbefjfhfodnlaaDoor
open Go Go.RowKit
set_option linter.unusedVariables false
set_option linter.unusedSimpArgs false
set_option maxHeartbeats 4000000
set_option maxRecDepth 100000
attribute [local irreducible] LW
theorem z20_0 {p:Prop} (h:p:=by unfold okS; first | (rw [‹(decide (((1:Nat):Int)≤((a.length:Nat):Int)) && decide (((a.length:Nat):Int)≤((13:Nat):Int))) = false›]; rfl) | (rw [‹(decide (((1:Nat):Int)≤((a.length:Nat):Int)) && decide (((a.length:Nat):Int)≤((13:Nat):Int))) = true›]; simp)):p:=h
theorem c_impl_ValidSeries (w:World) (va:Value) (a:List Int) (ha:Rd (rdL rI) w.heap va a)  :
  Calls Tryd.prog 20 #[va] w (fun e w'=>e = .returned (.bool (okS a))∧Ext w w'):=by
 refine calls_mk [va] 12 Tryd.func20 rfl rfl sM ?_
 have hE0:Ext w w:=Ext.refl w
 have hl_va:=ha.lenle
 refine wp_seq (wp_plain _ [0] rfl (lw_tvn 1 rfl (wp_seq (wp_plain _ [0,0,0,0,0,0,0,3,0,0] rfl (lw_tv 1 rfl (q_len (v:=va) u24 rfl ha.isSl zN (lw_callq 40 [] [] [(.int .i64 ((a.length :Nat):Int)),(.int .i64 ((1 :Nat):Int)),(.int .i64 ((13 :Nat):Int))] rfl rfl cf40 zN (.bool (decide (((1 :Nat):Int)≤((a.length :Nat):Int)) && decide (((a.length :Nat):Int)≤((13 :Nat):Int)))) (fun wq=>c_impl_within wq _ _ _ oM oM oM) (lw_tv 1 rfl ?_))))))))
 cases hb2:(decide (((1 :Nat):Int)≤((a.length :Nat):Int)) && decide (((a.length :Nat):Int)≤((13 :Nat):Int)))
 ·
  exact lw_tvn 6 rfl (wp_ret (post_ret [2] rfl (.bool false) rfl ⟨(ret_bool z20_0),hE0⟩))
 ·
  refine lw_tv 2 rfl (q_len (v:=va) u24 rfl ha.isSl (zS (e:=6) rfl rfl rfl) (lw_call 41 [] [] [va,(.int .i64 ((a.length :Nat):Int))] rfl rfl cf41 (zS (e:=6) rfl rfl rfl) (c_impl_areNumbers _ _ _ _ (ha.ext g1 hE0) oM) ?_))
  rintro e3 w3 ⟨rfl,hX3⟩
  refine ⟨_,rfl,hX3,?_⟩
  have hzs3:=hX3.size
  have hE3:=hE0.trans hX3
  exact lw_tvn 2 rfl (wp_ret (post_ret [2] rfl (.bool (decide (((a.length :Nat):Int) = ((a.length :Nat):Int)) && allN a)) rfl ⟨(ret_bool z20_0),hE3⟩))
end Go.Proofs.YtlbefjfhfodnlaaDoor
namespace Go.Proofs.YtlbefjfhfodnlaaDoor
open Go Go.RowKit
set_option linter.unusedVariables false
set_option linter.unusedSimpArgs false
set_option maxHeartbeats 4000000
set_option maxRecDepth 100000
attribute [local irreducible] LW
theorem z38_0 {p:Prop} (h:p:=by first | omega | exact and_255 _):p:=h
theorem z38_1 {p:Prop} (h:p:=by kernel_rfl):p:=h
theorem c_spec_l00Src_next (w:World) (g:Nat) (sv:Value) (cs:List UInt8) (n0:Nat) (hs:Src w.heap g sv cs n0) (hn0:n0 + 1≤1000000000000)  :
  Calls Tryd.prog 38 #[.pointer (some ⟨g,0,none⟩)] w (fun e w'=>∃ (x0:Int) (n1:Nat),e = .returned (.int .i64 x0)∧Chg [g] w w'∧Src w'.heap g sv cs n1∧(n0≤n1∧n1≤n0 + 1)∧(0≤x0∧x0≤255)):=by
 refine calls_mk [.pointer (some ⟨g,0,none⟩)] 62 Tryd.func38 rfl rfl sM ?_
 have hE0:Chg [g] w w:=Chg.refl [g] w
 have hgl:=hs.lt
 obtain ⟨sd,hbx,hrs⟩:=hs.parts
 have hl_sv:=(hrs _ (Chg.refl [g] w)).lenle
 refine wp_seq (wp_plain _ [0] rfl (lw_tvn 1 rfl (wp_seq (wp_plain _ [0] rfl (lw_tvn 1 rfl (wp_seq (wp_seq (wp_draw _ [0,0,0,1,0,0,0,1,0,0] mixed z38_1 (lw_tv 1 rfl (q_nil rfl zN (q_fld 1 z38_1 rfl zN (q_load (p:=(.pointer (some ⟨g,1,none⟩))) (.inl rfl) (.int .i64 ((n0 :Nat):Int)) one3 rfl (hbx.ld (k:=1) sM) zN (lw_tv 1 rfl (q_nil rfl zN (q_fld 0 z38_1 rfl zN (q_load (p:=(.pointer (some ⟨g,0,none⟩))) (.inl rfl) sv one22 rfl (hbx.ld (k:=0) sM) zN (q_len (v:=sv) u22 rfl (hrs _ hE0.drew).isSl zN ?_)))))))))))))))))
 by_cases hc1:((n0 :Nat):Int) < ((cs.length :Nat):Int)
 ·
  refine q_lss true rfl rfl (decide_eq_true hc1) zN (lw_nil (c_cond_t rfl (wp_draw _ [0,0,0,1,0,0,0,1,0,1,0,0] mixed z38_1 (lw_tv 1 rfl (q_nil rfl zN (q_fld 0 z38_1 rfl zN (q_load (p:=(.pointer (some ⟨g,0,none⟩))) (.inl rfl) sv one22 rfl (hbx.ld (k:=0) sM) zN (lw_tv 1 rfl (q_nil rfl zN (q_fld 1 z38_1 rfl zN (q_load (p:=(.pointer (some ⟨g,1,none⟩))) (.inl rfl) (.int .i64 ((n0 :Nat):Int)) one3 rfl (hbx.ld (k:=1) sM) zN ?_)))))))))))
  refine q_idx (v:=sv) n0 u22 ti5 rfl rfl (hrs _ hE0.drew.drew).isSl rfl sD zN ?_
  refine q_load (p:=eptr sv n0 1) (.inl rfl) (.int .u8 ((cs.getD n0 0).toNat:Int)) one5 rfl ((hrs _ hE0.drew.drew).getU sD).1 zN (q_conv ((cs.getD n0 0).toNat:Int) u5 u3 rfl (w8 _) zN (lw_tvn 1 rfl (wp_seq (wp_plain _ [0,0,0,2,0,0,0,4] rfl (lw_tv 1 rfl (q_nil rfl zN (q_fld 1 z38_1 rfl zN (q_load (p:=(.pointer (some ⟨g,1,none⟩))) (.inr rfl) (.int .i64 ((n0 :Nat):Int)) one3 rfl (hbx.ld (k:=1) sM) zN ?_))))))))
  refine q_add ((n0 + 1 :Nat):Int) rfl rfl (w64n oM sD) zN (q_nil rfl zN (q_fld 1 z38_1 rfl zN (e_setB (w:=w.drew.drew) sz3 rfl rfl ⟨rfl,rfl⟩ hbx sM zN fun w2 hC2 hz2 hB2=>?_)))
  replace hC2:=hC2.of_drew
  replace hC2:=hC2.of_drew
  have hE2:Chg [g] w w2:=hE0.trans hC2
  have hBx2:BX w2.heap g [sv,(.int .i64 ((n0 + 1 :Nat):Int)),(.int .u64 sd)]:=hB2
  refine lw_nil (wp_seq (wp_plain _ [0,0,0,0,2,0,0,0,0,0,0,0,4] rfl (lw_tv 2 rfl (q_nil rfl zN (q_fld 2 z38_1 rfl zN (q_load (p:=(.pointer (some ⟨g,2,none⟩))) (.inr rfl) (.int .u64 sd) one64 rfl (hBx2.ld (k:=2) sM) zN (q_mul (IntKind.u64.wrap (sd * 6364136223846793005)) rfl rfl rfl zN (lw_tv 1 rfl (q_conv (IntKind.u64.wrap (((cs.getD n0 0).toNat:Int))) u3 u64 rfl rfl zN (q_add (IntKind.u64.wrap ((IntKind.u64.wrap (sd * 6364136223846793005)) + (IntKind.u64.wrap (((cs.getD n0 0).toNat:Int))))) rfl rfl rfl zN (q_add (IntKind.u64.wrap ((IntKind.u64.wrap ((IntKind.u64.wrap (sd * 6364136223846793005)) + (IntKind.u64.wrap (((cs.getD n0 0).toNat:Int))))) + 1442695040888963407)) rfl rfl rfl zN (q_nil rfl zN ?_))))))))))))
  refine q_fld 2 z38_1 rfl zN (e_setB (w:=w2) sz64 rfl rfl ⟨rfl,rfl⟩ hBx2 sM zN fun w3 hC3 hz3 hB3=>?_)
  have hE3:Chg [g] w w3:=hE2.trans hC3
  have hBx3:BX w3.heap g [sv,(.int .i64 ((n0 + 1 :Nat):Int)),(.int .u64 (IntKind.u64.wrap ((IntKind.u64.wrap ((IntKind.u64.wrap (sd * 6364136223846793005)) + (IntKind.u64.wrap (((cs.getD n0 0).toNat:Int))))) + 1442695040888963407)))]:=hB3
  refine lw_nil (wp_seq (wp_seq (wp_draw _ [0,0,0,1,0,0,0,1,0,0] mixed z38_1 (lw_tv 1 rfl (q_nil rfl zN (q_fld 1 z38_1 rfl zN (q_load (p:=(.pointer (some ⟨g,1,none⟩))) (.inl rfl) (.int .i64 ((n0 + 1 :Nat):Int)) one3 rfl (hBx3.ld (k:=1) sM) zN (lw_tv 1 rfl (q_nil rfl zN (q_fld 0 z38_1 rfl zN (q_load (p:=(.pointer (some ⟨g,0,none⟩))) (.inl rfl) sv one22 rfl (hBx3.ld (k:=0) sM) zN (q_len (v:=sv) u22 rfl (hrs _ hE3.drew).isSl zN ?_))))))))))))
  by_cases hc4:((n0 + 1 :Nat):Int)≤((cs.length :Nat):Int)
  ·
   refine q_leq true rfl rfl (decide_eq_true hc4) zN (lw_nil (c_cond_t rfl (wp_seq (wp_plain _ [0,0] rfl (lw_tvn 2 rfl (wp_ret (t_ret ?_)))))))
   have hu8:=u8_lt (cs.getD n0 0)
   exact post_ret [2] rfl (.int .i64 ((cs.getD n0 0).toNat:Int)) rfl ⟨((cs.getD n0 0).toNat:Int),n0 + 1,rfl,hE3.drew,(hs.close hE3.drew hBx3),⟨by omega,by omega⟩,z38_0⟩
  ·
   refine q_leq false rfl rfl (decide_eq_false hc4) zN (lw_nil (c_cond_f rfl (wp_skip (wp_seq (wp_plain _ [0,0,0,2,0,0,0,0] rfl (lw_tv 1 rfl (q_nil rfl zN (q_fld 2 z38_1 rfl zN (q_load (p:=(.pointer (some ⟨g,2,none⟩))) (.inr rfl) (.int .u64 (IntKind.u64.wrap ((IntKind.u64.wrap ((IntKind.u64.wrap (sd * 6364136223846793005)) + (IntKind.u64.wrap (((cs.getD n0 0).toNat:Int))))) + 1442695040888963407))) one64 rfl (hBx3.ld (k:=2) sM) zN (q_shr ((IntKind.u64.wrap ((IntKind.u64.wrap ((IntKind.u64.wrap (sd * 6364136223846793005)) + (IntKind.u64.wrap (((cs.getD n0 0).toNat:Int))))) + 1442695040888963407)).fdiv (2 ^ (min (40:Int).toNat (IntKind.u64).bits))) rfl rfl oM rfl zN (q_and rfl rfl zN ?_)))))))))))
   refine q_conv (andV .u64 ((IntKind.u64.wrap ((IntKind.u64.wrap ((IntKind.u64.wrap (sd * 6364136223846793005)) + (IntKind.u64.wrap (((cs.getD n0 0).toNat:Int))))) + 1442695040888963407)).fdiv (2 ^ (min (40:Int).toNat (IntKind.u64).bits))) 255) u64 u2 rfl (wand _) zN (lw_tvn 1 rfl (wp_ret ?_))
   have hu8:=u8_lt (cs.getD n0 0)
   exact post_ret [2] rfl (.int .i64 (andV .u64 ((IntKind.u64.wrap ((IntKind.u64.wrap ((IntKind.u64.wrap (sd * 6364136223846793005)) + (IntKind.u64.wrap (((cs.getD n0 0).toNat:Int))))) + 1442695040888963407)).fdiv (2 ^ (min (40:Int).toNat (IntKind.u64).bits))) 255)) rfl ⟨andV .u64 ((IntKind.u64.wrap ((IntKind.u64.wrap ((IntKind.u64.wrap (sd * 6364136223846793005)) + (IntKind.u64.wrap (((cs.getD n0 0).toNat:Int))))) + 1442695040888963407)).fdiv (2 ^ (min (40:Int).toNat (IntKind.u64).bits))) 255,n0 + 1,rfl,hE3.drew,(hs.close hE3.drew hBx3),⟨by omega,by omega⟩,z38_0⟩
 ·
  refine q_lss false rfl rfl (decide_eq_false hc1) zN (lw_nil (c_cond_f rfl (wp_skip (wp_seq (wp_plain _ [0,0,0,2,0,0,0,4] rfl (lw_tv 1 rfl (q_nil rfl zN (q_fld 1 z38_1 rfl zN (q_load (p:=(.pointer (some ⟨g,1,none⟩))) (.inr rfl) (.int .i64 ((n0 :Nat):Int)) one3 rfl (hbx.ld (k:=1) sM) zN (q_add ((n0 + 1 :Nat):Int) rfl rfl (w64n oM sD) zN (q_nil rfl zN ?_)))))))))))
  refine q_fld 1 z38_1 rfl zN (e_setB (w:=w.drew) sz3 rfl rfl ⟨rfl,rfl⟩ hbx sM zN fun w5 hC5 hz5 hB5=>?_)
  replace hC5:=hC5.of_drew
  have hE5:Chg [g] w w5:=hE0.trans hC5
  have hBx5:BX w5.heap g [sv,(.int .i64 ((n0 + 1 :Nat):Int)),(.int .u64 sd)]:=hB5
  refine lw_nil (wp_seq (wp_plain _ [0,0,0,0,2,0,0,0,0,0,0,0,4] rfl (lw_tv 2 rfl (q_nil rfl zN (q_fld 2 z38_1 rfl zN (q_load (p:=(.pointer (some ⟨g,2,none⟩))) (.inr rfl) (.int .u64 sd) one64 rfl (hBx5.ld (k:=2) sM) zN (q_mul (IntKind.u64.wrap (sd * 6364136223846793005)) rfl rfl rfl zN (lw_tv 1 rfl (q_conv (IntKind.u64.wrap (((0 :Nat):Int))) u3 u64 rfl rfl zN (q_add (IntKind.u64.wrap ((IntKind.u64.wrap (sd * 6364136223846793005)) + (IntKind.u64.wrap (((0 :Nat):Int))))) rfl rfl rfl zN (q_add (IntKind.u64.wrap ((IntKind.u64.wrap ((IntKind.u64.wrap (sd * 6364136223846793005)) + (IntKind.u64.wrap (((0 :Nat):Int))))) + 1442695040888963407)) rfl rfl rfl zN (q_nil rfl zN (q_fld 2 z38_1 rfl zN ?_)))))))))))))
  refine e_setB (w:=w5) sz64 rfl rfl ⟨rfl,rfl⟩ hBx5 sM zN fun w6 hC6 hz6 hB6=>?_
  have hE6:Chg [g] w w6:=hE5.trans hC6
  have hBx6:BX w6.heap g [sv,(.int .i64 ((n0 + 1 :Nat):Int)),(.int .u64 (IntKind.u64.wrap ((IntKind.u64.wrap ((IntKind.u64.wrap (sd * 6364136223846793005)) + (IntKind.u64.wrap (((0 :Nat):Int))))) + 1442695040888963407)))]:=hB6
  refine lw_nil (wp_seq (wp_seq (wp_draw _ [0,0,0,1,0,0,0,1,0,0] mixed z38_1 (lw_tv 1 rfl (q_nil rfl zN (q_fld 1 z38_1 rfl zN (q_load (p:=(.pointer (some ⟨g,1,none⟩))) (.inl rfl) (.int .i64 ((n0 + 1 :Nat):Int)) one3 rfl (hBx6.ld (k:=1) sM) zN (lw_tv 1 rfl (q_nil rfl zN (q_fld 0 z38_1 rfl zN (q_load (p:=(.pointer (some ⟨g,0,none⟩))) (.inl rfl) sv one22 rfl (hBx6.ld (k:=0) sM) zN (q_len (v:=sv) u22 rfl (hrs _ hE6.drew).isSl zN ?_))))))))))))
  by_cases hc7:((n0 + 1 :Nat):Int)≤((cs.length :Nat):Int)
  ·
   refine q_leq true rfl rfl (decide_eq_true hc7) zN (lw_nil (c_cond_t rfl (wp_seq (wp_plain _ [0,0] rfl (lw_tvn 2 rfl (wp_ret (t_ret ?_)))))))
   have hu8:=u8_lt (cs.getD n0 0)
   exact post_ret [2] rfl (.int .i64 ((0 :Nat):Int)) rfl ⟨((0 :Nat):Int),n0 + 1,rfl,hE6.drew,(hs.close hE6.drew hBx6),⟨by omega,by omega⟩,z38_0⟩
  ·
   refine q_leq false rfl rfl (decide_eq_false hc7) zN (lw_nil (c_cond_f rfl (wp_skip (wp_seq (wp_plain _ [0,0,0,2,0,0,0,0] rfl (lw_tv 1 rfl (q_nil rfl zN (q_fld 2 z38_1 rfl zN (q_load (p:=(.pointer (some ⟨g,2,none⟩))) (.inr rfl) (.int .u64 (IntKind.u64.wrap ((IntKind.u64.wrap ((IntKind.u64.wrap (sd * 6364136223846793005)) + (IntKind.u64.wrap (((0 :Nat):Int))))) + 1442695040888963407))) one64 rfl (hBx6.ld (k:=2) sM) zN (q_shr ((IntKind.u64.wrap ((IntKind.u64.wrap ((IntKind.u64.wrap (sd * 6364136223846793005)) + (IntKind.u64.wrap (((0 :Nat):Int))))) + 1442695040888963407)).fdiv (2 ^ (min (40:Int).toNat (IntKind.u64).bits))) rfl rfl oM rfl zN (q_and rfl rfl zN ?_)))))))))))
   refine q_conv (andV .u64 ((IntKind.u64.wrap ((IntKind.u64.wrap ((IntKind.u64.wrap (sd * 6364136223846793005)) + (IntKind.u64.wrap (((0 :Nat):Int))))) + 1442695040888963407)).fdiv (2 ^ (min (40:Int).toNat (IntKind.u64).bits))) 255) u64 u2 rfl (wand _) zN (lw_tvn 1 rfl (wp_ret ?_))
   have hu8:=u8_lt (cs.getD n0 0)
   exact post_ret [2] rfl (.int .i64 (andV .u64 ((IntKind.u64.wrap ((IntKind.u64.wrap ((IntKind.u64.wrap (sd * 6364136223846793005)) + (IntKind.u64.wrap (((0 :Nat):Int))))) + 1442695040888963407)).fdiv (2 ^ (min (40:Int).toNat (IntKind.u64).bits))) 255)) rfl ⟨andV .u64 ((IntKind.u64.wrap ((IntKind.u64.wrap ((IntKind.u64.wrap (sd * 6364136223846793005)) + (IntKind.u64.wrap (((0 :Nat):Int))))) + 1442695040888963407)).fdiv (2 ^ (min (40:Int).toNat (IntKind.u64).bits))) 255,n0 + 1,rfl,hE6.drew,(hs.close hE6.drew hBx6),⟨by omega,by omega⟩,z38_0⟩
theorem z18_0 {p:Prop} (h:p:=by first | omega | exact ⟨Int.emod_nonneg _ oM,Int.le_of_lt (Int.lt_of_lt_of_le (Int.emod_lt_of_pos _ oM) oM),fun _=>Int.emod_lt_of_pos _ oM⟩):p:=h
theorem c_spec_l00Src_pick (w:World) (g:Nat) (sv:Value) (cs:List UInt8) (n0:Nat) (k:Int) (hs:Src w.heap g sv cs n0) (hn0:n0 + 2≤1000000000000) (_hk:-9223372036854775808≤k∧k≤9223372036854775807) (hk:k≤1000000) :
  Calls Tryd.prog 18 #[.pointer (some ⟨g,0,none⟩),.int .i64 k] w (fun e w'=>∃ (x0:Int) (n1:Nat),e = .returned (.int .i64 x0)∧Chg [g] w w'∧Src w'.heap g sv cs n1∧(n0≤n1∧n1≤n0 + 2)∧(0≤x0∧x0≤1000000∧(1≤k→x0 < k))):=by
 refine calls_mk [.pointer (some ⟨g,0,none⟩),.int .i64 k] 20 Tryd.func18 rfl rfl sM ?_
 have hE0:Chg [g] w w:=Chg.refl [g] w
 have hgl:=hs.lt
 refine wp_seq (wp_plain _ [0] rfl (lw_tvn 1 rfl (wp_seq (wp_seq (wp_plain _ [0,0] rfl (lw_tv 1 rfl ?_))))))
 by_cases hc1:k≤((1 :Nat):Int)
 ·
  exact q_leq true rfl rfl (decide_eq_true hc1) zN (lw_nil (c_cond_t rfl (wp_seq (wp_plain _ [0] rfl (lw_tvn 1 rfl (wp_ret (t_ret (post_ret [4] rfl (.int .i64 ((0 :Nat):Int)) rfl ⟨((0 :Nat):Int),n0,rfl,hE0,hs,⟨by omega,by omega⟩,z18_0⟩))))))))
 ·
  refine q_leq false rfl rfl (decide_eq_false hc1) zN (lw_nil (c_cond_f rfl (wp_skip (wp_seq (wp_plain _ [0,4,0] rfl (lw_tv 1 rfl (lw_callE 38 [] [] [(.pointer (some ⟨g,0,none⟩))] rfl rfl cf38 zN (c_spec_l00Src_next _ g _ _ _ hs oM) ?_)))))))
  rintro e2 w2 ⟨x2_0,n2,rfl,hC2,hs2,hb2,hp2_0⟩
  refine ⟨_,rfl,?_⟩
  have hzs2:=hC2.size
  have hE2:Chg [g] w w2:=hE0.trans hC2
  refine lw_tvn 1 rfl (wp_seq (wp_seq (wp_plain _ [0,0] rfl (lw_tv 1 rfl ?_))))
  by_cases hc3:((200 :Nat):Int) < k
  ·
   refine q_gtr true rfl rfl (decide_eq_true hc3) zN (lw_nil (c_cond_t rfl (wp_plain _ [0,0,0,4,0,0] rfl (lw_tv 1 rfl ?_))))
   refine q_mul (x2_0 * ((256 :Nat):Int)) rfl rfl (w64 sD sD) zN (lw_tv 1 rfl ?_)
   refine lw_callE 38 [] [] [(.pointer (some ⟨g,0,none⟩))] rfl rfl cf38 zN (c_spec_l00Src_next _ g _ _ _ hs2 oM) ?_
   rintro e4 w4 ⟨x4_0,n4,rfl,hC4,hs4,hb4,hp4_0⟩
   refine ⟨_,rfl,?_⟩
   have hzs4:=hC4.size
   have hE4:Chg [g] w w4:=hE2.trans hC4
   refine q_add ((x2_0 * ((256 :Nat):Int)) + x4_0) rfl rfl (w64 sD sD) zN (lw_tvn 1 rfl (wp_seq (wp_plain _ [0,0,0,0] rfl ?_)))
   exact lw_tv 2 rfl (q_rem (((x2_0 * ((256 :Nat):Int)) + x4_0) % k) rfl rfl oM (Int.tmod_eq_emod_of_nonneg oM) zN (lw_tvn 1 rfl (wp_ret (post_ret [4] rfl (.int .i64 (((x2_0 * ((256 :Nat):Int)) + x4_0) % k)) rfl ⟨((x2_0 * ((256 :Nat):Int)) + x4_0) % k,n4,rfl,hE4,hs4,⟨by omega,by omega⟩,z18_0⟩))))
  ·
   exact q_gtr false rfl rfl (decide_eq_false hc3) zN (lw_nil (c_cond_f rfl (wp_skip (wp_seq (wp_plain _ [0,0,0,0] rfl (lw_tv 2 rfl (q_rem ((x2_0) % k) rfl rfl oM (Int.tmod_eq_emod_of_nonneg oM) zN (lw_tvn 1 rfl (wp_ret (post_ret [4] rfl (.int .i64 ((x2_0) % k)) rfl ⟨(x2_0) % k,n2,rfl,hE2,hs2,⟨by omega,by omega⟩,z18_0⟩))))))))))
theorem c_spec_l01Any (w:World) (g:Nat) (sv:Value) (cs:List UInt8) (n0:Nat) (hs:Src w.heap g sv cs n0) (hn0:n0 + 8≤1000000000000)  :
  Calls Tryd.prog 39 #[.pointer (some ⟨g,0,none⟩)] w (fun e w'=>∃ (x0:Int) (n1:Nat),e = .returned (.int .i64 x0)∧Chg [g] w w'∧Src w'.heap g sv cs n1∧(n0≤n1∧n1≤n0 + 8)∧(0≤x0∧x0 < 1000003)):=by
 refine calls_mk [.pointer (some ⟨g,0,none⟩)] 25 Tryd.func39 rfl rfl sM ?_
 have hE0:Chg [g] w w:=Chg.refl [g] w
 have hgl:=hs.lt
 refine wp_seq (wp_plain _ [0] rfl (lw_tvn 1 rfl (wp_seq (wp_seq (wp_plain _ [0,4] rfl (lw_tv 1 rfl (lw_callE 18 [] [] [(.pointer (some ⟨g,0,none⟩)),(.int .i64 ((6 :Nat):Int))] rfl rfl cf18 zN (c_spec_l00Src_pick _ g _ _ _ _ hs oM oM sD) ?_)))))))
 rintro e1 w1 ⟨x1_0,n1,rfl,hC1,hs1,hb1,hp1_0⟩
 refine ⟨_,rfl,?_⟩
 have hzs1:=hC1.size
 have hE1:Chg [g] w w1:=hE0.trans hC1
 refine lw_nil (wp_block (wp_seq (wp_plain _ [0,0] rfl ?_)))
 by_cases hc2:x1_0 = ((0 :Nat):Int)
 ·
  refine q_eql true rfl rfl (decide_eq_true hc2) zN (lw_tvn 1 rfl (c_cond_t rfl (wp_seq (wp_plain _ [0,4,0,0] rfl (lw_tv 1 rfl (lw_callE 18 [] [] [(.pointer (some ⟨g,0,none⟩)),(.int .i64 ((3 :Nat):Int))] rfl rfl cf18 zN (c_spec_l00Src_pick _ g _ _ _ _ hs1 oM oM sD) ?_))))))
  rintro e3 w3 ⟨x3_0,n3,rfl,hC3,hs3,hb3,hp3_0⟩
  refine ⟨_,rfl,?_⟩
  have hzs3:=hC3.size
  have hE3:Chg [g] w w3:=hE1.trans hC3
  refine q_sub (((1000002 :Nat):Int) - x3_0) rfl rfl (w64 sD sD) zN (lw_tvn 1 rfl (wp_ret (b_ret (t_ret ?_))))
  exact post_ret [2] rfl (.int .i64 (((1000002 :Nat):Int) - x3_0)) rfl ⟨((1000002 :Nat):Int) - x3_0,n3,rfl,hE3,hs3,⟨by omega,by omega⟩,(by first | omega | exact md_num _)⟩
 ·
  refine q_eql false rfl rfl (decide_eq_false hc2) zN (lw_tvn 1 rfl (c_cond_f rfl (wp_seq (wp_plain _ [0,0] rfl ?_))))
  by_cases hc4:x1_0 = ((1 :Nat):Int)
  ·
   refine q_eql true rfl rfl (decide_eq_true hc4) zN (lw_tvn 1 rfl (c_cond_t rfl (wp_seq (wp_plain _ [0,4,0,0,4,0,0,0,4,0,0,0] rfl (lw_tv 1 rfl (lw_callE 18 [] [] [(.pointer (some ⟨g,0,none⟩)),(.int .i64 ((256 :Nat):Int))] rfl rfl cf18 zN (c_spec_l00Src_pick _ g _ _ _ _ hs1 oM oM sD) ?_))))))
   rintro e5 w5 ⟨x5_0,n5,rfl,hC5,hs5,hb5,hp5_0⟩
   refine ⟨_,rfl,?_⟩
   have hzs5:=hC5.size
   have hE5:Chg [g] w w5:=hE1.trans hC5
   refine q_mul (x5_0 * ((65536 :Nat):Int)) rfl rfl (w64 sD sD) zN (lw_tv 1 rfl ?_)
   refine lw_callE 18 [] [] [(.pointer (some ⟨g,0,none⟩)),(.int .i64 ((256 :Nat):Int))] rfl rfl cf18 zN (c_spec_l00Src_pick _ g _ _ _ _ hs5 oM oM sD) ?_
   rintro e6 w6 ⟨x6_0,n6,rfl,hC6,hs6,hb6,hp6_0⟩
   refine ⟨_,rfl,?_⟩
   have hzs6:=hC6.size
   have hE6:Chg [g] w w6:=hE5.trans hC6
   refine q_mul (x6_0 * ((256 :Nat):Int)) rfl rfl (w64 sD sD) zN ?_
   refine q_add ((x5_0 * ((65536 :Nat):Int)) + (x6_0 * ((256 :Nat):Int))) rfl rfl (w64 sD sD) zN (lw_tv 1 rfl ?_)
   refine lw_callE 18 [] [] [(.pointer (some ⟨g,0,none⟩)),(.int .i64 ((256 :Nat):Int))] rfl rfl cf18 zN (c_spec_l00Src_pick _ g _ _ _ _ hs6 oM oM sD) ?_
   rintro e7 w7 ⟨x7_0,n7,rfl,hC7,hs7,hb7,hp7_0⟩
   refine ⟨_,rfl,?_⟩
   have hzs7:=hC7.size
   have hE7:Chg [g] w w7:=hE6.trans hC7
   refine q_add (((x5_0 * ((65536 :Nat):Int)) + (x6_0 * ((256 :Nat):Int))) + x7_0) rfl rfl (w64 sD sD) zN ?_
   exact q_rem (md (((x5_0 * ((65536 :Nat):Int)) + (x6_0 * ((256 :Nat):Int))) + x7_0)) rfl rfl (by decide) (Int.tmod_eq_emod_of_nonneg oM) zN (lw_tvn 1 rfl (wp_ret (b_ret (t_ret (post_ret [2] rfl (.int .i64 (md (((x5_0 * ((65536 :Nat):Int)) + (x6_0 * ((256 :Nat):Int))) + x7_0))) rfl ⟨md (((x5_0 * ((65536 :Nat):Int)) + (x6_0 * ((256 :Nat):Int))) + x7_0),n7,rfl,hE7,hs7,⟨by omega,by omega⟩,(by first | omega | exact md_num _)⟩)))))
  ·
   refine q_eql false rfl rfl (decide_eq_false hc4) zN (lw_tvn 1 rfl (c_cond_f rfl (wp_skip (wp_seq (wp_plain _ [0,4,0] rfl (lw_tv 1 rfl (lw_callE 18 [] [] [(.pointer (some ⟨g,0,none⟩)),(.int .i64 ((7 :Nat):Int))] rfl rfl cf18 zN (c_spec_l00Src_pick _ g _ _ _ _ hs1 oM oM sD) ?_)))))))
   rintro e8 w8 ⟨x8_0,n8,rfl,hC8,hs8,hb8,hp8_0⟩
   refine ⟨_,rfl,?_⟩
   have hzs8:=hC8.size
   have hE8:Chg [g] w w8:=hE1.trans hC8
   exact lw_tvn 1 rfl (wp_ret (post_ret [2] rfl (.int .i64 x8_0) rfl ⟨x8_0,n8,rfl,hE8,hs8,⟨by omega,by omega⟩,(by first | omega | exact md_num _)⟩))
theorem c_spec_l01Draw (w:World) (g:Nat) (sv:Value) (cs:List UInt8) (n0:Nat) (k:Int) (hs:Src w.heap g sv cs n0) (hn0:n0 + (8 * k.toNat)≤1000000000000) (_hk:-9223372036854775808≤k∧k≤9223372036854775807) (hk:k≤1000) :
  Calls Tryd.prog 19 #[.pointer (some ⟨g,0,none⟩),.int .i64 k] w (fun e w'=>∃ (v0:Value) (x0:List Int) (n1:Nat),e = .returned (v0)∧Chg [g] w w'∧Src w'.heap g sv cs n1∧(n0≤n1∧n1≤n0 + (8 * k.toNat))∧Fr (owL rI 2) w.heap.size w'.heap.size w'.heap v0 x0∧(x0.length = k.toNat∧allN x0 = true)):=by
 refine calls_mk [.pointer (some ⟨g,0,none⟩),.int .i64 k] 19 Tryd.func19 rfl rfl sM ?_
 have hE0:Chg [g] w w:=Chg.refl [g] w
 have hgl:=hs.lt
 refine wp_seq (wp_plain _ [0] rfl (lw_tvn 1 rfl (wp_seq (wp_plain _ [3,0] rfl (r_nil (rI) good_rI u24 ti2 zN fun v1 w1 hX1 hz1 hO1=>?_)))))
 have hzs1:=hX1.size
 have hE1:Chg [g] w w1:=hE0.ext hX1
 have hsx1:=hs.ext hX1
 refine lw_tvn 1 rfl (wp_seq (wp_seq (wp_plain _ [0] rfl (lw_tvn 1 rfl (wp_block ?_)))))
 refine c_loop (S:=Nat × Value × List Int × Nat) (fun (⟨j,vo,xs,m⟩:Nat × Value × List Int × Nat)=>([(5,vo),(6,(.int .i64 ((j :Nat):Int))),(0,(.pointer (some ⟨g,0,none⟩))),(1,(.int .i64 k))]:List (Nat × Value))) (fun (⟨j,vo,xs,m⟩:Nat × Value × List Int × Nat) (W:World)=>Chg [g] w W∧Fr (owL rI 2) w.heap.size W.heap.size W.heap vo xs∧Src W.heap g sv cs m∧j≤k.toNat∧(n0≤m∧m≤n0 + 8 * j)∧(xs.length = j∧allN xs = true)) (fun (⟨j,vo,xs,m⟩:Nat × Value × List Int × Nat)=>k.toNat - j) (0,v1,[],n0) ⟨rfl,rfl,rfl,rfl,trivial⟩ ⟨hE1,hO1.up o1,hsx1,sD,oM,(by exact ⟨rfl,rfl⟩)⟩ ?_
 clear hE0 hO1 hz1 hX1 hzs1 hE1
 rintro ⟨j,vo,xs,m⟩ ρ2 w2 ⟨hE2,hL2_0,hL2_1,hp2_0,hm,hxs⟩
 have hzs2:w.heap.size≤w2.heap.size:=hE2.size
 refine wp_seq (wp_seq (wp_plain _ [0,0,0] rfl (lw_tv 2 rfl ?_)))
 by_cases hc3:((j :Nat):Int) < k
 ·
  refine q_lss true rfl rfl (decide_eq_true hc3) zN (lw_nil (c_cond_t rfl (wp_skip (wp_seq (wp_block (wp_plain _ [0,0,4,3,4,0] rfl (lw_tv 2 rfl (lw_callE 39 [] [] [(.pointer (some ⟨g,0,none⟩))] rfl rfl cf39 zN (c_spec_l01Any _ g _ _ _ hL2_1 oM) ?_))))))))
  rintro e4 w4 ⟨x4_0,n4,rfl,hC4,hs4,hb4,hp4_0⟩
  refine ⟨_,rfl,?_⟩
  have hzs4:=hC4.size
  have hE4:Chg [g] w w4:=hE2.trans hC4
  have hF5:=hL2_0.chg (o1) hC4 (fun b hb=>by have:b = g:=(by simpa using hb); omega)
  refine r_one (u:=(.int .i64 x4_0)) (B:=w4.heap.size) good_rI u24 ti2 rfl rfl (frI w4.heap.size w4.heap.size _ _ oM) (Nat.le_refl _) zN fun v6 w6 hX6 hz6 hO6=>?_
  have hzs6:=hX6.size
  have hE6:Chg [g] w w6:=hE4.ext hX6
  have hF5x6:=hF5.ext (o1) hX6
  have hs4x6:=hs4.ext hX6
  refine e_appI (v:=vo) (a:=v6) u24 ti2 rfl rfl rfl hF5x6 hE6.size hO6.rd1 sD (by unfold maxLen; first | omega | assumption | (simp; done) | (simp; omega)) zN fun v7 w7 F7 hC7 hF7 hO7=>?_
  have hE7:Chg [g] w w7:=hE6.fresh hC7 (fun c hc=>Nat.le_trans (Nat.le_refl _) (hF7 c hc).1)
  have hzs7:=hC7.size
  have hF8:=hs4x6.chg hC7 (fun c hc=>by have:=hF7 c hc; omega)
  refine lw_tvn 1 rfl (wp_plain _ [0,0,0] rfl (lw_tv 1 rfl (q_add ((j + 1 :Nat):Int) rfl rfl (w64n oM oM) zN (lw_tvn 1 rfl ?_))))
  exact ⟨((j + 1),v7,(xs++[x4_0]),n4),_,rfl,⟨rfl,rfl,rfl,rfl,trivial⟩,⟨hE7,hO7.up o1,hF8,sD,oM,(by exact ⟨by rw [List.length_append,hxs.1]; rfl,by unfold allN at *; rw [List.all_append,hxs.2]; simp only [List.all_cons,List.all_nil,Bool.and_true,Bool.true_and]; exact isN_iff.2 oM⟩)⟩,by first | omega | (dsimp only; omega)⟩
 ·
  exact q_lss false rfl rfl (decide_eq_false hc3) zN (lw_nil (c_cond_f rfl (wp_exit (t_exit (t_exit (c_exit_here (wp_seq (wp_plain _ [0,0] rfl (lw_tvn 2 rfl (wp_ret (post_ret [4] rfl vo rfl ⟨vo,xs,m,rfl,hE2,hL2_1,⟨by omega,by omega⟩,hL2_0.up o1,(by exact ⟨by omega,hxs.2⟩)⟩)))))))))))
end Go.Proofs.YtlbefjfhfodnlaaDoor
namespace Go.Proofs.YtlbefjfhfodnlaaDoor
open Go Go.RowKit
set_option linter.unusedVariables false
set_option linter.unusedSimpArgs false
set_option maxHeartbeats 4000000
set_option maxRecDepth 100000
attribute [local irreducible] LW
theorem bld98a (a:Option Addr) (n c:Nat) (w:World):(Instr.build 66 #[(0,.slice a n c)]).run Tryd.prog w = .ok (.agg #[.slice a n c,.int .i64 0,.int .u64 0]) w:=by
  kernel_rfl
theorem bld98 {v:Value} {n:Nat} (h:isSl v n) (w:World):(Instr.build 66 #[(0,v)]).run Tryd.prog w = .ok (.agg #[v,.int .i64 0,.int .u64 0]) w:=by
  obtain ⟨a,c,rfl,_⟩:=h
  exact bld98a a n c w
theorem c_spec_l00From (w:World) (vc:Value) (cs:List UInt8) (hcs:Rd (rdL rU) w.heap vc cs)  :
  Calls Tryd.prog 17 #[vc] w (fun e w'=>∃ g:Nat,e = .returned (.pointer (some ⟨g,0,none⟩))∧Ext w w'∧Src w'.heap g vc cs 0∧w.heap.size≤g):=by
 refine calls_mk [vc] 6 Tryd.func17 rfl rfl sM ?_
 have hE0:Ext w w:=Ext.refl w
 have hl_vc:=hcs.lenle
 refine wp_seq (wp_plain _ [0] rfl (lw_tvn 1 rfl (wp_seq (wp_plain _ [0,0,3,0] rfl (lw_tv 1 rfl (q_build (ps:=#[(0,vc)]) (.agg #[vc,.int .i64 0,.int .u64 0]) (by simp only [List.map_toArray,List.map_cons,List.map_nil]; rfl) (fun wq=>bld98 hcs.isSl wq) zN (r_boxA rfl zN fun w1 hX1 hz1 hB1=>?_)))))))
 have hzs1:=hX1.size
 have hE1:=hE0.trans hX1
 have hs1:=Src.new hcs hE1 hB1 hE0.size
 exact lw_tvn 1 rfl (wp_ret (post_ret [2] rfl (.pointer (some ⟨w.heap.size,0,none⟩)) rfl ⟨w.heap.size,rfl,hE1,hs1,hE0.size⟩))
end Go.Proofs.YtlbefjfhfodnlaaDoor
namespace Go.Proofs.YtlbefjfhfodnlaaDoor
open Go Go.RowKit
set_option linter.unusedVariables false
set_option linter.unusedSimpArgs false
set_option maxHeartbeats 4000000
set_option maxRecDepth 100000
attribute [local irreducible] LW
theorem z5_0 {p:Prop} (h:p:=by first | (rw [decide_eq_true (show ((3000:Nat):Int) < ((cs.length:Nat):Int) by assumption)]; rfl) | (rw [decide_eq_false (show ¬ ((3000:Nat):Int) < ((cs.length:Nat):Int) by assumption),Bool.false_or])):p:=h
theorem c_laws_a2Long (w:World) (vc:Value) (cs:List UInt8) (vd:Value) (ds:List UInt8) (hcs:Rd (rdL rU) w.heap vc cs) (hds:Rd (rdL rU) w.heap vd ds)  :
  Calls Tryd.prog 5 #[vc,vd] w (fun e w'=>e = .returned (.bool (decide (((3000 :Nat):Int) < ((cs.length :Nat):Int)) || decide (((3000 :Nat):Int) < ((ds.length :Nat):Int))))∧Ext w w'):=by
 refine calls_mk [vc,vd] 13 Tryd.func5 rfl rfl sM ?_
 have hE0:Ext w w:=Ext.refl w
 have hl_vc:=hcs.lenle
 have hl_vd:=hds.lenle
 refine wp_seq (wp_plain _ [0] rfl (lw_tvn 1 rfl (wp_seq (wp_plain _ [0,0,0,0,0,0,0,0,0] rfl (lw_tv 1 rfl (q_len (v:=vc) u22 rfl hcs.isSl zN ?_))))))
 by_cases hc1:((3000 :Nat):Int) < ((cs.length :Nat):Int)
 ·
  exact q_gtr true rfl rfl (decide_eq_true hc1) zN (lw_tvn 6 rfl (wp_ret (post_ret [4] rfl (.bool true) rfl ⟨(ret_bool z5_0),hE0⟩)))
 ·
  exact q_gtr false rfl rfl (decide_eq_false hc1) zN (lw_tv 2 rfl (q_len (v:=vd) u22 rfl hds.isSl (zS (e:=8) rfl rfl rfl) (q_gtr (decide (((3000 :Nat):Int) < ((ds.length :Nat):Int))) rfl rfl rfl (zS (e:=8) rfl rfl rfl) (lw_tvn 2 rfl (wp_ret (post_ret [4] rfl (.bool (decide (((3000 :Nat):Int) < ((ds.length :Nat):Int)))) rfl ⟨(ret_bool z5_0),hE0⟩))))))
theorem c_laws_a2Same (w:World) (va:Value) (a:List Int) (vb:Value) (b:List Int) (ha:Rd (rdL rI) w.heap va a) (hb:Rd (rdL rI) w.heap vb b)  :
  Calls Tryd.prog 11 #[va,vb] w (fun e w'=>e = .returned (.bool (decide (a = b)))∧Ext w w'):=by
 refine calls_mk [va,vb] 26 Tryd.func11 rfl rfl sM ?_
 have hE0:Ext w w:=Ext.refl w
 have hl_va:=ha.lenle
 have hl_vb:=hb.lenle
 refine wp_seq (wp_plain _ [0] rfl (lw_tvn 1 rfl (wp_seq (wp_seq (wp_plain _ [0,0,0,0,0] rfl (lw_tv 1 rfl (q_len (v:=va) u24 rfl ha.isSl zN (lw_tv 1 rfl (q_len (v:=vb) u24 rfl hb.isSl zN ?_)))))))))
 by_cases hc1:((a.length :Nat):Int)≠((b.length :Nat):Int)
 ·
  exact q_neq true rfl rfl (decide_eq_true hc1) zN (lw_nil (c_cond_t rfl (wp_seq (wp_plain _ [0] rfl (lw_tvn 1 rfl (wp_ret (t_ret (post_ret [4] rfl (.bool false) rfl ⟨(ret_bool (decide_eq_false (leq_len oM)).symm),hE0⟩))))))))
 ·
  refine q_neq false rfl rfl (decide_eq_false hc1) zN (lw_nil (c_cond_f rfl (wp_skip (wp_seq (wp_seq (wp_plain _ [0] rfl (lw_tvn 1 rfl (wp_block (c_loop (S:=Nat) (fun (k:Nat)=>([(5,(.int .i64 ((k :Nat):Int))),(0,va),(1,vb)]:List (Nat × Value))) (fun (k:Nat) (W:World)=>Ext w W∧k≤a.length∧(∀ j,j < k→a.getD j 0 = b.getD j 0)) (fun (k:Nat)=>a.length - k) 0 ⟨rfl,rfl,rfl,trivial⟩ ⟨hE0,sD,(by intro j hj; omega)⟩ ?_)))))))))
  clear hE0
  rintro k ρ2 w2 ⟨hE2,hp2_0,hq⟩
  have hzs2:w.heap.size≤w2.heap.size:=hE2.size
  refine wp_seq (wp_seq (wp_plain _ [0,0,0,0] rfl (lw_tv 2 rfl (q_len (v:=va) u24 rfl ha.isSl zN ?_))))
  by_cases hc3:((k :Nat):Int) < ((a.length :Nat):Int)
  ·
   refine q_lss true rfl rfl (decide_eq_true hc3) zN (lw_nil (c_cond_t rfl (wp_skip (wp_seq (wp_block (wp_seq (wp_draw _ [0,0,0,1,0,0,0,1,0] mixed (by kernel_rfl) (lw_tv 2 rfl (q_idx (v:=va) k u24 ti2 rfl rfl ha.isSl rfl sD zN ?_)))))))))
   refine q_load (p:=eptr va k 1) (.inl rfl) (.int .i64 (a.getD k 0)) one2 rfl (ldH_ext hE2.drew (ha.getI sD).1) zN (lw_tv 2 rfl ?_)
   refine q_idx (v:=vb) k u24 ti2 rfl rfl hb.isSl rfl sD zN ?_
   refine q_load (p:=eptr vb k 1) (.inl rfl) (.int .i64 (b.getD k 0)) one2 rfl (ldH_ext hE2.drew (hb.getI sD).1) zN ?_
   by_cases hc4:a.getD k 0≠b.getD k 0
   ·
    exact q_neq true rfl rfl (decide_eq_true hc4) zN (lw_nil (c_cond_t rfl (wp_seq (wp_plain _ [0] rfl (lw_tvn 1 rfl (wp_ret (b_ret (t_ret (t_ret (b_ret (t_ret (post_ret [4] rfl (.bool false) rfl ⟨(ret_bool (decide_eq_false (leq_fail (d:=0) (k:=k) oM)).symm),hE2.drew⟩))))))))))))
   ·
    refine q_neq false rfl rfl (decide_eq_false hc4) zN (lw_nil (c_cond_f rfl (wp_skip (wp_plain _ [0,0,0] rfl (lw_tv 1 rfl (q_add ((k + 1 :Nat):Int) rfl rfl (w64n oM sD) zN (lw_tvn 1 rfl ?_)))))))
    exact ⟨(k + 1),_,rfl,⟨rfl,rfl,rfl,trivial⟩,⟨hE2.drew,sD,(by exact leq_step hq oM)⟩,by first | omega | (dsimp only; omega)⟩
  ·
   exact q_lss false rfl rfl (decide_eq_false hc3) zN (lw_nil (c_cond_f rfl (wp_exit (t_exit (t_exit (c_exit_here (wp_seq (wp_plain _ [0] rfl (lw_tvn 1 rfl (wp_ret (post_ret [4] rfl (.bool true) rfl ⟨(ret_bool (decide_eq_true (leq_done hq oM oM)).symm),hE2⟩)))))))))))
end Go.Proofs.YtlbefjfhfodnlaaDoor
namespace Go.Proofs.YtlbefjfhfodnlaaDoor
open Go Go.RowKit
set_option linter.unusedVariables false
set_option linter.unusedSimpArgs false
def rT:Stand ByteArray:=fun _ v x F=>v = .string x∧F = []
theorem good_rT:Good rT:=⟨fun h=>by rw [h.1]; rfl,fun h=>by rw [h.1]; rfl,fun h b hb=>(by rw [h.2] at hb; cases hb),fun h _=>h⟩
theorem oT {e:TypeId}:Good (owL rT e):=good_owL good_rT
theorem frT {B U:Nat} {H:Array Obj} (x:ByteArray):Fr rT B U H (.string x) x:=⟨[],⟨rfl,rfl⟩,List.nodup_nil,fun b hb=>by cases hb⟩
theorem Rd.getT {H:Array Obj} {v:Value} {xs:List ByteArray} {k:Nat} (h:Rd (rdL rT) H v xs) (hk:k < xs.length):ldH H (eptr v k 1) = some (.string (xs.getD k ByteArray.empty)):=by
  obtain ⟨u,h1,F,h2,_⟩:=Rd.get ByteArray.empty h hk
  rw [h1,h2]
theorem Fr.rdT {e:TypeId} {B U:Nat} {H:Array Obj} {v:Value} {xs:List ByteArray} (h:Fr (owL rT e) B U H v xs):Rd (rdL rT) H v xs:=h.rd id
theorem Fr.getT {e:TypeId} {B U:Nat} {H:Array Obj} {v:Value} {xs:List ByteArray} {k:Nat} (h:Fr (owL rT e) B U H v xs) (hk:k < xs.length):ldH H (eptr v k 1) = some (.string (xs.getD k ByteArray.empty)):=h.rdT.getT hk
theorem fr_newT {w:World} {e:TypeId} (xs:List ByteArray) (hl:xs.length≤maxLen):Fr (owL rT e) w.heap.size (w.alloc (.cells (xs.map Value.string).toArray e)).heap.size (w.alloc (.cells (xs.map Value.string).toArray e)).heap (.slice (some ⟨w.heap.size,0,none⟩) xs.length xs.length) xs:=by
  have hels:∀ (H:Array Obj) (xs:List ByteArray),els rT H (xs.map Value.string) xs []:=by
    intro H xs
    induction xs with
    | nil=>rfl
    | cons x xs ih=>exact ⟨[],[],rfl,⟨rfl,rfl⟩,ih⟩
  have hn:=owL_new (e:=e) (w:=w) good_rT (us:=xs.map Value.string) (xs:=xs) (F:=[]) (cur:=(xs.map Value.string).toArray) (hels _ xs) (by simp; omega) (by show List.take _ (List.map Value.string xs) = _; exact List.take_of_length_le (by simp)) (by simp)
  simp only [List.length_map,List.size_toArray] at hn
  refine ⟨_,by simpa using hn,by simp,fun c hc=>?_⟩
  simp at hc
  subst hc
  simp
end Go.Proofs.YtlbefjfhfodnlaaDoor
namespace Go.Proofs.YtlbefjfhfodnlaaDoor
open Go Go.RowKit Go.Shelf
set_option linter.unusedVariables false
set_option maxRecDepth 100000
def layJoin_ren : Go.Shelf.Ren := ⟨fun | 156 => 44 | 165 => 57 | 166 => 58 | 169 => 59 | 240 => 73 | 241 => 74 | 276 => 89 | 277 => 90 | n => n, fun | 31 => 52 | 9 => 9 | 3 => 3 | 4 => 4 | 0 => 0 | 20 => 20 | 72 => 88 | 76 => 90 | 70 => 86 | 37 => 22 | 75 => 79 | 127 => 98 | 164 => 115 | 5 => 5 | 80 => 92 | n => n, fun | n => n⟩
theorem layJoin : Go.Proofs.Lays.n156 Tryd.prog layJoin_ren := {
  mixed := by kernel_rfl
  f156 := Tryd.func44.trans (congrArg some (by kernel_rfl))
  f165 := Tryd.func57.trans (congrArg some (by kernel_rfl))
  f166 := Tryd.func58.trans (congrArg some (by kernel_rfl))
  f169 := Tryd.func59.trans (congrArg some (by kernel_rfl))
  f240 := Tryd.func73.trans (congrArg some (by kernel_rfl))
  f241 := Tryd.func74.trans (congrArg some (by kernel_rfl))
  f276 := Tryd.func89.trans (congrArg some (by kernel_rfl))
  f277 := Tryd.func90.trans (congrArg some (by kernel_rfl))
  t0 := Tryd.underlying0
  a0 := Tryd.isAgg0
  z0 := Tryd.sizeOf0
  v0 := Tryd.zeroValue0
  t3 := Tryd.underlying3
  a3 := Tryd.isAgg3
  z3 := Tryd.sizeOf3
  v3 := Tryd.zeroValue3
  t4 := Tryd.underlying4
  a4 := Tryd.isAgg4
  z4 := Tryd.sizeOf4
  v4 := Tryd.zeroValue4
  t9 := Tryd.underlying9
  a9 := Tryd.isAgg9
  z9 := Tryd.sizeOf9
  v9 := Tryd.zeroValue9
  t20 := Tryd.underlying20
  a20 := Tryd.isAgg20
  z20 := Tryd.sizeOf20
  v20 := Tryd.zeroValue20
  t31 := Tryd.underlying52
  a31 := Tryd.isAgg52
  z31 := Tryd.sizeOf52
  v31 := Tryd.zeroValue52
  t37 := Tryd.underlying22
  a37 := Tryd.isAgg22
  z37 := Tryd.sizeOf22
  v37 := Tryd.zeroValue22
  t70 := Tryd.underlying86
  a70 := Tryd.isAgg86
  z70 := Tryd.sizeOf86
  v70 := Tryd.zeroValue86
  t72 := Tryd.underlying88
  a72 := Tryd.isAgg88
  z72 := Tryd.sizeOf88
  v72 := Tryd.zeroValue88
  t75 := Tryd.underlying79
  a75 := Tryd.isAgg79
  z75 := Tryd.sizeOf79
  v75 := Tryd.zeroValue79
  t76 := Tryd.underlying90
  a76 := Tryd.isAgg90
  z76 := Tryd.sizeOf90
  v76 := Tryd.zeroValue90
  t127 := Tryd.underlying98
  a127 := Tryd.isAgg98
  z127 := Tryd.sizeOf98
  v127 := Tryd.zeroValue98
  t164 := Tryd.underlying115
  a164 := Tryd.isAgg115
  z164 := Tryd.sizeOf115
  v164 := Tryd.zeroValue115 }
theorem layJX:Builder.Extra Tryd.prog layJoin_ren where
  sizeBuilder:=by kernel_rfl
  liesBuilder:=by kernel_rfl
  t5:=Tryd.underlying5
  a5:=Tryd.isAgg5
  z5:=Tryd.sizeOf5
  v5:=Tryd.zeroValue5
  infoByte:=by kernel_rfl
  cellsByte:=by kernel_rfl
  sizeByte:=by kernel_rfl
  neB5:=by decide
def layFmtM_ren : Go.Shelf.Ren := ⟨fun | 173 => 56 | 246 => 72 | 283 => 85 | 284 => 86 | 285 => 87 | 286 => 88 | 129 => 101 | 317 => 100 | 318 => 102 | 319 => 103 | 320 => 104 | 337 => 107 | 338 => 108 | n => n, fun | 2 => 2 | 3 => 3 | 9 => 9 | 4 => 4 | 171 => 110 | 0 => 0 | 53 => 64 | 37 => 22 | 5 => 5 | 173 => 113 | 212 => 125 | 51 => 126 | 20 => 20 | 213 => 127 | 46 => 82 | 232 => 140 | 233 => 141 | n => n, fun | 17 => 3 | 18 => 6 | 19 => 7 | n => n⟩
theorem layFmtM : Go.Proofs.LaysM.n173 Tryd.prog layFmtM_ren := {
  mixed := by kernel_rfl
  f129 := Tryd.func101.trans (congrArg some (by kernel_rfl))
  f173 := Tryd.func56.trans (congrArg some (by kernel_rfl))
  f246 := Tryd.func72.trans (congrArg some (by kernel_rfl))
  f283 := Tryd.func85.trans (congrArg some (by kernel_rfl))
  f284 := Tryd.func86.trans (congrArg some (by kernel_rfl))
  f285 := Tryd.func87.trans (congrArg some (by kernel_rfl))
  f286 := Tryd.func88.trans (congrArg some (by kernel_rfl))
  f317 := Tryd.func100.trans (congrArg some (by kernel_rfl))
  f318 := Tryd.func102.trans (congrArg some (by kernel_rfl))
  f319 := Tryd.func103.trans (congrArg some (by kernel_rfl))
  f320 := Tryd.func104.trans (congrArg some (by kernel_rfl))
  f337 := Tryd.func107.trans (congrArg some (by kernel_rfl))
  f338 := Tryd.func108.trans (congrArg some (by kernel_rfl))
  t0 := Tryd.underlying0
  a0 := Tryd.isAgg0
  z0 := Tryd.sizeOf0
  v0 := Tryd.zeroValue0
  t2 := Tryd.underlying2
  a2 := Tryd.isAgg2
  z2 := Tryd.sizeOf2
  v2 := Tryd.zeroValue2
  t3 := Tryd.underlying3
  a3 := Tryd.isAgg3
  z3 := Tryd.sizeOf3
  v3 := Tryd.zeroValue3
  t4 := Tryd.underlying4
  a4 := Tryd.isAgg4
  z4 := Tryd.sizeOf4
  v4 := Tryd.zeroValue4
  t5 := Tryd.underlying5
  a5 := Tryd.isAgg5
  z5 := Tryd.sizeOf5
  v5 := Tryd.zeroValue5
  t9 := Tryd.underlying9
  a9 := Tryd.isAgg9
  z9 := Tryd.sizeOf9
  v9 := Tryd.zeroValue9
  t20 := Tryd.underlying20
  a20 := Tryd.isAgg20
  z20 := Tryd.sizeOf20
  v20 := Tryd.zeroValue20
  t37 := Tryd.underlying22
  a37 := Tryd.isAgg22
  z37 := Tryd.sizeOf22
  v37 := Tryd.zeroValue22
  t46 := Tryd.underlying82
  a46 := Tryd.isAgg82
  z46 := Tryd.sizeOf82
  v46 := Tryd.zeroValue82
  t51 := Tryd.underlying126
  a51 := Tryd.isAgg126
  z51 := Tryd.sizeOf126
  v51 := Tryd.zeroValue126
  t53 := Tryd.underlying64
  a53 := Tryd.isAgg64
  z53 := Tryd.sizeOf64
  v53 := Tryd.zeroValue64
  t171 := Tryd.underlying110
  a171 := Tryd.isAgg110
  z171 := Tryd.sizeOf110
  v171 := Tryd.zeroValue110
  t173 := Tryd.underlying113
  a173 := Tryd.isAgg113
  z173 := Tryd.sizeOf113
  v173 := Tryd.zeroValue113
  t212 := Tryd.underlying125
  a212 := Tryd.isAgg125
  z212 := Tryd.sizeOf125
  v212 := Tryd.zeroValue125
  t213 := Tryd.underlying127
  a213 := Tryd.isAgg127
  z213 := Tryd.sizeOf127
  t232 := Tryd.underlying140
  a232 := Tryd.isAgg140
  z232 := Tryd.sizeOf140
  v232 := Tryd.zeroValue140
  t233 := Tryd.underlying141
  a233 := Tryd.isAgg141
  z233 := Tryd.sizeOf141
  v233 := Tryd.zeroValue141
  g17 := by kernel_rfl
  g18 := by kernel_rfl
  g19 := by kernel_rfl
  i0 := by kernel_rfl
  i2 := by kernel_rfl
  i3 := by kernel_rfl
  i4 := by kernel_rfl
  i5 := by kernel_rfl
  i9 := by kernel_rfl
  i20 := by kernel_rfl
  i37 := by kernel_rfl
  i46 := by kernel_rfl
  i51 := by kernel_rfl
  i53 := by kernel_rfl
  i171 := by kernel_rfl
  i173 := by kernel_rfl
  i212 := by kernel_rfl
  i232 := by kernel_rfl
  i233 := by kernel_rfl
  m17 := by kernel_rfl
  m18 := by kernel_rfl
  m19 := by kernel_rfl }
def layPar_ren : Go.Shelf.Ren := ⟨fun | 174 => 51 | 247 => 66 | 245 => 67 | 287 => 79 | 279 => 80 | 280 => 81 | 281 => 82 | 282 => 83 | 321 => 95 | 322 => 96 | 316 => 97 | 171 => 99 | 205 => 98 | 243 => 106 | 246 => 72 | 283 => 85 | 284 => 86 | 285 => 87 | 286 => 88 | 129 => 101 | 317 => 100 | 318 => 102 | 319 => 103 | 320 => 104 | 337 => 107 | 338 => 108 | n => n, fun | 9 => 9 | 3 => 3 | 2 => 2 | 75 => 79 | 85 => 80 | 4 => 4 | 167 => 102 | 5 => 5 | 53 => 64 | 175 => 103 | 46 => 82 | 168 => 105 | 37 => 22 | 0 => 0 | 210 => 122 | 21 => 21 | 127 => 98 | 145 => 138 | 143 => 136 | 171 => 110 | 173 => 113 | 212 => 125 | 51 => 126 | 20 => 20 | 213 => 127 | 232 => 140 | 233 => 141 | 80 => 92 | n => n, fun | 15 => 1 | 16 => 2 | 17 => 3 | 18 => 6 | 19 => 7 | n => n⟩
theorem layPar : Go.Proofs.LaysC.n174 Tryd.prog layPar_ren := {
  mixed := by kernel_rfl
  f129 := Tryd.func101.trans (congrArg some (by kernel_rfl))
  f171 := Tryd.func99.trans (congrArg some (by kernel_rfl))
  f174 := Tryd.func51.trans (congrArg some (by kernel_rfl))
  f205 := Tryd.func98.trans (congrArg some (by kernel_rfl))
  f243 := Tryd.func106.trans (congrArg some (by kernel_rfl))
  f245 := Tryd.func67.trans (congrArg some (by kernel_rfl))
  f246 := Tryd.func72.trans (congrArg some (by kernel_rfl))
  f247 := Tryd.func66.trans (congrArg some (by kernel_rfl))
  f279 := Tryd.func80.trans (congrArg some (by kernel_rfl))
  f280 := Tryd.func81.trans (congrArg some (by kernel_rfl))
  f281 := Tryd.func82.trans (congrArg some (by kernel_rfl))
  f282 := Tryd.func83.trans (congrArg some (by kernel_rfl))
  f283 := Tryd.func85.trans (congrArg some (by kernel_rfl))
  f284 := Tryd.func86.trans (congrArg some (by kernel_rfl))
  f285 := Tryd.func87.trans (congrArg some (by kernel_rfl))
  f286 := Tryd.func88.trans (congrArg some (by kernel_rfl))
  f287 := Tryd.func79.trans (congrArg some (by kernel_rfl))
  f316 := Tryd.func97.trans (congrArg some (by kernel_rfl))
  f317 := Tryd.func100.trans (congrArg some (by kernel_rfl))
  f318 := Tryd.func102.trans (congrArg some (by kernel_rfl))
  f319 := Tryd.func103.trans (congrArg some (by kernel_rfl))
  f320 := Tryd.func104.trans (congrArg some (by kernel_rfl))
  f321 := Tryd.func95.trans (congrArg some (by kernel_rfl))
  f322 := Tryd.func96.trans (congrArg some (by kernel_rfl))
  f337 := Tryd.func107.trans (congrArg some (by kernel_rfl))
  f338 := Tryd.func108.trans (congrArg some (by kernel_rfl))
  t0 := Tryd.underlying0
  a0 := Tryd.isAgg0
  z0 := Tryd.sizeOf0
  v0 := Tryd.zeroValue0
  t2 := Tryd.underlying2
  a2 := Tryd.isAgg2
  z2 := Tryd.sizeOf2
  v2 := Tryd.zeroValue2
  t3 := Tryd.underlying3
  a3 := Tryd.isAgg3
  z3 := Tryd.sizeOf3
  v3 := Tryd.zeroValue3
  t4 := Tryd.underlying4
  a4 := Tryd.isAgg4
  z4 := Tryd.sizeOf4
  v4 := Tryd.zeroValue4
  t5 := Tryd.underlying5
  a5 := Tryd.isAgg5
  z5 := Tryd.sizeOf5
  v5 := Tryd.zeroValue5
  t9 := Tryd.underlying9
  a9 := Tryd.isAgg9
  z9 := Tryd.sizeOf9
  v9 := Tryd.zeroValue9
  t20 := Tryd.underlying20
  a20 := Tryd.isAgg20
  z20 := Tryd.sizeOf20
  v20 := Tryd.zeroValue20
  t21 := Tryd.underlying21
  a21 := Tryd.isAgg21
  z21 := Tryd.sizeOf21
  v21 := Tryd.zeroValue21
  t37 := Tryd.underlying22
  a37 := Tryd.isAgg22
  z37 := Tryd.sizeOf22
  v37 := Tryd.zeroValue22
  t46 := Tryd.underlying82
  a46 := Tryd.isAgg82
  z46 := Tryd.sizeOf82
  v46 := Tryd.zeroValue82
  t51 := Tryd.underlying126
  a51 := Tryd.isAgg126
  z51 := Tryd.sizeOf126
  v51 := Tryd.zeroValue126
  t53 := Tryd.underlying64
  a53 := Tryd.isAgg64
  z53 := Tryd.sizeOf64
  v53 := Tryd.zeroValue64
  t75 := Tryd.underlying79
  a75 := Tryd.isAgg79
  z75 := Tryd.sizeOf79
  v75 := Tryd.zeroValue79
  t85 := Tryd.underlying80
  a85 := Tryd.isAgg80
  z85 := Tryd.sizeOf80
  v85 := Tryd.zeroValue80
  t127 := Tryd.underlying98
  a127 := Tryd.isAgg98
  z127 := Tryd.sizeOf98
  v127 := Tryd.zeroValue98
  t143 := Tryd.underlying136
  a143 := Tryd.isAgg136
  z143 := Tryd.sizeOf136
  v143 := Tryd.zeroValue136
  t145 := Tryd.underlying138
  a145 := Tryd.isAgg138
  z145 := Tryd.sizeOf138
  v145 := Tryd.zeroValue138
  t167 := Tryd.underlying102
  a167 := Tryd.isAgg102
  z167 := Tryd.sizeOf102
  v167 := Tryd.zeroValue102
  t168 := Tryd.underlying105
  a168 := Tryd.isAgg105
  z168 := Tryd.sizeOf105
  v168 := Tryd.zeroValue105
  t171 := Tryd.underlying110
  a171 := Tryd.isAgg110
  z171 := Tryd.sizeOf110
  v171 := Tryd.zeroValue110
  t173 := Tryd.underlying113
  a173 := Tryd.isAgg113
  z173 := Tryd.sizeOf113
  v173 := Tryd.zeroValue113
  t175 := Tryd.underlying103
  a175 := Tryd.isAgg103
  z175 := Tryd.sizeOf103
  v175 := Tryd.zeroValue103
  t210 := Tryd.underlying122
  a210 := Tryd.isAgg122
  z210 := Tryd.sizeOf122
  v210 := Tryd.zeroValue122
  t212 := Tryd.underlying125
  a212 := Tryd.isAgg125
  z212 := Tryd.sizeOf125
  v212 := Tryd.zeroValue125
  t213 := Tryd.underlying127
  a213 := Tryd.isAgg127
  z213 := Tryd.sizeOf127
  t232 := Tryd.underlying140
  a232 := Tryd.isAgg140
  z232 := Tryd.sizeOf140
  v232 := Tryd.zeroValue140
  t233 := Tryd.underlying141
  a233 := Tryd.isAgg141
  z233 := Tryd.sizeOf141
  v233 := Tryd.zeroValue141
  g15 := by kernel_rfl
  g16 := by kernel_rfl
  g17 := by kernel_rfl
  g18 := by kernel_rfl
  g19 := by kernel_rfl
  t80 := Tryd.underlying92
  a80 := Tryd.isAgg92
  z80 := Tryd.sizeOf92
  v80 := Tryd.zeroValue92
  i0 := by kernel_rfl
  i2 := by kernel_rfl
  i3 := by kernel_rfl
  i4 := by kernel_rfl
  i5 := by kernel_rfl
  i9 := by kernel_rfl
  i20 := by kernel_rfl
  i21 := by kernel_rfl
  i37 := by kernel_rfl
  i46 := by kernel_rfl
  i51 := by kernel_rfl
  i53 := by kernel_rfl
  i75 := by kernel_rfl
  i80 := by kernel_rfl
  i85 := by kernel_rfl
  i127 := by kernel_rfl
  i143 := by kernel_rfl
  i145 := by kernel_rfl
  i167 := by kernel_rfl
  i168 := by kernel_rfl
  i171 := by kernel_rfl
  i173 := by kernel_rfl
  i175 := by kernel_rfl
  i210 := by kernel_rfl
  i212 := by kernel_rfl
  i232 := by kernel_rfl
  i233 := by kernel_rfl
  m15 := by kernel_rfl
  m16 := by kernel_rfl
  m17 := by kernel_rfl
  m18 := by kernel_rfl
  m19 := by kernel_rfl
  c0 := by kernel_rfl
  c2 := by kernel_rfl
  c3 := by kernel_rfl
  c4 := by kernel_rfl
  c5 := by kernel_rfl
  c9 := by kernel_rfl
  c20 := by kernel_rfl
  c21 := by kernel_rfl
  c37 := by kernel_rfl
  c46 := by kernel_rfl
  c51 := by kernel_rfl
  c53 := by kernel_rfl
  c75 := by kernel_rfl
  c80 := by kernel_rfl
  c85 := by kernel_rfl
  c127 := by kernel_rfl
  c143 := by kernel_rfl
  c145 := by kernel_rfl
  c167 := by kernel_rfl
  c168 := by kernel_rfl
  c171 := by kernel_rfl
  c173 := by kernel_rfl
  c175 := by kernel_rfl
  c210 := by kernel_rfl
  c212 := by kernel_rfl
  c213 := by kernel_rfl
  c232 := by kernel_rfl
  c233 := by kernel_rfl }
def laySpl_ren : Go.Shelf.Ren := ⟨fun | 146 => 33 | 221 => 49 | 268 => 62 | 138 => 63 | 143 => 64 | 195 => 75 | 197 => 76 | 218 => 77 | 219 => 78 | 260 => 91 | 217 => 50 | 225 => 92 | 224 => 93 | 267 => 94 | 266 => 65 | 314 => 105 | n => n, fun | 9 => 9 | 31 => 52 | 3 => 3 | 4 => 4 | 0 => 0 | 105 => 100 | 21 => 21 | 5 => 5 | 46 => 82 | 119 => 130 | 139 => 133 | 138 => 132 | 146 => 134 | 51 => 126 | n => n, fun | 1 => 0 | 3 => 4 | 4 => 5 | n => n⟩
theorem laySpl : Go.Proofs.Lays.n146 Tryd.prog laySpl_ren := {
  mixed := by kernel_rfl
  f138 := Tryd.func63.trans (congrArg some (by kernel_rfl))
  f143 := Tryd.func64.trans (congrArg some (by kernel_rfl))
  f146 := Tryd.func33.trans (congrArg some (by kernel_rfl))
  f195 := Tryd.func75.trans (congrArg some (by kernel_rfl))
  f197 := Tryd.func76.trans (congrArg some (by kernel_rfl))
  f217 := Tryd.func50.trans (congrArg some (by kernel_rfl))
  f218 := Tryd.func77.trans (congrArg some (by kernel_rfl))
  f219 := Tryd.func78.trans (congrArg some (by kernel_rfl))
  f221 := Tryd.func49.trans (congrArg some (by kernel_rfl))
  f224 := Tryd.func93.trans (congrArg some (by kernel_rfl))
  f225 := Tryd.func92.trans (congrArg some (by kernel_rfl))
  f260 := Tryd.func91.trans (congrArg some (by kernel_rfl))
  f266 := Tryd.func65.trans (congrArg some (by kernel_rfl))
  f267 := Tryd.func94.trans (congrArg some (by kernel_rfl))
  f268 := Tryd.func62.trans (congrArg some (by kernel_rfl))
  f314 := Tryd.func105.trans (congrArg some (by kernel_rfl))
  t0 := Tryd.underlying0
  a0 := Tryd.isAgg0
  z0 := Tryd.sizeOf0
  v0 := Tryd.zeroValue0
  t3 := Tryd.underlying3
  a3 := Tryd.isAgg3
  z3 := Tryd.sizeOf3
  v3 := Tryd.zeroValue3
  t4 := Tryd.underlying4
  a4 := Tryd.isAgg4
  z4 := Tryd.sizeOf4
  v4 := Tryd.zeroValue4
  t5 := Tryd.underlying5
  a5 := Tryd.isAgg5
  z5 := Tryd.sizeOf5
  v5 := Tryd.zeroValue5
  t9 := Tryd.underlying9
  a9 := Tryd.isAgg9
  z9 := Tryd.sizeOf9
  v9 := Tryd.zeroValue9
  t21 := Tryd.underlying21
  a21 := Tryd.isAgg21
  z21 := Tryd.sizeOf21
  v21 := Tryd.zeroValue21
  t31 := Tryd.underlying52
  a31 := Tryd.isAgg52
  z31 := Tryd.sizeOf52
  v31 := Tryd.zeroValue52
  t46 := Tryd.underlying82
  a46 := Tryd.isAgg82
  z46 := Tryd.sizeOf82
  v46 := Tryd.zeroValue82
  t51 := Tryd.underlying126
  a51 := Tryd.isAgg126
  z51 := Tryd.sizeOf126
  v51 := Tryd.zeroValue126
  t105 := Tryd.underlying100
  a105 := Tryd.isAgg100
  z105 := Tryd.sizeOf100
  v105 := Tryd.zeroValue100
  t119 := Tryd.underlying130
  a119 := Tryd.isAgg130
  z119 := Tryd.sizeOf130
  t138 := Tryd.underlying132
  a138 := Tryd.isAgg132
  z138 := Tryd.sizeOf132
  v138 := Tryd.zeroValue132
  t139 := Tryd.underlying133
  a139 := Tryd.isAgg133
  z139 := Tryd.sizeOf133
  v139 := Tryd.zeroValue133
  t146 := Tryd.underlying134
  a146 := Tryd.isAgg134
  z146 := Tryd.sizeOf134
  v146 := Tryd.zeroValue134
  g1 := by kernel_rfl
  g3 := by kernel_rfl
  g4 := by kernel_rfl }
def laySplM_ren : Go.Shelf.Ren := ⟨fun | 146 => 33 | 221 => 49 | 268 => 62 | 138 => 63 | 143 => 64 | 195 => 75 | 197 => 76 | 218 => 77 | 219 => 78 | 260 => 91 | 217 => 50 | 225 => 92 | 224 => 93 | 267 => 94 | 266 => 65 | 314 => 105 | n => n, fun | 9 => 9 | 31 => 52 | 3 => 3 | 4 => 4 | 0 => 0 | 105 => 100 | 21 => 21 | 5 => 5 | 46 => 82 | 119 => 130 | 139 => 133 | 138 => 132 | 146 => 134 | 51 => 126 | n => n, fun | 1 => 0 | 3 => 4 | 4 => 5 | n => n⟩
theorem laySplM : Go.Proofs.LaysM.n146 Tryd.prog laySplM_ren := {
  mixed := by kernel_rfl
  f138 := Tryd.func63.trans (congrArg some (by kernel_rfl))
  f143 := Tryd.func64.trans (congrArg some (by kernel_rfl))
  f146 := Tryd.func33.trans (congrArg some (by kernel_rfl))
  f195 := Tryd.func75.trans (congrArg some (by kernel_rfl))
  f197 := Tryd.func76.trans (congrArg some (by kernel_rfl))
  f217 := Tryd.func50.trans (congrArg some (by kernel_rfl))
  f218 := Tryd.func77.trans (congrArg some (by kernel_rfl))
  f219 := Tryd.func78.trans (congrArg some (by kernel_rfl))
  f221 := Tryd.func49.trans (congrArg some (by kernel_rfl))
  f224 := Tryd.func93.trans (congrArg some (by kernel_rfl))
  f225 := Tryd.func92.trans (congrArg some (by kernel_rfl))
  f260 := Tryd.func91.trans (congrArg some (by kernel_rfl))
  f266 := Tryd.func65.trans (congrArg some (by kernel_rfl))
  f267 := Tryd.func94.trans (congrArg some (by kernel_rfl))
  f268 := Tryd.func62.trans (congrArg some (by kernel_rfl))
  f314 := Tryd.func105.trans (congrArg some (by kernel_rfl))
  t0 := Tryd.underlying0
  a0 := Tryd.isAgg0
  z0 := Tryd.sizeOf0
  v0 := Tryd.zeroValue0
  t3 := Tryd.underlying3
  a3 := Tryd.isAgg3
  z3 := Tryd.sizeOf3
  v3 := Tryd.zeroValue3
  t4 := Tryd.underlying4
  a4 := Tryd.isAgg4
  z4 := Tryd.sizeOf4
  v4 := Tryd.zeroValue4
  t5 := Tryd.underlying5
  a5 := Tryd.isAgg5
  z5 := Tryd.sizeOf5
  v5 := Tryd.zeroValue5
  t9 := Tryd.underlying9
  a9 := Tryd.isAgg9
  z9 := Tryd.sizeOf9
  v9 := Tryd.zeroValue9
  t21 := Tryd.underlying21
  a21 := Tryd.isAgg21
  z21 := Tryd.sizeOf21
  v21 := Tryd.zeroValue21
  t31 := Tryd.underlying52
  a31 := Tryd.isAgg52
  z31 := Tryd.sizeOf52
  v31 := Tryd.zeroValue52
  t46 := Tryd.underlying82
  a46 := Tryd.isAgg82
  z46 := Tryd.sizeOf82
  v46 := Tryd.zeroValue82
  t51 := Tryd.underlying126
  a51 := Tryd.isAgg126
  z51 := Tryd.sizeOf126
  v51 := Tryd.zeroValue126
  t105 := Tryd.underlying100
  a105 := Tryd.isAgg100
  z105 := Tryd.sizeOf100
  v105 := Tryd.zeroValue100
  t119 := Tryd.underlying130
  a119 := Tryd.isAgg130
  z119 := Tryd.sizeOf130
  t138 := Tryd.underlying132
  a138 := Tryd.isAgg132
  z138 := Tryd.sizeOf132
  v138 := Tryd.zeroValue132
  t139 := Tryd.underlying133
  a139 := Tryd.isAgg133
  z139 := Tryd.sizeOf133
  v139 := Tryd.zeroValue133
  t146 := Tryd.underlying134
  a146 := Tryd.isAgg134
  z146 := Tryd.sizeOf134
  v146 := Tryd.zeroValue134
  g1 := by kernel_rfl
  g3 := by kernel_rfl
  g4 := by kernel_rfl
  i0 := by kernel_rfl
  i3 := by kernel_rfl
  i4 := by kernel_rfl
  i5 := by kernel_rfl
  i9 := by kernel_rfl
  i21 := by kernel_rfl
  i31 := by kernel_rfl
  i46 := by kernel_rfl
  i51 := by kernel_rfl
  i105 := by kernel_rfl
  i138 := by kernel_rfl
  i139 := by kernel_rfl
  i146 := by kernel_rfl
  m1 := by kernel_rfl
  s1_3 := fun w h => Go.Proofs.cell_of_shapedOpen_int (zero := #[.int .i64 0]) (t := 3) h (of_decide_eq_true (by kernel_rfl)) (by kernel_rfl) rfl (by kernel_rfl) (by kernel_rfl) Tryd.underlying3
  m3 := by kernel_rfl
  m4 := by kernel_rfl }
theorem sent_of {P:Program} {W:World} {n nm:String} {d:DataW Unit} {g t:Nat} {ms:Array (String × TypeId)} (hg:P.globalNamed n = some g) (ht:(P.globals[g]?).map (·.type) = some t) (hu:P.underlying t = some (.interface ms))
    (h:Lib.VarReads P W n (.iface nm d)):∃ u v,W.cell? ⟨g,0,none⟩ = some (.iface u v):=by
  obtain ⟨g',t',cs,fuel,p,hg',ht',hv,hd⟩:=h
  obtain rfl:=Option.some.inj (hg.symm.trans hg')
  obtain rfl:=Option.some.inj (ht.symm.trans ht')
  obtain ⟨_,u,v,hc,_⟩:=iface_of_trod hu hd
  refine ⟨u,v,?_⟩
  rw [World.var?_cell hg hv 0]
  have:cs.toList[0]? = some (.iface u v):=by rw [hc]; rfl
  simpa using this
structure GW (w:World):Prop where
  ml:∃ m,w.cell? ⟨0,0,none⟩ = some (.int .i64 m)
  es:∃ t p,w.cell? ⟨1,0,none⟩ = some (.iface t p)
  er:∃ t p,w.cell? ⟨2,0,none⟩ = some (.iface t p)
  tb:Lib.TabIs Tryd.prog w "internal/strconv.uint64pow10" .u64 Lib.pow10Tab
theorem cell_ltW {w:World} {g:Nat} {v:Value} (h:w.cell? ⟨g,0,none⟩ = some v):g < w.heap.size:=Lib.lt_of_cell h
theorem gw_pow:Tryd.prog.globalNamed "internal/strconv.uint64pow10" = some 3:=by kernel_rfl
theorem GW.ext {w w':World} (h:GW w) (k:Ext w w'):GW w':=by
  have hc:∀ {g v},w.cell? ⟨g,0,none⟩ = some v→w'.cell? ⟨g,0,none⟩ = some v:=fun {g v} hg=>by
    rw [← hg]; exact Below.cell k (cell_ltW hg)
  obtain ⟨⟨m,h1⟩,⟨t,p,h2⟩,⟨t',p',h3⟩,h4⟩:=h
  exact ⟨⟨m,hc h1⟩,⟨t,p,hc h2⟩,⟨t',p',hc h3⟩,var?_below k gw_pow (cell_ltW (h4.cell gw_pow 0 (by decide))) h4⟩
theorem um79:Tryd.prog.underlying 79 = some (.interface (Tryd.prog.methodsAt 79)):=by kernel_rfl
theorem c_split (w:World) (hG:GW w) (s:ByteArray) (hs:s.size < 4294967281) :
    Calls Tryd.prog 33 #[.string s,.string ⟨#[32]⟩] w fun e w'=>∃ v,e = .returned v∧Ext w w'∧Fr (owL rT 9) w.heap.size w'.heap.size w'.heap v (wds s):=by
  obtain ⟨m,hm⟩:=hG.ml
  refine (Any.strings_Split laySpl (by kernel_rfl) s ⟨#[32]⟩ m w hs hm (by decide)).mono fun e w' ⟨he,hw⟩=>?_
  subst hw
  have hl:(wds s).length = Lib.countB s ⟨#[32]⟩ + 1:=Lib.splitB_all _ (by decide) 0 _ s rfl
  have h:=fr_newT (w:=w) (e:=9) (wds s) (by
    have:=spl_length s.data.toList
    have h2:=(wds_len s).2
    have h3:s.data.toList.length = s.size:=rfl
    unfold maxLen; omega)
  rw [hl] at h
  exact ⟨_,he,ext_alloc _ _,h⟩
theorem els_rT {H:Array Obj}:∀ {us:List Value} {vs:List ByteArray} {F:List Nat},els rT H us vs F→us = vs.map Value.string
  | [],[],_,h=>rfl
  | _ :: _,_ :: _,_,⟨F1,F2,rfl,h1,h2⟩=>by rw [els_rT h2,h1.1]; rfl
  | [],_ :: _,_,h=>h.elim
  | _ :: _,[],_,h=>h.elim
theorem c_join (w:World) (v:Value) (xs:List ByteArray) {B U:Nat} (hv:Fr (owL rT 9) B U w.heap v xs) (hn:xs.length≤100000000) (hl:(jn (xs.map (·.data.toList))).length≤140737488355328) :
    Calls Tryd.prog 44 #[v,.string ⟨#[32]⟩] w fun e w'=>e = .returned (.string (ba (jn (xs.map (·.data.toList)))))∧Ext w w':=by
  obtain ⟨F,hv,_,_⟩:=hv
  rcases hv with ⟨rfl,rfl,_⟩ | ⟨us,b,cap,cur,F',hels,rfl,hg,q1,q2,q3,q4,rfl⟩
  · refine (Any.strings_Join_none layJoin layJX none 0 ⟨#[32]⟩ w).mono fun e w' ⟨he,hw⟩=>⟨he,by subst hw; exact Ext.refl _⟩
  · have hu:=els_rT hels
    have hj:=jn_lib (xs.map (·.data.toList))
    refine (Any.strings_Join layJoin layJX b 0 cap xs ⟨#[32]⟩ w (fun j x hx=>?_) (getElem?_lt hg) (by omega) q1 (by rw [show (⟨#[32]⟩:ByteArray).data.toList = [32] from rfl,hj]; exact hl)).mono fun e w' ⟨he,hw⟩=>⟨?_,hw⟩
    · rw [cell_cellH]
      simp only [cellH,hg,Nat.zero_add]
      have e1:(cur.toList.take xs.length)[j]? = some (.string x):=by rw [q4,hu,List.getElem?_map,hx]; rfl
      have hj:j < xs.length:=(List.getElem?_eq_some_iff.1 hx).1
      rw [List.getElem?_take,if_pos hj] at e1
      simpa using e1
    · rw [he,show (⟨#[32]⟩:ByteArray).data.toList = [32] from rfl,hj]; rfl
theorem c_fmt (w:World) (hG:GW w) (n:Int) (h:-9223372036854775808≤n∧n≤9223372036854775807):Calls Tryd.prog 56 #[.int .i64 n,.int .i64 10] w fun e w'=>e = .returned (.string (ba (Lib.itoa n)))∧Ext w w' :=
  (Any.strconv_FormatInt_10 layFmtM n h.1 h.2 w hG.tb).mono fun e w' ⟨he,k,os,hw⟩=>⟨he,by
    subst hw
    exact ⟨rfl,rfl,rfl,by show w.heap.size≤(w.heap++os).size; rw [Array.size_append]; omega,fun b hb=>by
      show (w.heap++os)[b]? = w.heap[b]?
      exact Array.getElem?_append_left hb⟩⟩
theorem c_parse (w:World) (hG:GW w) (s:ByteArray) (hs:s.size≤281474976710656):Calls Tryd.prog 51 #[.string s,.int .i64 10,.int .i64 64] w fun e w' =>
    ∃ r,e = .returned (.tuple #[.int .i64 (rdN s.data.toList),r])∧Ext w w'∧((pOk s.data.toList = true∧r = .nilIface)∨(pOk s.data.toList = false∧∃ t p,r = .iface t p)):=by
  obtain ⟨t,p,he⟩:=hG.es
  obtain ⟨t',p',hr⟩:=hG.er
  cases h:Lib.parseIntB 64 s.data.toList with
  | ok v =>
    refine (Any.strconv_ParseInt_10_at64_ok layPar s (by omega) v h w).mono fun e w' ⟨h1,h2⟩=>⟨.nilIface,?_,?_,.inl ⟨?_,rfl⟩⟩
    · rw [h1]; unfold rdN; rw [h]
    · rcases h2 with rfl | ⟨x,rfl⟩
      · exact Ext.refl _
      · exact Lib.bytesWorld_below _ _ _
    · unfold pOk; rw [h]
  | «syntax» =>
    have e0:rdN s.data.toList = 0:=by unfold rdN; rw [h]
    refine (Any.strconv_ParseInt_10_at64_syntax layPar s hs h _ w he (.inr ⟨_,_,rfl⟩)).mono fun e w' ⟨M,h1,_,_,h2⟩=>?_
    rw [e0]
    exact ⟨_,h1,h2,.inr ⟨by unfold pOk; rw [h],_,_,rfl⟩⟩
  | range =>
    have e0:rdN s.data.toList = Lib.intSat 64 s.data.toList:=by unfold rdN; rw [h]
    refine (Any.strconv_ParseInt_10_at64_range layPar s hs h _ w hr (.inr ⟨_,_,rfl⟩)).mono fun e w' ⟨M,h1,_,_,h2⟩=>?_
    rw [e0]
    exact ⟨_,h1,h2,.inr ⟨by unfold pOk; rw [h],_,_,rfl⟩⟩
end Go.Proofs.YtlbefjfhfodnlaaDoor
namespace Go.Proofs.YtlbefjfhfodnlaaDoor
open Go Go.RowKit
set_option linter.unusedVariables false
set_option linter.unusedSimpArgs false
set_option maxHeartbeats 4000000
set_option maxRecDepth 100000
attribute [local irreducible] LW
theorem c_impl_decimal (w:World) (n:Int) (_hn:-9223372036854775808≤n∧n≤9223372036854775807) (hG:GW w) :
  Calls Tryd.prog 43 #[.int .i64 n] w (fun e w'=>e = .returned (.string (ba (Lib.itoa n)))∧Ext w w'):=by
 refine calls_mk [.int .i64 n] 5 Tryd.func43 rfl rfl sM ?_
 have hE0:Ext w w:=Ext.refl w
 refine wp_seq (wp_plain _ [0] rfl (lw_tvn 1 rfl (wp_seq (wp_plain _ [0,3,0] rfl (lw_tv 1 rfl (lw_call 56 [] [] [(.int .i64 n),(.int .i64 ((10 :Nat):Int))] rfl rfl cf56 zN (c_fmt _ (hG.ext hE0) (n) _hn) ?_))))))
 rintro e1 w1 ⟨rfl,hX1⟩
 refine ⟨_,rfl,hX1,?_⟩
 have hzs1:w.heap.size≤w1.heap.size:=hX1.size
 have hE1:Ext w w1:=hE0.trans hX1
 exact lw_tvn 1 rfl (wp_ret (post_ret [2] rfl (.string (ba (Lib.itoa (n)))) rfl (by exact ⟨rfl,hE1⟩)))
theorem z35_0 {p:Prop} (h:p:=by refine ⟨?_,hE3⟩; first | exact ret_pair (rdO_1 (by assumption)) | exact ret_pair (rdO_2 (by assumption)) | exact ret_pair (rdO_3 (by assumption) (by assumption))):p:=h
theorem c_impl_readDecimal (w:World) (s:ByteArray) (low:Int) (high:Int) (_hlow:-9223372036854775808≤low∧low≤9223372036854775807) (_hhigh:-9223372036854775808≤high∧high≤9223372036854775807) (hs:s.size≤281474976710656) (hG:GW w) :
  Calls Tryd.prog 35 #[.string s,.int .i64 low,.int .i64 high] w (fun e w'=>e = .returned (.tuple #[.int .i64 (rdN s.data.toList),.bool (rdO s low high)])∧Ext w w'):=by
 refine calls_mk [.string s,.int .i64 low,.int .i64 high] 30 Tryd.func35 rfl rfl sM ?_
 have hE0:Ext w w:=Ext.refl w
 refine wp_seq (wp_plain _ [0,0] rfl (lw_tvn 2 rfl (wp_seq (wp_plain _ [0,3,0,0,0,0,0] rfl (lw_tv 1 rfl (lw_call 51 [] [] [(.string s),(.int .i64 ((10 :Nat):Int)),(.int .i64 ((64 :Nat):Int))] rfl rfl cf51 zN (c_parse _ (hG.ext hE0) (s) oM) ?_))))))
 rintro e1 w1 ⟨r1,rfl,hX1,hp1⟩
 refine ⟨_,rfl,hX1,?_⟩
 have hzs1:w.heap.size≤w1.heap.size:=hX1.size
 have hE1:Ext w w1:=hE0.trans hX1
 refine lw_tv 1 rfl (q_extract (vs:=[(.int .i64 (rdN (s).data.toList)),r1]) (.int .i64 (rdN (s).data.toList)) rfl rfl zN (q_extract (vs:=[(.int .i64 (rdN (s).data.toList)),r1]) r1 rfl rfl zN (lw_tvn 2 rfl (wp_seq (wp_plain _ [0,0,0,0,0,3,0,0,0,0,0,0,0,0,0,0,0] rfl (lw_tv 2 rfl (q_eqI um79 hp1 rfl zN (lw_tv 1 rfl ?_))))))))
 cases hb2:(pOk (s).data.toList)
 ·
  exact lw_tvn 13 rfl (wp_ret (post_ret [6,7] rfl (.tuple #[(.int .i64 (rdN (s).data.toList)),(.bool false)]) rfl (by refine ⟨?_,hE1⟩; first | exact ret_pair (rdO_1 (by assumption)) | exact ret_pair (rdO_2 (by assumption)) | exact ret_pair (rdO_3 (by assumption) (by assumption)))))
 ·
  refine lw_tv 1 rfl (lw_call 43 [] [] [(.int .i64 (rdN (s).data.toList))] rfl rfl cf43 (zS (e:=18) rfl rfl rfl) (c_impl_decimal _ (rdN (s).data.toList) (rdN_rng _) (hG.ext hE1)) ?_)
  rintro e3 w3 ⟨rfl,hX3⟩
  refine ⟨_,rfl,hX3,?_⟩
  have hzs3:w1.heap.size≤w3.heap.size:=hX3.size
  have hE3:Ext w w3:=hE1.trans hX3
  refine lw_tv 1 rfl ?_
  cases hc4:strE (ba (Lib.itoa (rdN (s).data.toList))) s
  ·
   exact q_eqls false u9 rfl rfl hc4 (zS (e:=18) rfl rfl rfl) (lw_tvn 9 rfl (wp_ret (post_ret [6,7] rfl (.tuple #[(.int .i64 (rdN (s).data.toList)),(.bool false)]) rfl z35_0)))
  ·
   exact q_eqls true u9 rfl rfl hc4 (zS (e:=18) rfl rfl rfl) (lw_tv 5 rfl (lw_callq 40 [] [] [(.int .i64 (rdN (s).data.toList)),(.int .i64 low),(.int .i64 high)] rfl rfl cf40 (zS (e:=24) rfl rfl rfl) (.bool (decide (low≤(rdN (s).data.toList)) && decide ((rdN (s).data.toList)≤high))) (fun wq=>c_impl_within wq _ _ _ (rdN_rng _) _hlow _hhigh) (lw_tvn 3 rfl (wp_ret (post_ret [6,7] rfl (.tuple #[(.int .i64 (rdN (s).data.toList)),(.bool (decide (low≤(rdN (s).data.toList)) && decide ((rdN (s).data.toList)≤high)))]) rfl z35_0)))))
end Go.Proofs.YtlbefjfhfodnlaaDoor
namespace Go.Proofs.YtlbefjfhfodnlaaDoor
open Go Go.RowKit
set_option linter.unusedVariables false
set_option linter.unusedSimpArgs false
set_option maxHeartbeats 4000000
set_option maxRecDepth 100000
attribute [local irreducible] LW
theorem z6_0 {p:Prop} (h:p:=by simpa using hb):p:=h
theorem c_spec_A2Series (w:World) (vc:Value) (cs:List UInt8) (hcs:Rd (rdL rU) w.heap vc cs)  :
  Calls Tryd.prog 6 #[vc] w (fun e w'=>∃ v0 v1 v2:Value,∃ (x0:List Int) (x1:List Int) (x2:List Int),e = .returned (.tuple #[v0,v1,v2])∧Ext w w'∧Fr (owL rI 2) w.heap.size w'.heap.size w'.heap v0 x0∧Fr (owL rI 2) w.heap.size w'.heap.size w'.heap v1 x1∧Fr (owL rI 2) w.heap.size w'.heap.size w'.heap v2 x2∧((1≤x0.length∧x0.length≤13)∧allN x0 = true)∧(x1.length = x0.length∧allN x1 = true)∧(x2.length = x0.length∧allN x2 = true)):=by
 refine calls_mk [vc] 27 Tryd.func6 rfl rfl sM ?_
 have hE0:Ext w w:=Ext.refl w
 have hl_vc:=hcs.lenle
 refine wp_seq (wp_plain _ [0,0,0] rfl (lw_tvn 3 rfl (wp_seq (wp_plain _ [0,3,0] rfl (lw_tv 1 rfl (lw_call 17 [] [] [vc] rfl rfl cf17 zN (c_spec_l00From _ _ _ (hcs.ext good_u hE0)) ?_))))))
 rintro e1 w1 ⟨gB1,rfl,hX1,hs1,hg1⟩
 refine ⟨_,rfl,hX1,?_⟩
 have hzs1:w.heap.size≤w1.heap.size:=hX1.size
 have hE1:Ext w w1:=hE0.trans hX1
 refine lw_tvn 1 rfl (wp_seq (wp_plain _ [0,4,0,0] rfl (lw_tv 1 rfl (lw_callE 18 [] [] [(.pointer (some ⟨gB1,0,none⟩)),(.int .i64 ((13 :Nat):Int))] rfl rfl cf18 zN (c_spec_l00Src_pick _ gB1 _ _ _ _ hs1 oM oM oM) ?_))))
 rintro e2 w2 ⟨x2_0,n2,rfl,hC2,hs2,hb2,hp2_0⟩
 refine ⟨_,rfl,?_⟩
 have hzs2:w1.heap.size≤w2.heap.size:=hC2.size
 have hE2:Ext w w2:=hC2.below hE1 (fun b hb=>by have:b = gB1:=z6_0; omega) hE1.size
 refine q_add (((1 :Nat):Int) + x2_0) rfl rfl (w64 sD sD) zN (lw_tvn 1 rfl (wp_seq (wp_plain _ [0,0,4,0] rfl ?_)))
 have hgl:=hs2.lt
 refine lw_tv 2 rfl (lw_callE 19 [] [] [(.pointer (some ⟨gB1,0,none⟩)),(.int .i64 (((1 :Nat):Int) + x2_0))] rfl rfl cf19 zN (c_spec_l01Draw _ gB1 _ _ _ _ hs2 oM oM oM) ?_)
 rintro e3 w3 ⟨v3_0,x3_0,n3,rfl,hC3,hs3,hb3,hO3_0,hp3_0⟩
 refine ⟨_,rfl,?_⟩
 have hzs3:w2.heap.size≤w3.heap.size:=hC3.size
 have hE3:Ext w w3:=hC3.below hE2 (fun b hb=>by have:b = gB1:=z6_0; omega) hE2.size
 refine lw_tvn 1 rfl (wp_seq (wp_plain _ [0,0,4,0] rfl (lw_tv 2 rfl (lw_callE 19 [] [] [(.pointer (some ⟨gB1,0,none⟩)),(.int .i64 (((1 :Nat):Int) + x2_0))] rfl rfl cf19 zN (c_spec_l01Draw _ gB1 _ _ _ _ hs3 oM oM oM) ?_))))
 rintro e4 w4 ⟨v4_0,x4_0,n4,rfl,hC4,hs4,hb4,hO4_0,hp4_0⟩
 refine ⟨_,rfl,?_⟩
 have hzs4:w3.heap.size≤w4.heap.size:=hC4.size
 have hE4:Ext w w4:=hC4.below hE3 (fun b hb=>by have:b = gB1:=z6_0; omega) hE3.size
 have hF5:=hO3_0.chg (o1) hC4 (fun b hb=>by have:b = gB1:=z6_0; omega)
 refine lw_tvn 1 rfl (wp_seq (wp_plain _ [0,0,4,0] rfl (lw_tv 2 rfl (lw_callE 19 [] [] [(.pointer (some ⟨gB1,0,none⟩)),(.int .i64 (((1 :Nat):Int) + x2_0))] rfl rfl cf19 zN (c_spec_l01Draw _ gB1 _ _ _ _ hs4 oM oM oM) ?_))))
 rintro e6 w6 ⟨v6_0,x6_0,n6,rfl,hC6,hs6,hb6,hO6_0,hp6_0⟩
 refine ⟨_,rfl,?_⟩
 have hzs6:w4.heap.size≤w6.heap.size:=hC6.size
 have hE6:Ext w w6:=hC6.below hE4 (fun b hb=>by have:b = gB1:=z6_0; omega) hE4.size
 have hF7:=hF5.chg (o1) hC6 (fun b hb=>by have:b = gB1:=z6_0; omega)
 have hF8:=hO4_0.chg (o1) hC6 (fun b hb=>by have:b = gB1:=z6_0; omega)
 exact lw_tvn 1 rfl (wp_seq (wp_plain _ [0,0,0,0,0,0] rfl (lw_tvn 6 rfl (wp_ret (post_ret [2,3,4] rfl (.tuple #[v3_0,v4_0,v6_0]) rfl ⟨v3_0,v4_0,v6_0,x3_0,x4_0,x6_0,rfl,hE6,(hF7.up o1).low hE2.size,(hF8.up o1).low hE3.size,(hO6_0.up o1).low hE4.size,(by refine ⟨?_,by simp_all⟩; omega),(by refine ⟨by omega,by simp_all⟩),(by refine ⟨by omega,by simp_all⟩)⟩)))))
theorem z8_0 {p:Prop} (h:p:=by first | (exfalso; simp_all; done) | (rw [hq,show k = 0 from by omega,List.drop_zero]; rfl)):p:=h
theorem c_impl_ValueAt (w:World) (va:Value) (a:List Int) (t:Int) (ha:Rd (rdL rI) w.heap va a) (_ht:-9223372036854775808≤t∧t≤9223372036854775807) (ha5:okS a = true) :
  Calls Tryd.prog 8 #[va,.int .i64 t] w (fun e w'=>e = .returned (.tuple #[.int .i64 (valA a t),.int .i64 0])∧Ext w w'):=by
 refine calls_mk [va,.int .i64 t] 28 Tryd.func8 rfl rfl sM ?_
 have hE0:Ext w w:=Ext.refl w
 have hl_va:=ha.lenle
 have hok:=okS_iff.1 ha5
 refine wp_seq (wp_plain _ [0,0] rfl (lw_tvn 2 rfl (wp_seq (wp_seq (wp_plain _ [0,3,0] rfl (lw_tv 1 rfl (lw_call 20 [] [] [va] rfl rfl cf20 zN (c_impl_ValidSeries _ _ _ (ha.ext g1 hE0)) ?_)))))))
 rintro e1 w1 ⟨rfl,hX1⟩
 refine ⟨_,rfl,hX1,?_⟩
 have hzs1:w.heap.size≤w1.heap.size:=hX1.size
 have hE1:Ext w w1:=hE0.trans hX1
 refine q_not (!(okS a)) rfl rfl zN (lw_nil ?_)
 cases hb2:(!(okS a))
 ·
  refine c_cond_f (by first | rfl | (show Value.bool _ = _; rw [hb2])) (wp_skip (wp_seq (wp_plain _ [0] rfl (lw_tvn 1 rfl (wp_seq (wp_seq (wp_plain _ [0,0,0,0] rfl (lw_tv 1 rfl (q_len (v:=va) u24 rfl ha.isSl zN ?_)))))))))
  refine q_sub (((a.length :Nat):Int) - ((1 :Nat):Int)) rfl rfl (w64 sD sD) zN (lw_tvn 1 rfl (wp_block ?_))
  refine c_loop (S:=Nat × Int × Int) (fun (⟨k,z,o⟩:Nat × Int × Int)=>([(6,(.int .i64 o)),(7,(.int .i64 z)),(0,va),(1,(.int .i64 t))]:List (Nat × Value))) (fun (⟨k,z,o⟩:Nat × Int × Int) (W:World)=>Ext w W∧k≤a.length∧z = ((k :Nat):Int) - 1∧o = valA (a.drop k) t) (fun (⟨k,z,o⟩:Nat × Int × Int)=>k) (a.length,((a.length :Nat):Int) - ((1 :Nat):Int),0) ⟨rfl,rfl,rfl,rfl,trivial⟩ ⟨hE1,oM,oM,(by rw [List.drop_eq_nil_of_le oM]; rfl)⟩ ?_
  clear hE0 hX1 hzs1 hE1
  rintro ⟨k,z,o⟩ ρ3 w3 ⟨hE3,hp3_0,hp3_1,hq⟩
  have hzs3:w.heap.size≤w3.heap.size:=hE3.size
  refine wp_seq (wp_seq (wp_plain _ [0,0] rfl (lw_tv 1 rfl ?_)))
  by_cases hc4:((0 :Nat):Int)≤z
  ·
   refine q_geq true rfl rfl (decide_eq_true hc4) zN (lw_nil (c_cond_t rfl (wp_skip (wp_seq (wp_block (wp_draw _ [0,0,0,0,0,0,0,1,0,0] mixed (by kernel_rfl) ?_))))))
   have hga:=allN_get hok.2 (k - 1)
   have hmt:=md_num t
   have hvn:=valA_num (a.drop k) t
   rw [← hq] at hvn
   have hmm:=mulB hvn hmt
   refine lw_tv 2 rfl (lw_callq 27 [] [] [(.int .i64 t)] rfl rfl cf27 zN (.int .i64 (md t)) (fun wq=>c_impl_Residue wq _ _ht) ?_)
   refine q_mul (o * (md t)) rfl rfl (w64 sD sD) zN (lw_tv 2 rfl ?_)
   refine q_idx (v:=va) (k - 1) u24 ti2 rfl rfl ha.isSl oM oM zN (q_load (p:=eptr va (k - 1) 1) (.inl rfl) (.int .i64 (a.getD (k - 1) 0)) one2 rfl (ldH_ext hE3.drew (ha.getI oM).1) zN (lw_callq 26 [] [] [(.int .i64 (o * (md t))),(.int .i64 (a.getD (k - 1) 0))] rfl rfl cf26 zN (.int .i64 (md ((o * (md t)) + (a.getD (k - 1) 0)))) (fun wq=>c_impl_Plus wq _ _ oM (ha.getI oM).2) (lw_tvn 1 rfl (wp_plain _ [0,0,0] rfl (lw_tv 1 rfl ?_)))))
   refine q_sub (z - ((1 :Nat):Int)) rfl rfl (w64 sD sD) zN (lw_tvn 1 rfl ?_)
   exact ⟨((k - 1),(z - ((1 :Nat):Int)),(md ((o * (md t)) + (a.getD (k - 1) 0)))),_,rfl,⟨rfl,rfl,rfl,rfl,trivial⟩,⟨hE3.drew,oM,oM,(by have h9:=valA_drop (s:=a) (t:=t) (k:=k - 1) oM; rw [show k - 1 + 1 = k from by omega,← hq] at h9; exact h9.symm)⟩,by first | omega | (dsimp only; omega)⟩
  ·
   exact q_geq false rfl rfl (decide_eq_false hc4) zN (lw_nil (c_cond_f rfl (wp_exit (t_exit (t_exit (c_exit_here (wp_seq (wp_plain _ [0,0,0] rfl (lw_tvn 3 rfl (wp_ret (post_ret [4,5] rfl (.tuple #[(.int .i64 o),(.int .i64 ((0 :Nat):Int))]) rfl ⟨z8_0,hE3⟩)))))))))))
 ·
  exact c_cond_t (by first | rfl | (show Value.bool _ = _; rw [hb2])) (wp_seq (wp_plain _ [0,0] rfl (lw_tvn 2 rfl (wp_ret (t_ret (post_ret [4,5] rfl (.tuple #[(.int .i64 ((0 :Nat):Int)),(.int .i64 ((1 :Nat):Int))]) rfl ⟨z8_0,hE1⟩))))))
theorem c_impl_joined (w:World) (va:Value) (a:List Int) (ha:Rd (rdL rI) w.heap va a) (hal:a.length≤13) (haN:allN a = true) (hG:GW w) :
  Calls Tryd.prog 29 #[va,.string ⟨#[32]⟩] w (fun e w'=>e = .returned (.string (ba (sjT a)))∧Ext w w'):=by
 refine calls_mk [va,.string ⟨#[32]⟩] 24 Tryd.func29 rfl rfl sM ?_
 have hE0:Ext w w:=Ext.refl w
 have hl_va:=ha.lenle
 refine wp_seq (wp_plain _ [0] rfl (lw_tvn 1 rfl (wp_seq (wp_plain _ [3,0] rfl (r_nil rT good_rT u52 ti9 zN fun v1 w1 hX1 hz1 hO1=>?_)))))
 have hzs1:w.heap.size≤w1.heap.size:=hX1.size
 have hE1:Ext w w1:=hE0.trans hX1
 refine lw_tvn 1 rfl (wp_seq (wp_seq (wp_plain _ [0,0,0] rfl (lw_tv 1 rfl (q_len (v:=va) u24 rfl ha.isSl zN (lw_tvn 1 rfl (wp_block ?_)))))))
 refine c_loop (S:=Nat × Value) (fun (⟨k,vo⟩:Nat × Value)=>([(5,vo),(11,(.int .i64 ((k :Nat):Int))),(1,(.string (⟨#[32]⟩:ByteArray))),(9,va),(10,(.int .i64 ((a.length :Nat):Int)))]:List (Nat × Value))) (fun (⟨k,vo⟩:Nat × Value) (W:World)=>Ext w W∧Fr (owL rT 9) w.heap.size W.heap.size W.heap vo ((a.take k).map dcB)∧k≤a.length) (fun (⟨k,vo⟩:Nat × Value)=>a.length - k) (0,v1) ⟨rfl,rfl,rfl,rfl,rfl,trivial⟩ ⟨hE1,hO1.up oT,sD⟩ ?_
 clear hE0 hO1 hz1 hX1 hzs1 hE1
 rintro ⟨k,vo⟩ ρ2 w2 ⟨hE2,hL2_0,hp2_0⟩
 have hzs2:w.heap.size≤w2.heap.size:=hE2.size
 refine wp_seq (wp_plain _ [0] rfl ?_)
 by_cases hc3:((k :Nat):Int) < ((a.length :Nat):Int)
 ·
  refine q_lss true rfl rfl (decide_eq_true hc3) zN (lw_nil (wp_seq (c_cond_t rfl (wp_skip (wp_seq (wp_block (wp_seq (wp_plain _ [0,2,0] rfl (q_idx (v:=va) k u24 ti2 rfl rfl ha.isSl rfl sD zN ?_)))))))))
  refine q_load (p:=eptr va k 1) (.inr rfl) (.int .i64 (a.getD k 0)) one2 rfl (ldH_ext hE2 (ha.getI sD).1) zN (lw_tvn 1 rfl (wp_plain _ [0,0,3,3,4,0] rfl ?_))
  have hga:=allN_get haN k
  refine lw_tv 2 rfl (lw_call 43 [] [] [(.int .i64 (a.getD k 0))] rfl rfl cf43 zN (c_impl_decimal _ (a.getD k 0) (ha.getI sD).2 (hG.ext hE2)) ?_)
  rintro e4 w4 ⟨rfl,hX4⟩
  refine ⟨_,rfl,hX4,?_⟩
  have hzs4:w2.heap.size≤w4.heap.size:=hX4.size
  have hE4:Ext w w4:=hE2.trans hX4
  have hL2_0x4:=hL2_0.ext (oT) hX4
  refine r_one (u:=.string (ba (Lib.itoa (a.getD k 0)))) (B:=w4.heap.size) (U:=w4.heap.size) good_rT u52 ti9 rfl rfl (frT (ba (Lib.itoa (a.getD k 0)))) (Nat.le_refl _) zN fun v5 w5 hX5 hz5 hO5=>?_
  have hzs5:w4.heap.size≤w5.heap.size:=hX5.size
  have hE5:Ext w w5:=hE4.trans hX5
  have hL2_0x5:=hL2_0x4.ext (oT) hX5
  refine e_appF good_rT (v:=vo) (a:=v5) u52 ti9 rfl rfl rfl hL2_0x5 oM hO5 oM oM (by simp; omega) (by simp; unfold maxLen; omega) zN fun v6 w6 F6 hC6 hF6 hO6=>?_
  have hzs6:w5.heap.size≤w6.heap.size:=hC6.size
  have hE6:Ext w w6:=hC6.below hE5 (fun c hc=>by have:=hF6 _ hc; omega) hE5.size
  refine lw_tvn 1 rfl (wp_plain _ [0,0] rfl (q_add ((k + 1 :Nat):Int) rfl rfl (w64n oM sD) zN (lw_tvn 1 rfl ?_)))
  exact ⟨((k + 1),v6),_,rfl,⟨rfl,rfl,rfl,rfl,rfl,trivial⟩,⟨hE6,(by rw [tk_map (d:=0) oM]; exact hO6.up oT),sD⟩,by first | omega | (dsimp only; omega)⟩
 ·
  refine q_lss false rfl rfl (decide_eq_false hc3) zN (lw_nil (wp_seq (c_cond_f rfl (wp_exit (t_exit (t_exit (c_exit_here (wp_seq (wp_plain _ [0,0,3,0] rfl (lw_tv 2 rfl (lw_call 44 [] [] [vo,(.string (⟨#[32]⟩:ByteArray))] rfl rfl cf44 zN (c_join _ vo ((a.take k).map dcB) hL2_0 (by simp; omega) (by exact Nat.le_trans (sj_len haN hal oM) oM)) ?_)))))))))))
  rintro e7 w7 ⟨rfl,hX7⟩
  refine ⟨_,rfl,hX7,?_⟩
  have hzs7:w2.heap.size≤w7.heap.size:=hX7.size
  have hE7:Ext w w7:=hE2.trans hX7
  exact lw_tvn 1 rfl (wp_ret (post_ret [4] rfl (.string (ba (jn (((a.take k).map dcB).map (·.data.toList))))) rfl (by exact ⟨ret_str (sj_end oM),hE7⟩)))
theorem c_impl_SeriesText (w:World) (va:Value) (a:List Int) (ha:Rd (rdL rI) w.heap va a) (ha5:okS a = true) (hG:GW w) :
  Calls Tryd.prog 10 #[va] w (fun e w'=>e = .returned (.string (ba (sjT a)))∧Ext w w'):=by
 refine calls_mk [va] 8 Tryd.func10 rfl rfl sM ?_
 have hE0:Ext w w:=Ext.refl w
 have hl_va:=ha.lenle
 have hok:=okS_iff.1 ha5
 refine wp_seq (wp_plain _ [0] rfl (lw_tvn 1 rfl (wp_seq (wp_seq (wp_plain _ [0,3,0] rfl (lw_tv 1 rfl (lw_call 20 [] [] [va] rfl rfl cf20 zN (c_impl_ValidSeries _ _ _ (ha.ext g1 hE0)) ?_)))))))
 rintro e1 w1 ⟨rfl,hX1⟩
 refine ⟨_,rfl,hX1,?_⟩
 have hzs1:w.heap.size≤w1.heap.size:=hX1.size
 have hE1:Ext w w1:=hE0.trans hX1
 refine q_not (!(okS a)) rfl rfl zN (lw_nil ?_)
 cases hb2:(!(okS a))
 ·
  refine c_cond_f (by first | rfl | (show Value.bool _ = _; rw [hb2])) (wp_skip (wp_seq (wp_plain _ [0,3,0] rfl (lw_tv 1 rfl (lw_call 29 [] [] [va,(.string (⟨#[32]⟩))] rfl rfl cf29 zN (c_impl_joined _ va a (ha.ext g1 hE1) oM (by exact hok.2) (hG.ext hE1)) ?_)))))
  rintro e3 w3 ⟨rfl,hX3⟩
  refine ⟨_,rfl,hX3,?_⟩
  have hzs3:w1.heap.size≤w3.heap.size:=hX3.size
  have hE3:Ext w w3:=hE1.trans hX3
  exact lw_tvn 1 rfl (wp_ret (post_ret [2] rfl (.string (ba (sjT a))) rfl (by first | (exfalso; simp_all; done) | exact ⟨rfl,hE3⟩)))
 ·
  exact c_cond_t (by first | rfl | (show Value.bool _ = _; rw [hb2])) (wp_seq (wp_plain _ [0] rfl (lw_tvn 1 rfl (wp_ret (t_ret (post_ret [2] rfl (.string (⟨#[]⟩)) rfl (by first | (exfalso; simp_all; done) | exact ⟨rfl,hE1⟩)))))))
theorem c_impl_readList (w:World) (s:ByteArray) (b:List Int)  (hsz:s.data.toList = sjT b) (hb5:okS b = true) (hG:GW w) :
  Calls Tryd.prog 28 #[.string s,.string ⟨#[32]⟩,.int .i64 ((13 :Nat):Int),.int .i64 ((0 :Nat):Int),.int .i64 ((1000002 :Nat):Int)] w (fun e w'=>∃ v,e = .returned (.tuple #[v,.bool true])∧Ext w w'∧Fr (owL rI 2) w.heap.size w'.heap.size w'.heap v b):=by
 refine calls_mk [.string s,.string ⟨#[32]⟩,.int .i64 ((13 :Nat):Int),.int .i64 ((0 :Nat):Int),.int .i64 ((1000002 :Nat):Int)] 50 Tryd.func28 rfl rfl sM ?_
 have hE0:Ext w w:=Ext.refl w
 have hok:=okS_iff.1 hb5
 have hwl:=sj_wds hsz hok.2 oM
 refine wp_seq (wp_plain _ [0,0] rfl (lw_tvn 2 rfl (wp_seq (wp_plain _ [3,0] rfl (r_nil (rI) good_rI u24 ti2 zN fun v1 w1 hX1 hz1 hO1=>?_)))))
 have hzs1:w.heap.size≤w1.heap.size:=hX1.size
 have hE1:Ext w w1:=hE0.trans hX1
 refine lw_tvn 1 rfl (wp_seq (wp_seq (wp_plain _ [0,0] rfl (lw_tv 1 rfl ?_))))
 cases hc2:strE s (⟨#[]⟩)
 ·
  refine q_eqls false u9 rfl rfl hc2 zN (lw_nil (c_cond_f rfl (wp_skip (wp_seq (wp_seq (wp_plain _ [0,0,3,0,0] rfl (lw_tv 2 rfl (lw_call 33 [] [] [(.string s),(.string (⟨#[32]⟩:ByteArray))] rfl rfl cf33 zN (c_split _ (hG.ext hE1) (s) (by have:=sj_size hsz hok.2 hok.1.2; omega)) ?_))))))))
  rintro e3 w3 ⟨v3,rfl,hX3,hO3⟩
  refine ⟨_,rfl,hX3,?_⟩
  have hzs3:w1.heap.size≤w3.heap.size:=hX3.size
  have hE3:Ext w w3:=hE1.trans hX3
  have hO1x3:=hO1.ext (o1) hX3
  refine q_len (v:=v3) u52 rfl hO3.isSl zN (lw_tvn 1 rfl (wp_block ?_))
  have hP0:=FrP.ofF hO1x3
  refine c_loop (S:=Nat × Value) (fun (⟨k,vo⟩:Nat × Value)=>([(12,vo),(25,(.int .i64 ((k :Nat):Int))),(2,(.int .i64 ((13 :Nat):Int))),(3,(.int .i64 ((0 :Nat):Int))),(4,(.int .i64 ((1000002 :Nat):Int))),(23,v3),(24,(.int .i64 (((wds s).length :Nat):Int)))]:List (Nat × Value))) (fun (⟨k,vo⟩:Nat × Value) (W:World)=>Ext w W∧Fr (owL rT 9) w1.heap.size w3.heap.size W.heap v3 (wds s)∧(FrP (owL rI 2) (fun b=>w.heap.size≤b∧b < w1.heap.size∨w3.heap.size≤b∧b < W.heap.size) W.heap vo (b.take k))∧k≤b.length∧w3.heap.size≤W.heap.size) (fun (⟨k,vo⟩:Nat × Value)=>(wds s).length - k) (0,v1) ⟨rfl,rfl,rfl,rfl,rfl,rfl,rfl,trivial⟩ ⟨hE3,hO3,(by exact hP0.sub (fun b hb=>by (try dsimp only at hb); omega)),oM,oM⟩ ?_
  clear hE0 hO1 hz1 hX1 hO3 hX3 hO1x3
  rintro ⟨k,vo⟩ ρ4 w4 ⟨hE4,hL4_0,hPl,hp4_1,hkB5⟩
  have hzs4:w.heap.size≤w4.heap.size:=hE4.size
  refine wp_seq (wp_plain _ [0] rfl ?_)
  by_cases hc6:((k :Nat):Int) < (((wds s).length :Nat):Int)
  ·
   refine q_lss true rfl rfl (decide_eq_true hc6) zN (lw_nil (wp_seq (c_cond_t rfl (wp_skip (wp_seq (wp_block (wp_seq (wp_plain _ [0,2,0] rfl (q_idx (v:=v3) k u52 ti9 rfl rfl hL4_0.isSl rfl sD zN ?_)))))))))
   refine q_load (p:=eptr v3 k 1) (.inr rfl) (.string ((wds s).getD k ByteArray.empty)) one9 rfl (hL4_0.getT sD) zN (lw_tvn 1 rfl (wp_seq (wp_plain _ [0,0,0,3,0,0,0,0,0] rfl ?_)))
   have hwk:=sj_word hsz hok.2 oM (k:=k) oM
   have hwz:=wd_size (s:=s) (i:=k) oM
   refine lw_tv 3 rfl (lw_call 35 [] [] [(.string ((wds s).getD k ByteArray.empty)),(.int .i64 ((0 :Nat):Int)),(.int .i64 ((1000002 :Nat):Int))] rfl rfl cf35 zN (c_impl_readDecimal _ (((wds s).getD k ByteArray.empty)) (((0 :Nat):Int)) (((1000002 :Nat):Int)) oM oM (by have:=sj_size hsz hok.2 hok.1.2; omega) (hG.ext hE4)) ?_)
   rintro e7 w7 ⟨rfl,hX7⟩
   refine ⟨_,rfl,hX7,?_⟩
   have hzs7:w4.heap.size≤w7.heap.size:=hX7.size
   have hE7:Ext w w7:=hE4.trans hX7
   have hL4_0x7:=hL4_0.ext (oT) hX7
   have hP8:=hPl.ext o1 hX7
   refine lw_tv 1 rfl (q_extract (vs:=[(.int .i64 (rdN (((wds s).getD k ByteArray.empty)).data.toList)),(.bool (rdO ((wds s).getD k ByteArray.empty) ((0 :Nat):Int) ((1000002 :Nat):Int)))]) (.int .i64 (rdN (((wds s).getD k ByteArray.empty)).data.toList)) rfl rfl zN (q_extract (vs:=[(.int .i64 (rdN (((wds s).getD k ByteArray.empty)).data.toList)),(.bool (rdO ((wds s).getD k ByteArray.empty) ((0 :Nat):Int) ((1000002 :Nat):Int)))]) (.bool (rdO ((wds s).getD k ByteArray.empty) ((0 :Nat):Int) ((1000002 :Nat):Int))) rfl rfl zN (lw_tvn 2 rfl (wp_seq (wp_seq (wp_plain _ [0,0,0,0,0,0,0,0] rfl ?_))))))
   have hml:(b.take k).length = k:=by rw [List.length_take]; omega
   refine lw_tv 1 rfl (q_not (!(rdO ((wds s).getD k ByteArray.empty) ((0 :Nat):Int) ((1000002 :Nat):Int))) rfl rfl zN (lw_tv 1 rfl ?_))
   cases hb9:(!(rdO ((wds s).getD k ByteArray.empty) ((0 :Nat):Int) ((1000002 :Nat):Int)))
   ·
    refine lw_tv 1 rfl (q_len (v:=vo) u24 rfl (FrP.isSlI hP8) (zS (e:=38) rfl rfl rfl) (lw_tv 1 rfl ?_))
    have hc10:¬ ((((b.take k).length :Nat):Int) = ((13 :Nat):Int)):=oM
    refine q_eql false rfl rfl (decide_eq_false hc10) (zS (e:=38) rfl rfl rfl) (lw_tvn 1 rfl (c_cond_f rfl (wp_skip (wp_plain _ [0,0,3,4,0] rfl (lw_tv 2 rfl (r_one (u:=(.int .i64 (rdN (((wds s).getD k ByteArray.empty)).data.toList))) (B:=w7.heap.size) good_rI u24 ti2 rfl rfl (frI w7.heap.size w7.heap.size _ _ (rdN_rng _)) (Nat.le_refl _) zN fun v11 w11 hX11 hz11 hO11=>?_))))))
    have hzs11:w7.heap.size≤w11.heap.size:=hX11.size
    have hE11:Ext w w11:=hE7.trans hX11
    have hL4_0x11:=hL4_0x7.ext (oT) hX11
    have hP12:=hP8.ext o1 hX11
    refine e_appIP (v:=vo) (a:=v11) u24 ti2 rfl rfl rfl hP12 hO11.rd1 (by simp only [List.length_cons,List.length_nil]; omega) (by simp only [List.length_cons,List.length_nil]; unfold maxLen; omega) zN fun v13 w13 F13 hC13 hF13 hO13=>?_
    have hN13:∀ c∈F13,(w.heap.size≤c∧c < w1.heap.size∨w3.heap.size≤c∧c < w4.heap.size):=hF13
    have hM13:∀ c∈F13,w.heap.size≤c∧c < w11.heap.size:=fun c hc=>by have:=hN13 c hc; omega
    have hzs13:w11.heap.size≤w13.heap.size:=hC13.size
    have hE13:Ext w w13:=hC13.below hE11 (fun c hc=>(hM13 c hc).1) hE11.size
    have hF14:=hL4_0x11.chg (oT) hC13 (fun c hc=>by have:=hN13 c hc; omega)
    refine lw_tvn 1 rfl (wp_plain _ [0,0] rfl (q_add ((k + 1 :Nat):Int) rfl rfl (w64n oM sD) zN (lw_tvn 1 rfl ?_)))
    have hPe:=hO13
    exact ⟨((k + 1),v13),_,rfl,⟨rfl,rfl,rfl,rfl,rfl,rfl,rfl,trivial⟩,⟨hE13,hF14,(by rw [tk_one oM]; have h:=hPe.bn o1; rw [hwk.1] at h; exact h.sub (fun b hb=>by (try dsimp only at hb); omega)),oM,oM⟩,by first | omega | (dsimp only; omega)⟩
   ·
    exact lw_tvn 5 rfl (c_cond_t rfl (wp_seq (wp_plain _ [0,0] rfl (lw_tvn 2 rfl (wp_ret (t_ret (b_ret (t_ret (t_ret (b_ret (t_ret (post_ret [10,11] rfl (.tuple #[(.slice none 0 0),(.bool false)]) rfl (by first | (exfalso; exact absurd (by assumption) (by rw [hwk.2]; decide)) | (exfalso; exact sj_ne hsz hok.2 hok.1.1 (by assumption)) | (have h:=(frNilS _ _ _); rw [List.take_of_length_le oM] at h; exact ⟨_,rfl,hE7,h⟩))))))))))))))
  ·
   exact q_lss false rfl rfl (decide_eq_false hc6) zN (lw_nil (wp_seq (c_cond_f rfl (wp_exit (t_exit (t_exit (c_exit_here (wp_seq (wp_plain _ [0,0,0] rfl (lw_tvn 3 rfl (wp_ret (post_ret [10,11] rfl (.tuple #[vo,(.bool true)]) rfl (by first | (exfalso; exact absurd (by assumption) (by rw [hwk.2]; decide)) | (exfalso; exact sj_ne hsz hok.2 hok.1.1 (by assumption)) | (have h:=((hPl.fr o1 (B:=w.heap.size) (fun b hb=>by (try dsimp only at hb); omega))); rw [List.take_of_length_le oM] at h; exact ⟨_,rfl,hE4,h⟩))))))))))))))
 ·
  exact q_eqls true u9 rfl rfl hc2 zN (lw_nil (c_cond_t rfl (wp_seq (wp_plain _ [0,0,0] rfl (lw_tvn 3 rfl (wp_ret (t_ret (post_ret [10,11] rfl (.tuple #[v1,(.bool true)]) rfl (by first | (exfalso; exact absurd (by assumption) (by rw [hwk.2]; decide)) | (exfalso; exact sj_ne hsz hok.2 hok.1.1 (by assumption)) | (have h:=((hO1.up o1).low (B':=w.heap.size) oM); rw [List.take_of_length_le oM] at h; exact ⟨_,rfl,hE1,h⟩))))))))))
theorem c_impl_ReadSeries (w:World) (s:ByteArray) (b:List Int)  (hsz:s.data.toList = sjT b) (hb5:okS b = true) (hG:GW w) :
  Calls Tryd.prog 9 #[.string s] w (fun e w'=>∃ v,e = .returned (.tuple #[v,.int .i64 0])∧Ext w w'∧Fr (owL rI 2) w.heap.size w'.heap.size w'.heap v b):=by
 refine calls_mk [.string s] 19 Tryd.func9 rfl rfl sM ?_
 have hE0:Ext w w:=Ext.refl w
 have hok:=okS_iff.1 hb5
 refine wp_seq (wp_plain _ [0,0] rfl (lw_tvn 2 rfl (wp_seq (wp_plain _ [0,3,0,0,0,0,0] rfl (lw_tv 1 rfl (lw_call 28 [] [] [(.string s),(.string (⟨#[32]⟩)),(.int .i64 ((13 :Nat):Int)),(.int .i64 ((0 :Nat):Int)),(.int .i64 ((1000002 :Nat):Int))] rfl rfl cf28 zN (c_impl_readList _ (s) (b:=b) (by exact hsz) (by exact hb5) (hG.ext hE0)) ?_))))))
 rintro e1 w1 ⟨v1,rfl,hX1,hO1⟩
 refine ⟨_,rfl,hX1,?_⟩
 have hzs1:w.heap.size≤w1.heap.size:=hX1.size
 have hE1:Ext w w1:=hE0.trans hX1
 refine lw_tv 1 rfl (q_extract (vs:=[v1,(.bool true)]) v1 rfl rfl zN (q_extract (vs:=[v1,(.bool true)]) (.bool true) rfl rfl zN (lw_tvn 2 rfl (wp_seq (wp_seq (wp_plain _ [0,0,0,0,0,0,0] rfl (lw_tv 1 rfl (q_not false rfl rfl zN (lw_tv 2 rfl (q_len (v:=v1) u24 rfl hO1.isSl (zS (e:=13) rfl rfl rfl) ?_))))))))))
 have hc2:¬ (((b.length :Nat):Int) = ((0 :Nat):Int)):=oM
 exact q_eql false rfl rfl (decide_eq_false hc2) (zS (e:=13) rfl rfl rfl) (lw_tvn 1 rfl (c_cond_f rfl (wp_skip (wp_seq (wp_plain _ [0,0,0] rfl (lw_tvn 3 rfl (wp_ret (post_ret [2,3] rfl (.tuple #[v1,(.int .i64 ((0 :Nat):Int))]) rfl (by exact ⟨_,rfl,hE1,((hO1.up o1).low (B':=w.heap.size) oM)⟩)))))))))
theorem c_impl_Interpolate (w:World) (va:Value) (a:List Int) (ha:Rd (rdL rI) w.heap va a) (ha5:okS a = true) :
  Calls Tryd.prog 7 #[va] w (fun e w'=>∃ v,e = .returned (.tuple #[v,.int .i64 0])∧Ext w w'∧Fr (owL rI 2) w.heap.size w'.heap.size w'.heap v (itp a)):=by
 refine calls_mk [va] 99 Tryd.func7 rfl rfl sM ?_
 have hE0:Ext w w:=Ext.refl w
 have hl_va:=ha.lenle
 have hok:=okS_iff.1 ha5
 refine wp_seq (wp_plain _ [0,0] rfl (lw_tvn 2 rfl (wp_seq (wp_seq (wp_plain _ [0,3,0] rfl (lw_tv 1 rfl (lw_call 20 [] [] [va] rfl rfl cf20 zN (c_impl_ValidSeries _ _ _ (ha.ext g1 hE0)) ?_)))))))
 rintro e1 w1 ⟨rfl,hX1⟩
 refine ⟨_,rfl,hX1,?_⟩
 have hzs1:w.heap.size≤w1.heap.size:=hX1.size
 have hE1:Ext w w1:=hE0.trans hX1
 refine q_not (!(okS a)) rfl rfl zN (lw_nil ?_)
 cases hb2:(!(okS a))
 ·
  refine c_cond_f (by first | rfl | (show Value.bool _ = _; rw [hb2])) (wp_skip (wp_seq (wp_plain _ [0,0,0] rfl (lw_tv 1 rfl (q_len (v:=va) u24 rfl ha.isSl zN (lw_tvn 1 rfl (wp_seq (wp_drawV _ [0,5,0,5,0,0] mixed (by kernel_rfl) (RsL [(1,fun _=>lF (owL rI 2) (List.replicate a.length 0)),(3,fun _=>lF (owL rI 2) (List.replicate a.length 0))]) (stb_cons (fun _=>lF_st o1) (fun _ _ _ _ _ _ _ h=>h) (stb_cons (fun _=>lF_st o1) (fun _ _ _ _ _ _ _ h=>h) stb_nil)) (LV.j (by decide) (lw_tvn 1 rfl (LV.r zN rfl (fun wa3 hWa3 hDa3=>?_) (fun v3 lo3 hi3 w3 hX3 ha3 hb3 hc3 hD3 hR3=>?_))))))))))))
  ·
   replace hWa3:=hWa3.of_drew
   have hzsa3:w1.heap.size≤wa3.heap.size:=hWa3.size
   have hEa3:Ext w wa3:=hE1.trans hWa3
   refine r_make (n:=a.length) u24 ti2 rfl rfl rfl sD zN fun v4 w4 hX4 hz4 hO4=>?_
   have hzs4:wa3.heap.size≤w4.heap.size:=hX4.size
   have hE4:Ext w w4:=hEa3.trans hX4
   exact lw_nil ⟨_,rfl,hO4⟩
  replace hX3:=hX3.of_drew
  have hzs3:w1.heap.size≤w3.heap.size:=hX3.size
  have hE3:Ext w w3:=hE1.trans hX3
  have hzl3:w1.heap.size≤lo3:=ha3
  have hO3:Fr (owL rI 2) lo3 hi3 w3.heap v3 (List.replicate a.length 0):=hR3
  refine LV.j (by decide) (lw_tvn 1 rfl (LV.r zN rfl (fun wa5 hWa5 hDa5=>?_) (fun v5 lo5 hi5 w5 hX5 ha5 hb5 hc5 hD5 hR5=>?_)))
  ·
   replace hWa5:=hWa5.of_drew
   have hzsa5:w1.heap.size≤wa5.heap.size:=hWa5.size
   have hEa5:Ext w wa5:=hE1.trans hWa5
   refine r_make (n:=a.length) u24 ti2 rfl rfl rfl sD zN fun v6 w6 hX6 hz6 hO6=>?_
   have hzs6:wa5.heap.size≤w6.heap.size:=hX6.size
   have hE6:Ext w w6:=hEa5.trans hX6
   exact lw_nil ⟨_,rfl,hO6⟩
  have hzs5:w3.heap.size≤w5.heap.size:=hX5.size
  have hE5:Ext w w5:=hE3.trans hX5
  have hO3x5:=hO3.ext (o1) hX5
  have hzl5:w1.heap.size≤lo5:=ha5
  have hq5_3:hi3≤lo5∨hi5≤lo3:=hD5 (1,_,lo3,hi3) (.head _)
  have hO5:Fr (owL rI 2) lo5 hi5 w5.heap v5 (List.replicate a.length 0):=hR5
  refine LV.j (by decide) (lw_tvn 1 rfl (LV.j (by decide) (lw_tvn 1 rfl (LV.nil (wp_seq (wp_plain _ [0,3,0] rfl (lw_tv 1 rfl (lw_call 21 [] [] [va] rfl rfl cf21 zN (c_slices_Clone___int64_int64_ _ _ _ (ha.ext g1 hE5) oM) ?_))))))))
  rintro e7 w7 ⟨v7_0,rfl,hX7,hO7_0⟩
  refine ⟨_,rfl,hX7,?_⟩
  have hzs7:w5.heap.size≤w7.heap.size:=hX7.size
  have hE7:Ext w w7:=hE5.trans hX7
  have hO3x7:=hO3x5.ext (o1) hX7
  have hO5x7:=hO5.ext (o1) hX7
  refine lw_tvn 1 rfl (wp_seq (wp_plain _ [0,0,4] rfl (lw_tv 1 rfl (q_idx (v:=v5) 0 u24 ti2 rfl rfl hO5x7.isSl rfl sD zN ?_))))
  refine e_setI (v:=v5) (w:=w7) sz2 rfl rfl oM hO5x7 sD zN fun w8 F8 hC8 hz8 hF8 hO8=>?_
  have hE8:Ext w w8:=hC8.below hE7 (fun c hc=>Nat.le_trans oM (hF8 c hc).1) hE7.size
  have hzs8:w7.heap.size≤w8.heap.size:=hC8.size
  have hF9:=hO3x7.chg (o1) hC8 (fun c hc=>by have:=hF8 c hc; omega)
  have hF10:=hO7_0.chg (o1) hC8 (fun c hc=>by have:=hF8 c hc; omega)
  refine lw_nil (wp_seq (wp_seq (wp_plain _ [0,0] rfl (lw_tvn 2 rfl (wp_block ?_)))))
  have hP0:=FrP.ofF hO8
  refine c_loop (S:=Nat × Value × Value × Value) (fun (⟨k,vo,vb,vg⟩:Nat × Value × Value × Value)=>([(5,vo),(6,vb),(7,vg),(26,(.int .i64 ((k :Nat):Int))),(4,(.int .i64 ((a.length :Nat):Int))),(25,(.int .i64 ((a.length :Nat):Int)))]:List (Nat × Value))) (fun (⟨k,vo,vb,vg⟩:Nat × Value × Value × Value) (W:World)=>Ext w W∧Fr (owL rI 2) w.heap.size W.heap.size W.heap vo (ouL a k)∧Fr (owL rI 2) w5.heap.size w7.heap.size W.heap vg (gpL a k)∧(FrP (owL rI 2) (fun b=>b < w5.heap.size∨w7.heap.size≤b∧b < W.heap.size) W.heap vb (bsL a.length k))∧(w7.heap.size≤W.heap.size∧w.heap.size≤w5.heap.size)∧k≤a.length∧w5.heap.size≤W.heap.size) (fun (⟨k,vo,vb,vg⟩:Nat × Value × Value × Value)=>a.length - k) (0,v3,v5,v7_0) ⟨rfl,rfl,rfl,rfl,rfl,rfl,trivial⟩ ⟨hE8,(hF9.up o1).low oM,hF10,(by exact hP0.sub (fun b hb=>by (try dsimp only at hb); (try dsimp only); omega)),oM,sD,oM⟩ ?_
  clear hE0 hX1 hzs1 hE1 hzs3 hE3 hO3 hO3x5 hO5 hO7_0 hX7 hO3x7 hO5x7 hO8 hF8 hz8 hC8 hE8 hzs8 hF9 hF10
  rintro ⟨k,vo,vb,vg⟩ ρ11 w11 ⟨hE11,hL11_0,hL11_1,hPl,hp11_1,hp11_2,hkB12⟩
  have hzs11:w.heap.size≤w11.heap.size:=hE11.size
  have hgl:=gpL_len (a:=a) k oM
  refine wp_seq (wp_plain _ [0] rfl ?_)
  by_cases hc13:((k :Nat):Int) < ((a.length :Nat):Int)
  ·
   refine q_lss true rfl rfl (decide_eq_true hc13) zN (lw_nil (wp_seq (c_cond_t rfl (wp_skip (wp_seq (wp_block (wp_seq (wp_plain _ [0,0] rfl (lw_tvn 2 rfl (wp_seq (wp_plain _ [0,0,0,0,2,3,3,0] rfl ?_)))))))))))
   have hgl:=gpL_len (a:=a) k oM
   have hbl:=bsL_len (n:=a.length) k
   have hol:=ouL_len (a:=a) k
   have hgn:=gpL_num hok.2 k
   have hbn:=bsL_num (n:=a.length) k
   have hon:=ouL_num (a:=a) k
   refine lw_tv 3 rfl (q_idx (v:=vg) 0 u24 ti2 rfl rfl hL11_1.isSl rfl sD zN ?_)
   refine q_load (p:=eptr vg 0 1) (.inr rfl) (.int .i64 ((gpL a k).getD 0 0)) one2 rfl (hL11_1.rd1.getI sD).1 zN ?_
   refine lw_call 23 [] [] [vb,(.int .i64 ((gpL a k).getD 0 0))] rfl rfl cf23 zN (c_impl_scaled _ _ _ _ hPl.rd1 (hL11_1.rd1.getI sD).2 oM (by exact hbn) (by exact allN_get hgn 0)) ?_
   rintro e14 w14 ⟨v14_0,rfl,hX14,hO14_0⟩
   refine ⟨_,rfl,hX14,?_⟩
   have hzs14:w11.heap.size≤w14.heap.size:=hX14.size
   have hE14:Ext w w14:=hE11.trans hX14
   have hL11_0x14:=hL11_0.ext (o1) hX14
   have hL11_1x14:=hL11_1.ext (o1) hX14
   have hP15:=hPl.ext o1 hX14
   refine lw_call 22 [] [] [vo,v14_0] rfl rfl cf22 zN (c_impl_added _ _ _ _ _ hL11_0x14.rd1 hO14_0.rd1 oM (by rw [sclS_len]; omega) (by exact hon) (by exact sclS_num _ _)) ?_
   rintro e16 w16 ⟨v16_0,rfl,hX16,hO16_0⟩
   refine ⟨_,rfl,hX16,?_⟩
   have hzs16:w14.heap.size≤w16.heap.size:=hX16.size
   have hE16:Ext w w16:=hE14.trans hX16
   have hL11_0x16:=hL11_0x14.ext (o1) hX16
   have hL11_1x16:=hL11_1x14.ext (o1) hX16
   have hO14_0x16:=hO14_0.ext (o1) hX16
   have hP17:=hP15.ext o1 hX16
   refine lw_tvn 1 rfl (wp_seq (wp_seq (wp_plain _ [0,0,0,0] rfl (lw_tv 1 rfl (q_len (v:=vg) u24 rfl hL11_1x16.isSl zN (q_sub (((gpL a k).length - 1 :Nat):Int) rfl rfl (w64n oM oM) zN (lw_tvn 1 rfl (wp_block ?_))))))))
   refine c_loop (S:=Nat) (fun (i:Nat)=>([(39,(.int .i64 ((i :Nat):Int))),(4,(.int .i64 ((a.length :Nat):Int))),(5,v16_0),(6,vb),(7,vg),(8,(.int .i64 ((k :Nat):Int))),(25,(.int .i64 ((a.length :Nat):Int))),(26,(.int .i64 ((k :Nat):Int))),(38,(.int .i64 (((gpL a k).length - 1 :Nat):Int)))]:List (Nat × Value))) (fun (i:Nat) (W:World)=>Ext w W∧Fr (owL rI 2) w5.heap.size w7.heap.size W.heap vg (gmx a k i)∧Fr (owL rI 2) w14.heap.size w16.heap.size W.heap v16_0 (addS (ouL a k) (sclS (bsL a.length k) ((gpL a k).getD 0 0)))∧(FrP (owL rI 2) (fun b=>b < w5.heap.size∨w7.heap.size≤b∧b < w11.heap.size) W.heap vb (bsL a.length k))∧w11.heap.size≤W.heap.size∧i≤a.length - (k + 1)∧w5.heap.size≤W.heap.size∧w16.heap.size≤W.heap.size) (fun (i:Nat)=>a.length - (k + 1) - i) 0 ⟨rfl,rfl,rfl,rfl,rfl,rfl,rfl,rfl,rfl,trivial⟩ ⟨hE16,(by rw [gmx_0]; exact hL11_1x16),hO16_0,(by exact hP17),oM,oM,oM,oM⟩ ?_
   clear hL11_1 hL11_0 hE11 hzs11 hO14_0 hX14 hL11_0x14 hL11_1x14 hO16_0 hX16 hL11_0x16 hL11_1x16 hO14_0x16
   rintro i ρ19 w19 ⟨hE19,hL19_0,hL19_1,hPc18_0,hp19_1,hp19_2,hkB20,hkB21⟩
   have hzs19:w.heap.size≤w19.heap.size:=hE19.size
   refine wp_seq (wp_plain _ [0] rfl ?_)
   by_cases hc22:((i :Nat):Int) < (((gpL a k).length - 1 :Nat):Int)
   ·
    refine q_lss true rfl rfl (decide_eq_true hc22) zN (lw_nil (wp_seq (c_cond_t rfl (wp_skip (wp_seq (wp_block (wp_seq (wp_plain _ [0,0] rfl (lw_tvn 2 rfl (wp_draw _ [0,0,0,0,0,0,1,0,0,0,1,0,0,4] mixed (by kernel_rfl) ?_))))))))))
    have hml:=gmx_len (a:=a) (k:=k) (i:=i) oM oM
    have hm0:=gmx_get (a:=a) (k:=k) (i:=i) (j:=i) oM oM oM
    have hm1:=gmx_get (a:=a) (k:=k) (i:=i) (j:=i + 1) oM oM oM
    refine lw_tv 4 rfl (q_add ((i + 1 :Nat):Int) rfl rfl (w64n oM oM) zN (q_idx (v:=vg) (i + 1) u24 ti2 rfl rfl hL19_0.isSl rfl sD zN ?_))
    refine q_load (p:=eptr vg (i + 1) 1) (.inl rfl) (.int .i64 ((gmx a k i).getD (i + 1) 0)) one2 rfl (hL19_0.rd1.getI sD).1 zN (lw_tv 2 rfl ?_)
    refine q_idx (v:=vg) i u24 ti2 rfl rfl hL19_0.isSl rfl sD zN ?_
    refine q_load (p:=eptr vg i 1) (.inl rfl) (.int .i64 ((gmx a k i).getD i 0)) one2 rfl (hL19_0.rd1.getI sD).1 zN ?_
    refine lw_callq 24 [] [] [(.int .i64 ((gmx a k i).getD (i + 1) 0)),(.int .i64 ((gmx a k i).getD i 0))] rfl rfl cf24 zN (.int .i64 (md (((gmx a k i).getD (i + 1) 0) - ((gmx a k i).getD i 0)))) (fun wq=>c_impl_minus wq _ _ (hL19_0.rd1.getI sD).2 (hL19_0.rd1.getI sD).2) ?_
    refine q_idx (v:=vg) i u24 ti2 rfl rfl hL19_0.isSl rfl sD zN (e_setI (v:=vg) (w:=w19.drew) sz2 rfl rfl (md_rng _) hL19_0 sD zN fun w24 F24 hC24 hz24 hF24 hO24=>?_)
    replace hC24:=hC24.of_drew
    have hE24:Ext w w24:=hC24.below hE19 (fun c hc=>Nat.le_trans hE5.size (hF24 c hc).1) hE19.size
    have hzs24:w19.heap.size≤w24.heap.size:=hC24.size
    have hF25:=hPc18_0.chg (o1) hC24 (fun c hc=>by have:=hF24 c hc; intro h9; (try dsimp only at h9); omega)
    have hF26:=hL19_1.chg (o1) hC24 (fun c hc=>by have:=hF24 c hc; omega)
    refine lw_nil (wp_plain _ [0,0] rfl (q_add ((i + 1 :Nat):Int) rfl rfl (w64n oM sD) zN (lw_tvn 1 rfl ?_)))
    have hPd18_0:=hF25
    exact ⟨(i + 1),_,rfl,⟨rfl,rfl,rfl,rfl,rfl,rfl,rfl,rfl,rfl,trivial⟩,⟨hE24,(by rw [← gmx_set oM oM rfl]; have h:=hO24; rw [hm0,hm1] at h; exact h),hF26,(by exact hPd18_0),oM,oM,oM,oM⟩,by first | omega | (dsimp only; omega)⟩
   ·
    refine q_lss false rfl rfl (decide_eq_false hc22) zN (lw_nil (wp_seq (c_cond_f rfl (wp_exit (t_exit (t_exit (c_exit_here (wp_seq (wp_plain _ [0,0,0,0,0,0] rfl ?_)))))))))
    have hml:=gmx_len (a:=a) (k:=k) (i:=i) oM oM
    refine lw_tv 2 rfl (q_len (v:=vg) u24 rfl hL19_0.isSl zN (q_sub (((gmx a k i).length - 1 :Nat):Int) rfl rfl (w64n oM oM) zN ?_))
    have hlt27:(gmx a k i).length - 1≤(gmx a k i).length:=by omega
    have hpf27:=Fr.prefI (k:=(gmx a k i).length - 1) hL19_0 hlt27
    refine q_pref (v:=vg) (k:=(gmx a k i).length - 1) u24 ti2 rfl hL19_0.isSl hL19_0.cap rfl hlt27 zN (lw_tvn 1 rfl (wp_seq (wp_plain _ [0,3,0] rfl (lw_tv 1 rfl (r_make (n:=a.length) u24 ti2 rfl rfl rfl sD zN fun v28 w28 hX28 hz28 hO28=>?_)))))
    have hzs28:w19.heap.size≤w28.heap.size:=hX28.size
    have hE28:Ext w w28:=hE19.trans hX28
    have hL19_1x28:=hL19_1.ext (o1) hX28
    have hpf27x28:=hpf27.ext (o1) hX28
    have hP29:=hPc18_0.ext o1 hX28
    refine lw_tvn 1 rfl (wp_seq (wp_seq (wp_plain _ [0,0] rfl (lw_tvn 2 rfl (wp_block ?_)))))
    refine c_loop (S:=Nat) (fun (j:Nat)=>([(64,(.int .i64 ((j :Nat):Int))),(4,(.int .i64 ((a.length :Nat):Int))),(5,v16_0),(6,vb),(7,(prefV vg ((gmx a k i).length - 1))),(8,(.int .i64 ((k :Nat):Int))),(10,v28),(25,(.int .i64 ((a.length :Nat):Int))),(26,(.int .i64 ((k :Nat):Int))),(63,(.int .i64 ((a.length :Nat):Int)))]:List (Nat × Value))) (fun (j:Nat) (W:World)=>Ext w W∧Fr (owL rI 2) w19.heap.size w28.heap.size W.heap v28 (nmx (bsL a.length k) k j)∧Fr (owL rI 2) w14.heap.size w16.heap.size W.heap v16_0 (addS (ouL a k) (sclS (bsL a.length k) ((gpL a k).getD 0 0)))∧Fr (owL rI 2) w5.heap.size w7.heap.size W.heap (prefV vg ((gmx a k i).length - 1)) ((gmx a k i).take ((gmx a k i).length - 1))∧(FrP (owL rI 2) (fun b=>b < w5.heap.size∨w7.heap.size≤b∧b < w11.heap.size) W.heap vb (bsL a.length k))∧w11.heap.size≤W.heap.size∧j≤a.length∧w19.heap.size≤W.heap.size∧w16.heap.size≤W.heap.size∧w7.heap.size≤W.heap.size) (fun (j:Nat)=>a.length - j) 0 ⟨rfl,rfl,rfl,rfl,rfl,rfl,rfl,rfl,rfl,rfl,trivial⟩ ⟨hE28,(by rw [nmx_0,hbl]; exact hO28),hL19_1x28,hpf27x28,(by exact hP29),oM,oM,oM,oM,oM⟩ ?_
    clear hL19_1 hL19_0 hO28 hz28 hX28 hL19_1x28
    rintro j ρ31 w31 ⟨hE31,hL31_0,hL31_1,hL31_2,hPc30_0,hp31_1,hp31_2,hkB32,hkB33,hkB34⟩
    have hzs31:w.heap.size≤w31.heap.size:=hE31.size
    refine wp_seq (wp_plain _ [0] rfl ?_)
    by_cases hc35:((j :Nat):Int) < ((a.length :Nat):Int)
    ·
     refine q_lss true rfl rfl (decide_eq_true hc35) zN (lw_nil (wp_seq (c_cond_t rfl (wp_skip (wp_seq (wp_block (wp_seq (wp_plain _ [0,0] rfl (lw_tvn 2 rfl (wp_seq (wp_seq (wp_plain _ [0,0] rfl ?_))))))))))))
     have hnl:=nmx_len (b:=bsL a.length k) (k:=k) (i:=j) oM
     refine lw_tv 1 rfl ?_
     by_cases hc36:((0 :Nat):Int) < ((j :Nat):Int)
     ·
      refine q_gtr true rfl rfl (decide_eq_true hc36) zN (lw_nil (c_cond_t rfl (wp_plain _ [0,0,0,0,0,0,2,0,4] rfl (lw_tv 4 rfl (q_sub ((j - 1 :Nat):Int) rfl rfl (w64n oM oM) zN (q_idx (v:=vb) (j - 1) u24 ti2 rfl rfl (FrP.isSlI hPc30_0) rfl sD zN ?_))))))
      refine q_load (p:=eptr vb (j - 1) 1) (.inr rfl) (.int .i64 ((bsL a.length k).getD (j - 1) 0)) one2 rfl (hPc30_0.rd1.getI sD).1 zN ?_
      refine q_idx (v:=v28) j u24 ti2 rfl rfl hL31_0.isSl rfl sD zN ?_
      refine e_setI (v:=v28) (w:=w31) sz2 rfl rfl (hPc30_0.rd1.getI sD).2 hL31_0 sD zN fun w37 F37 hC37 hz37 hF37 hO37=>?_
      have hE37:Ext w w37:=hC37.below hE31 (fun c hc=>Nat.le_trans hE19.size (hF37 c hc).1) hE31.size
      have hzs37:w31.heap.size≤w37.heap.size:=hC37.size
      have hF38:=hPc30_0.chg (o1) hC37 (fun c hc=>by have:=hF37 c hc; intro h9; (try dsimp only at h9); omega)
      have hF39:=hL31_1.chg (o1) hC37 (fun c hc=>by have:=hF37 c hc; omega)
      have hF40:=hL31_2.chg (o1) hC37 (fun c hc=>by have:=hF37 c hc; omega)
      refine lw_nil (wp_draw _ [0,0,0,0,0,1,0,0,0,1,0,0,0,0,4] mixed (by kernel_rfl) ?_)
      have hbj:=allN_get hbn j
      have hkk:=mulK (k:=k) hbj oM
      refine lw_tv 4 rfl (q_idx (v:=v28) j u24 ti2 rfl rfl hO37.isSl rfl sD zN ?_)
      refine q_load (p:=eptr v28 j 1) (.inl rfl) (.int .i64 (((nmx (bsL a.length k) k j).set j ((bsL a.length k).getD (j - 1) 0)).getD j 0)) one2 rfl (hO37.rd1.getI sD).1 zN (lw_tv 2 rfl ?_)
      refine q_idx (v:=vb) j u24 ti2 rfl rfl (FrP.isSlI hF38) rfl sD zN ?_
      refine q_load (p:=eptr vb j 1) (.inl rfl) (.int .i64 ((bsL a.length k).getD j 0)) one2 rfl (hF38.rd1.getI sD).1 zN (lw_tv 1 rfl ?_)
      refine q_mul (((bsL a.length k).getD j 0) * ((k :Nat):Int)) rfl rfl (w64 sD sD) zN ?_
      refine lw_callq 24 [] [] [(.int .i64 (((nmx (bsL a.length k) k j).set j ((bsL a.length k).getD (j - 1) 0)).getD j 0)),(.int .i64 (((bsL a.length k).getD j 0) * ((k :Nat):Int)))] rfl rfl cf24 zN (.int .i64 (md ((((nmx (bsL a.length k) k j).set j ((bsL a.length k).getD (j - 1) 0)).getD j 0) - (((bsL a.length k).getD j 0) * ((k :Nat):Int))))) (fun wq=>c_impl_minus wq _ _ (hO37.rd1.getI sD).2 oM) ?_
      refine q_idx (v:=v28) j u24 ti2 rfl rfl hO37.isSl rfl sD zN (e_setI (v:=v28) (w:=w37.drew) sz2 rfl rfl (md_rng _) hO37 sD zN fun w42 F42 hC42 hz42 hF42 hO42=>?_)
      replace hC42:=hC42.of_drew
      have hE42:Ext w w42:=hC42.below hE37 (fun c hc=>Nat.le_trans hE19.size (hF42 c hc).1) hE37.size
      have hzs42:w37.heap.size≤w42.heap.size:=hC42.size
      have hF43:=hF38.chg (o1) hC42 (fun c hc=>by have:=hF42 c hc; intro h9; (try dsimp only at h9); omega)
      have hF44:=hF39.chg (o1) hC42 (fun c hc=>by have:=hF42 c hc; omega)
      have hF45:=hF40.chg (o1) hC42 (fun c hc=>by have:=hF42 c hc; omega)
      refine lw_nil (wp_plain _ [0,0] rfl (q_add ((j + 1 :Nat):Int) rfl rfl (w64n oM sD) zN (lw_tvn 1 rfl ?_)))
      have hPd30_0:=hF43
      exact ⟨(j + 1),_,rfl,⟨rfl,rfl,rfl,rfl,rfl,rfl,rfl,rfl,rfl,rfl,trivial⟩,⟨hE42,(by have h:=hO42; first | (rw [nmx_a oM oM] at h; exact h) | (rw [nmx_b oM oM rfl] at h; exact h)),hF44,hF45,(by exact hPd30_0),oM,oM,oM,oM,oM⟩,by first | omega | (dsimp only; omega)⟩
     ·
      refine q_gtr false rfl rfl (decide_eq_false hc36) zN (lw_nil (c_cond_f rfl (wp_skip (wp_draw _ [0,0,0,0,0,1,0,0,0,1,0,0,0,0,4] mixed (by kernel_rfl) ?_))))
      have hbj:=allN_get hbn j
      have hkk:=mulK (k:=k) hbj oM
      refine lw_tv 4 rfl (q_idx (v:=v28) j u24 ti2 rfl rfl hL31_0.isSl rfl sD zN ?_)
      refine q_load (p:=eptr v28 j 1) (.inl rfl) (.int .i64 ((nmx (bsL a.length k) k j).getD j 0)) one2 rfl (hL31_0.rd1.getI sD).1 zN (lw_tv 2 rfl ?_)
      refine q_idx (v:=vb) j u24 ti2 rfl rfl (FrP.isSlI hPc30_0) rfl sD zN ?_
      refine q_load (p:=eptr vb j 1) (.inl rfl) (.int .i64 ((bsL a.length k).getD j 0)) one2 rfl (hPc30_0.rd1.getI sD).1 zN (lw_tv 1 rfl ?_)
      refine q_mul (((bsL a.length k).getD j 0) * ((k :Nat):Int)) rfl rfl (w64 sD sD) zN ?_
      refine lw_callq 24 [] [] [(.int .i64 ((nmx (bsL a.length k) k j).getD j 0)),(.int .i64 (((bsL a.length k).getD j 0) * ((k :Nat):Int)))] rfl rfl cf24 zN (.int .i64 (md (((nmx (bsL a.length k) k j).getD j 0) - (((bsL a.length k).getD j 0) * ((k :Nat):Int))))) (fun wq=>c_impl_minus wq _ _ (hL31_0.rd1.getI sD).2 oM) ?_
      refine q_idx (v:=v28) j u24 ti2 rfl rfl hL31_0.isSl rfl sD zN (e_setI (v:=v28) (w:=w31.drew) sz2 rfl rfl (md_rng _) hL31_0 sD zN fun w47 F47 hC47 hz47 hF47 hO47=>?_)
      replace hC47:=hC47.of_drew
      have hE47:Ext w w47:=hC47.below hE31 (fun c hc=>Nat.le_trans hE19.size (hF47 c hc).1) hE31.size
      have hzs47:w31.heap.size≤w47.heap.size:=hC47.size
      have hF48:=hPc30_0.chg (o1) hC47 (fun c hc=>by have:=hF47 c hc; intro h9; (try dsimp only at h9); omega)
      have hF49:=hL31_1.chg (o1) hC47 (fun c hc=>by have:=hF47 c hc; omega)
      have hF50:=hL31_2.chg (o1) hC47 (fun c hc=>by have:=hF47 c hc; omega)
      refine lw_nil (wp_plain _ [0,0] rfl (q_add ((j + 1 :Nat):Int) rfl rfl (w64n oM sD) zN (lw_tvn 1 rfl ?_)))
      have hPd30_0:=hF48
      exact ⟨(j + 1),_,rfl,⟨rfl,rfl,rfl,rfl,rfl,rfl,rfl,rfl,rfl,rfl,trivial⟩,⟨hE47,(by have h:=hO47; first | (rw [nmx_a oM oM] at h; exact h) | (rw [nmx_b oM oM rfl] at h; exact h)),hF49,hF50,(by exact hPd30_0),oM,oM,oM,oM,oM⟩,by first | omega | (dsimp only; omega)⟩
    ·
     refine q_lss false rfl rfl (decide_eq_false hc35) zN (lw_nil (wp_seq (c_cond_f rfl (wp_exit (t_exit (t_exit (c_exit_here (wp_plain _ [0,0,0,0,3,0] rfl ?_))))))))
     have hnl:(nxL (bsL a.length k) k).length = a.length:=by unfold nxL; rw [tab_len]; exact hbl
     have hNx:=hL31_0
     rw [show j = (bsL a.length k).length from by omega,nmx_end] at hNx
     refine lw_tv 2 rfl (q_add ((k + 1 :Nat):Int) rfl rfl (w64n oM oM) zN (lw_callq 25 [] [] [(.int .i64 ((k + 1 :Nat):Int))] rfl rfl cf25 zN (.int .i64 (inv ((k + 1 :Nat):Int))) (fun wq=>c_impl_inverse wq _ oM) (lw_call 23 [] [] [v28,(.int .i64 (inv ((k + 1 :Nat):Int)))] rfl rfl cf23 zN (c_impl_scaled _ _ _ _ hNx.rd1 (inv_rng _) (by rw [hnl]; omega) (by exact nx_num) (by exact inv_num _)) ?_)))
     rintro e52 w52 ⟨v52_0,rfl,hX52,hO52_0⟩
     refine ⟨_,rfl,hX52,?_⟩
     have hzs52:w31.heap.size≤w52.heap.size:=hX52.size
     have hE52:Ext w w52:=hE31.trans hX52
     have hL31_1x52:=hL31_1.ext (o1) hX52
     have hL31_2x52:=hL31_2.ext (o1) hX52
     refine lw_tvn 1 rfl (wp_plain _ [0,0] rfl (q_add ((k + 1 :Nat):Int) rfl rfl (w64n oM sD) zN (lw_tvn 1 rfl ?_)))
     have hPe:=FrP.ofF hO52_0
     exact ⟨((k + 1),v16_0,v52_0,(prefV vg ((gmx a k i).length - 1))),_,rfl,⟨rfl,rfl,rfl,rfl,rfl,rfl,trivial⟩,⟨hE52,(by exact (hL31_1x52.up o1).low hE14.size),(by have h:=hL31_2x52; have e:(gmx a k i).take ((gmx a k i).length - 1) = gpL a (k + 1):=(by rw [show (gmx a k i).length - 1 = a.length - (k + 1) from by omega,show i = a.length - (k + 1) from by omega]; exact gmx_end oM); rw [e] at h; exact h),(by exact hPe.sub (fun b hb=>by (try dsimp only at hb); (try dsimp only); omega)),oM,sD,oM⟩,by first | omega | (dsimp only; omega)⟩
  ·
   exact q_lss false rfl rfl (decide_eq_false hc13) zN (lw_nil (wp_seq (c_cond_f rfl (wp_exit (t_exit (t_exit (c_exit_here (wp_seq (wp_plain _ [0,0,0] rfl (lw_tvn 3 rfl (wp_ret (post_ret [2,3] rfl (.tuple #[vo,(.int .i64 ((0 :Nat):Int))]) rfl (by first | (exfalso; simp_all; done) | (have h:=((hL11_0.up o1).low (B':=w.heap.size) oM); rw [show k = a.length from by omega] at h; exact ⟨_,rfl,hE11,h⟩))))))))))))))
 ·
  exact c_cond_t (by first | rfl | (show Value.bool _ = _; rw [hb2])) (wp_seq (wp_plain _ [0,0] rfl (lw_tvn 2 rfl (wp_ret (t_ret (post_ret [2,3] rfl (.tuple #[(.slice none 0 0),(.int .i64 ((1 :Nat):Int))]) rfl (by first | (exfalso; simp_all; done) | (have h:=(frNilS _ _ _); rw [show k = a.length from by omega] at h; exact ⟨_,rfl,hE1,h⟩))))))))
theorem c_laws_FnInterpolate (w:World) (vc:Value) (cs:List UInt8) (vd:Value) (ds:List UInt8) (hcs:Rd (rdL rU) w.heap vc cs) (hds:Rd (rdL rU) w.heap vd ds) (hG:GW w) :
  Calls Tryd.prog 3 #[vc,vd] w (fun e w'=>e = .returned (.bool true)∧Ext w w'):=by
 refine calls_mk [vc,vd] 107 Tryd.func3 rfl rfl sM ?_
 have hE0:Ext w w:=Ext.refl w
 have hl_vc:=hcs.lenle
 have hl_vd:=hds.lenle
 refine wp_seq (wp_plain _ [0] rfl (lw_tvn 1 rfl (wp_seq (wp_seq (wp_plain _ [0,0,3] rfl (lw_tv 2 rfl (lw_call 5 [] [] [vc,vd] rfl rfl cf5 zN (c_laws_a2Long _ _ _ _ _ (hcs.ext good_u hE0) (hds.ext good_u hE0)) ?_)))))))
 rintro e1 w1 ⟨rfl,hX1⟩
 refine ⟨_,rfl,hX1,?_⟩
 have hzs1:w.heap.size≤w1.heap.size:=hX1.size
 have hE1:Ext w w1:=hE0.trans hX1
 refine lw_nil ?_
 cases hb2:(decide (((3000 :Nat):Int) < ((cs.length :Nat):Int)) || decide (((3000 :Nat):Int) < ((ds.length :Nat):Int)))
 ·
  refine c_cond_f (by first | rfl | (show Value.bool _ = _; rw [hb2])) (wp_skip (wp_seq (wp_plain _ [0,3,0,0,0,0,0,0,0] rfl (lw_tv 1 rfl (lw_call 6 [] [] [vc] rfl rfl cf6 zN (c_spec_A2Series _ _ _ (hcs.ext good_u hE1)) ?_)))))
  rintro e3 w3 ⟨v3_0,v3_1,v3_2,x3_0,x3_1,x3_2,rfl,hX3,hO3_0,hO3_1,hO3_2,hp3_0,hp3_1,hp3_2⟩
  refine ⟨_,rfl,hX3,?_⟩
  have hzs3:w1.heap.size≤w3.heap.size:=hX3.size
  have hE3:Ext w w3:=hE1.trans hX3
  refine lw_tv 1 rfl (q_extract (vs:=[v3_0,v3_1,v3_2]) v3_0 rfl rfl zN (q_extract (vs:=[v3_0,v3_1,v3_2]) v3_1 rfl rfl zN (q_extract (vs:=[v3_0,v3_1,v3_2]) v3_2 rfl rfl zN (lw_tvn 3 rfl (wp_seq (wp_plain _ [0,3,0,0,0,0,0] rfl ?_))))))
  have hoA:okS x3_0 = true:=okS_iff.2 hp3_0
  have hoB:okS x3_1 = true:=okS_of hoA hp3_1.1 hp3_1.2
  have hAl:=okS_iff.1 hoA
  have hil:=itp_len (a:=x3_0)
  have hBl:=hp3_1.1
  refine lw_tv 1 rfl (lw_call 7 [] [] [v3_0] rfl rfl cf7 zN (c_impl_Interpolate _ v3_0 x3_0 hO3_0.rd1 (by exact hoA)) ?_)
  rintro e4 w4 ⟨v4,rfl,hX4,hO4⟩
  refine ⟨_,rfl,hX4,?_⟩
  have hzs4:w3.heap.size≤w4.heap.size:=hX4.size
  have hE4:Ext w w4:=hE3.trans hX4
  have hO3_0x4:=hO3_0.ext (o1) hX4
  have hO3_1x4:=hO3_1.ext (o1) hX4
  have hO3_2x4:=hO3_2.ext (o1) hX4
  refine lw_tv 1 rfl (q_extract (vs:=[v4,(.int .i64 0)]) v4 rfl rfl zN (q_extract (vs:=[v4,(.int .i64 0)]) (.int .i64 0) rfl rfl zN (lw_tvn 2 rfl (wp_seq (wp_seq (wp_plain _ [0,0,0,0,0,0,0,0,0] rfl (lw_tv 1 rfl ?_)))))))
  have hc5:¬ (0≠((0 :Nat):Int)):=(fun h9=>h9 rfl)
  refine q_neq false rfl rfl (decide_eq_false hc5) zN (lw_tv 2 rfl (q_len (v:=v4) u24 rfl hO4.isSl (zS (e:=36) rfl rfl rfl) (lw_tv 1 rfl (q_len (v:=v3_0) u24 rfl hO3_0x4.isSl (zS (e:=36) rfl rfl rfl) ?_))))
  have hc6:¬ ((((itp x3_0).length :Nat):Int)≠((x3_0.length :Nat):Int)):=(fun h9=>h9 oM)
  refine q_neq false rfl rfl (decide_eq_false hc6) (zS (e:=36) rfl rfl rfl) (lw_tvn 1 rfl (c_cond_f rfl (wp_skip (wp_seq (wp_plain _ [3,0] rfl (r_nil (rI) good_rI u24 ti2 zN fun v7 w7 hX7 hz7 hO7=>?_))))))
  have hzs7:w4.heap.size≤w7.heap.size:=hX7.size
  have hE7:Ext w w7:=hE4.trans hX7
  have hO3_0x7:=hO3_0x4.ext (o1) hX7
  have hO3_1x7:=hO3_1x4.ext (o1) hX7
  have hO3_2x7:=hO3_2x4.ext (o1) hX7
  have hO4x7:=hO4.ext (o1) hX7
  refine lw_tvn 1 rfl (wp_seq (wp_seq (wp_plain _ [0] rfl (lw_tvn 1 rfl (wp_block ?_)))))
  refine c_loop (S:=Nat × Value) (fun (⟨i,vo⟩:Nat × Value)=>([(10,vo),(11,(.int .i64 ((i :Nat):Int))),(5,v3_0),(6,v3_1),(8,v4)]:List (Nat × Value))) (fun (⟨i,vo⟩:Nat × Value) (W:World)=>Ext w W∧Fr (owL rI 2) w4.heap.size W.heap.size W.heap vo (vlL x3_1 i)∧Fr (owL rI 2) w1.heap.size w3.heap.size W.heap v3_0 x3_0∧Fr (owL rI 2) w1.heap.size w3.heap.size W.heap v3_1 x3_1∧Fr (owL rI 2) w3.heap.size w4.heap.size W.heap v4 (itp x3_0)∧i≤x3_0.length∧w4.heap.size≤W.heap.size) (fun (⟨i,vo⟩:Nat × Value)=>x3_0.length - i) (0,v7) ⟨rfl,rfl,rfl,rfl,rfl,trivial⟩ ⟨hE7,hO7.up o1,hO3_0x7,hO3_1x7,hO4x7,sD,oM⟩ ?_
  clear hE0 hX1 hO3_2 hO3_1 hO3_0 hX3 hO4 hX4 hO3_0x4 hO3_1x4 hO3_2x4 hO7 hz7 hX7 hzs7 hE7 hO3_0x7 hO3_1x7 hO3_2x7 hO4x7
  rintro ⟨i,vo⟩ ρ8 w8 ⟨hE8,hL8_0,hL8_1,hL8_2,hL8_3,hp8_0,hkB9⟩
  have hzs8:w.heap.size≤w8.heap.size:=hE8.size
  refine wp_seq (wp_seq (wp_plain _ [0,0,0,0] rfl (lw_tv 2 rfl (q_len (v:=v3_0) u24 rfl hL8_1.isSl zN ?_))))
  by_cases hc10:((i :Nat):Int) < ((x3_0.length :Nat):Int)
  ·
   refine q_lss true rfl rfl (decide_eq_true hc10) zN (lw_nil (c_cond_t rfl (wp_skip (wp_seq (wp_block (wp_seq (wp_plain _ [0,0,3,0,0,0,0,0] rfl ?_)))))))
   have hiv:=itp_val (a:=x3_0) (i:=i) hAl.1.2 hAl.2 oM
   refine lw_tv 2 rfl (lw_call 8 [] [] [v4,(.int .i64 ((i :Nat):Int))] rfl rfl cf8 zN (c_impl_ValueAt _ _ _ _ hL8_3.rd1 oM (by exact itp_okS hoA)) ?_)
   rintro e11 w11 ⟨rfl,hX11⟩
   refine ⟨_,rfl,hX11,?_⟩
   have hzs11:w8.heap.size≤w11.heap.size:=hX11.size
   have hE11:Ext w w11:=hE8.trans hX11
   have hL8_0x11:=hL8_0.ext (o1) hX11
   have hL8_1x11:=hL8_1.ext (o1) hX11
   have hL8_2x11:=hL8_2.ext (o1) hX11
   have hL8_3x11:=hL8_3.ext (o1) hX11
   refine lw_tv 1 rfl (q_extract (vs:=[(.int .i64 (valA (itp x3_0) ((i :Nat):Int))),(.int .i64 0)]) (.int .i64 (valA (itp x3_0) ((i :Nat):Int))) rfl rfl zN (q_extract (vs:=[(.int .i64 (valA (itp x3_0) ((i :Nat):Int))),(.int .i64 0)]) (.int .i64 0) rfl rfl zN (lw_tvn 2 rfl (wp_seq (wp_plain _ [0,0,3,0,0,0,0,0] rfl (lw_tv 2 rfl (lw_call 8 [] [] [v3_1,(.int .i64 ((i :Nat):Int))] rfl rfl cf8 zN (c_impl_ValueAt _ _ _ _ hL8_2x11.rd1 oM (by exact hoB)) ?_)))))))
   rintro e12 w12 ⟨rfl,hX12⟩
   refine ⟨_,rfl,hX12,?_⟩
   have hzs12:w11.heap.size≤w12.heap.size:=hX12.size
   have hE12:Ext w w12:=hE11.trans hX12
   have hL8_0x12:=hL8_0x11.ext (o1) hX12
   have hL8_1x12:=hL8_1x11.ext (o1) hX12
   have hL8_2x12:=hL8_2x11.ext (o1) hX12
   have hL8_3x12:=hL8_3x11.ext (o1) hX12
   refine lw_tv 1 rfl (q_extract (vs:=[(.int .i64 (valA x3_1 ((i :Nat):Int))),(.int .i64 0)]) (.int .i64 (valA x3_1 ((i :Nat):Int))) rfl rfl zN (q_extract (vs:=[(.int .i64 (valA x3_1 ((i :Nat):Int))),(.int .i64 0)]) (.int .i64 0) rfl rfl zN (lw_tvn 2 rfl (wp_seq (wp_seq (wp_plain _ [0,0,0,0,0,0,0,0,0,0,0,2,0,0] rfl (lw_tv 1 rfl ?_)))))))
   have hc13:¬ (0≠((0 :Nat):Int)):=(fun h9=>h9 rfl)
   refine q_neq false rfl rfl (decide_eq_false hc13) zN (lw_tv 2 rfl ?_)
   have hc14:¬ (0≠((0 :Nat):Int)):=(fun h9=>h9 rfl)
   refine q_neq false rfl rfl (decide_eq_false hc14) (zS (e:=64) rfl rfl rfl) (lw_tv 5 rfl (q_idx (v:=v3_0) i u24 ti2 rfl rfl hL8_1x12.isSl rfl sD (zS (e:=68) rfl rfl rfl) ?_))
   refine q_load (p:=eptr v3_0 i 1) (.inr rfl) (.int .i64 (x3_0.getD i 0)) one2 rfl (hL8_1x12.rd1.getI sD).1 (zS (e:=68) rfl rfl rfl) ?_
   have hc15:¬ (valA (itp x3_0) ((i :Nat):Int)≠x3_0.getD i 0):=(fun h9=>h9 hiv)
   refine q_neq false rfl rfl (decide_eq_false hc15) (zS (e:=68) rfl rfl rfl) (lw_tvn 1 rfl (c_cond_f rfl (wp_skip (wp_plain _ [0,0,3,4,0] rfl ?_))))
   have hvl:=vlL_len (b:=x3_1) (m:=i)
   refine lw_tv 2 rfl (r_one (u:=(.int .i64 (valA x3_1 ((i :Nat):Int)))) (B:=w12.heap.size) good_rI u24 ti2 rfl rfl (frI w12.heap.size w12.heap.size _ _ (by have:=valA_num x3_1 ((i :Nat):Int); omega)) (Nat.le_refl _) zN fun v16 w16 hX16 hz16 hO16=>?_)
   have hzs16:w12.heap.size≤w16.heap.size:=hX16.size
   have hE16:Ext w w16:=hE12.trans hX16
   have hL8_0x16:=hL8_0x12.ext (o1) hX16
   have hL8_1x16:=hL8_1x12.ext (o1) hX16
   have hL8_2x16:=hL8_2x12.ext (o1) hX16
   have hL8_3x16:=hL8_3x12.ext (o1) hX16
   refine e_appI (v:=vo) (a:=v16) u24 ti2 rfl rfl rfl hL8_0x16 oM hO16.rd1 sD (by unfold maxLen; first | omega | assumption | (simp; done) | (simp; omega)) zN fun v17 w17 F17 hC17 hF17 hO17=>?_
   have hE17:Ext w w17:=hC17.below hE16 (fun c hc=>Nat.le_trans hE4.size (hF17 c hc).1) hE16.size
   have hzs17:w16.heap.size≤w17.heap.size:=hC17.size
   have hF18:=hL8_1x16.chg (o1) hC17 (fun c hc=>by have:=hF17 c hc; omega)
   have hF19:=hL8_2x16.chg (o1) hC17 (fun c hc=>by have:=hF17 c hc; omega)
   have hF20:=hL8_3x16.chg (o1) hC17 (fun c hc=>by have:=hF17 c hc; omega)
   have hF21:=hO16.chg (o1) hC17 (fun c hc=>by have:=hF17 c hc; omega)
   refine lw_tvn 1 rfl (wp_plain _ [0,0,0] rfl (lw_tv 1 rfl (q_add ((i + 1 :Nat):Int) rfl rfl (w64n oM sD) zN (lw_tvn 1 rfl ?_))))
   exact ⟨((i + 1),v17),_,rfl,⟨rfl,rfl,rfl,rfl,rfl,trivial⟩,⟨hE17,(by rw [← vlL_st]; exact hO17.up o1),hF18,hF19,hF20,sD,oM⟩,by first | omega | (dsimp only; omega)⟩
  ·
   refine q_lss false rfl rfl (decide_eq_false hc10) zN (lw_nil (c_cond_f rfl (wp_exit (t_exit (t_exit (c_exit_here (wp_seq (wp_plain _ [0,3,0,0,0,0,0] rfl (lw_tv 1 rfl (lw_call 7 [] [] [vo] rfl rfl cf7 zN (c_impl_Interpolate _ vo (vlL x3_1 i) hL8_0.rd1 (by exact vlL_ok oM)) ?_))))))))))
   rintro e22 w22 ⟨v22,rfl,hX22,hO22⟩
   refine ⟨_,rfl,hX22,?_⟩
   have hzs22:w8.heap.size≤w22.heap.size:=hX22.size
   have hE22:Ext w w22:=hE8.trans hX22
   have hL8_0x22:=hL8_0.ext (o1) hX22
   have hL8_1x22:=hL8_1.ext (o1) hX22
   have hL8_2x22:=hL8_2.ext (o1) hX22
   have hL8_3x22:=hL8_3.ext (o1) hX22
   refine lw_tv 1 rfl (q_extract (vs:=[v22,(.int .i64 0)]) v22 rfl rfl zN (q_extract (vs:=[v22,(.int .i64 0)]) (.int .i64 0) rfl rfl zN (lw_tvn 2 rfl (wp_seq (wp_plain _ [0,3,3,0,0,0,0,0] rfl (lw_tv 1 rfl (lw_call 10 [] [] [v3_1] rfl rfl cf10 zN (c_impl_SeriesText _ v3_1 x3_1 hL8_2x22.rd1 (by exact hoB) (hG.ext hE22)) ?_)))))))
   rintro e23 w23 ⟨rfl,hX23⟩
   refine ⟨_,rfl,hX23,?_⟩
   have hzs23:w22.heap.size≤w23.heap.size:=hX23.size
   have hE23:Ext w w23:=hE22.trans hX23
   have hL8_0x23:=hL8_0x22.ext (o1) hX23
   have hL8_1x23:=hL8_1x22.ext (o1) hX23
   have hL8_2x23:=hL8_2x22.ext (o1) hX23
   have hL8_3x23:=hL8_3x22.ext (o1) hX23
   have hO22x23:=hO22.ext (o1) hX23
   refine lw_call 9 [] [] [(.string (ba (sjT x3_1)))] rfl rfl cf9 zN (c_impl_ReadSeries _ (ba (sjT x3_1)) (b:=x3_1) (by rfl) (by exact hoB) (hG.ext hE23)) ?_
   rintro e24 w24 ⟨v24,rfl,hX24,hO24⟩
   refine ⟨_,rfl,hX24,?_⟩
   have hzs24:w23.heap.size≤w24.heap.size:=hX24.size
   have hE24:Ext w w24:=hE23.trans hX24
   have hL8_0x24:=hL8_0x23.ext (o1) hX24
   have hL8_1x24:=hL8_1x23.ext (o1) hX24
   have hL8_2x24:=hL8_2x23.ext (o1) hX24
   have hL8_3x24:=hL8_3x23.ext (o1) hX24
   have hO22x24:=hO22x23.ext (o1) hX24
   refine lw_tv 1 rfl (q_extract (vs:=[v24,(.int .i64 0)]) v24 rfl rfl zN (q_extract (vs:=[v24,(.int .i64 0)]) (.int .i64 0) rfl rfl zN (lw_tvn 2 rfl (wp_seq (wp_plain _ [0,0,0,0,0,0,0,0,0,3,0,0,0,0,3,0,0] rfl (lw_tv 1 rfl ?_))))))
   have hc25:0 = ((0 :Nat):Int):=rfl
   refine q_eql true rfl rfl (decide_eq_true hc25) zN (lw_tv 2 rfl ?_)
   have hc26:0 = ((0 :Nat):Int):=rfl
   refine q_eql true rfl rfl (decide_eq_true hc26) (zS (e:=93) rfl rfl rfl) (lw_tv 4 rfl (lw_call 11 [] [] [v22,v3_1] rfl rfl cf11 (zS (e:=97) rfl rfl rfl) (c_laws_a2Same _ _ _ _ _ hO22x24.rd1 hL8_2x24.rd1) ?_))
   rintro e27 w27 ⟨rfl,hX27⟩
   refine ⟨_,rfl,hX27,?_⟩
   have hzs27:w24.heap.size≤w27.heap.size:=hX27.size
   have hE27:Ext w w27:=hE24.trans hX27
   have hL8_0x27:=hL8_0x24.ext (o1) hX27
   have hL8_1x27:=hL8_1x24.ext (o1) hX27
   have hL8_2x27:=hL8_2x24.ext (o1) hX27
   have hL8_3x27:=hL8_3x24.ext (o1) hX27
   have hO22x27:=hO22x24.ext (o1) hX27
   have hO24x27:=hO24.ext (o1) hX27
   refine lw_tv 2 rfl ?_
   cases hb28:(decide ((itp (vlL x3_1 i)) = x3_1))
   ·
    have hdc29:=of_decide_eq_false hb28
    exact lw_tvn 5 rfl (wp_ret (post_ret [4] rfl (.bool false) rfl (by first | (exfalso; exact absurd (itp_vl hoB (m:=i) oM) (by assumption)) | exact ⟨ret_bool (decide_eq_true rfl),hE27⟩ | exact ⟨rfl,hE27⟩)))
   ·
    have hdc30:=of_decide_eq_true hb28
    refine lw_tv 2 rfl (lw_call 11 [] [] [v24,v3_1] rfl rfl cf11 (zS (e:=102) rfl rfl rfl) (c_laws_a2Same _ _ _ _ _ hO24x27.rd1 hL8_2x27.rd1) ?_)
    rintro e31 w31 ⟨rfl,hX31⟩
    refine ⟨_,rfl,hX31,?_⟩
    have hzs31:w27.heap.size≤w31.heap.size:=hX31.size
    have hE31:Ext w w31:=hE27.trans hX31
    have hL8_0x31:=hL8_0x27.ext (o1) hX31
    have hL8_1x31:=hL8_1x27.ext (o1) hX31
    have hL8_2x31:=hL8_2x27.ext (o1) hX31
    have hL8_3x31:=hL8_3x27.ext (o1) hX31
    have hO22x31:=hO22x27.ext (o1) hX31
    have hO24x31:=hO24x27.ext (o1) hX31
    exact lw_tvn 2 rfl (wp_ret (post_ret [4] rfl (.bool (decide (x3_1 = x3_1))) rfl (by first | (exfalso; exact absurd (itp_vl hoB (m:=i) oM) (by assumption)) | exact ⟨ret_bool (decide_eq_true rfl),hE31⟩ | exact ⟨rfl,hE31⟩)))
 ·
  exact c_cond_t (by first | rfl | (show Value.bool _ = _; rw [hb2])) (wp_seq (wp_plain _ [0] rfl (lw_tvn 1 rfl (wp_ret (t_ret (post_ret [4] rfl (.bool true) rfl (by first | (exfalso; exact absurd (itp_vl hoB (m:=i) oM) (by assumption)) | exact ⟨ret_bool (decide_eq_true rfl),hE1⟩ | exact ⟨rfl,hE1⟩)))))))
end Go.Proofs.YtlbefjfhfodnlaaDoor
