/- T, Sa, Vq, Gc, Gd, Ge, Gg, Gh, Gz, Hz, Sb, Va, Vb, Vg, Vh, Vi: texts of this claim, joined; what the claim does not come to is left out. -/
import Derived.Test.YtjnbnlniafmblaaQA1
import Derived.Test.YtjnbnlniafmblaaProg
set_option linter.unusedVariables false
set_option linter.unusedSimpArgs false
namespace Go.Proofs.Ytjnbnlniafmblaa
open Go Go.RowKit
theorem mixed : Try.prog.follows .mixedOrders = true := by kernel_rfl
theorem cf30 : ((Try.prog.funcs[30]?).map fun fn => (fn.name != "runtime.NumGoroutine") && fn.body.isSome) = some true := by kernel_rfl
theorem cf31 : ((Try.prog.funcs[31]?).map fun fn => (fn.name != "runtime.NumGoroutine") && fn.body.isSome) = some true := by kernel_rfl
theorem cf32 : ((Try.prog.funcs[32]?).map fun fn => (fn.name != "runtime.NumGoroutine") && fn.body.isSome) = some true := by kernel_rfl
theorem cf33 : ((Try.prog.funcs[33]?).map fun fn => (fn.name != "runtime.NumGoroutine") && fn.body.isSome) = some true := by kernel_rfl
theorem cf34 : ((Try.prog.funcs[34]?).map fun fn => (fn.name != "runtime.NumGoroutine") && fn.body.isSome) = some true := by kernel_rfl
theorem cf35 : ((Try.prog.funcs[35]?).map fun fn => (fn.name != "runtime.NumGoroutine") && fn.body.isSome) = some true := by kernel_rfl
theorem cf36 : ((Try.prog.funcs[36]?).map fun fn => (fn.name != "runtime.NumGoroutine") && fn.body.isSome) = some true := by kernel_rfl
theorem cf65 : ((Try.prog.funcs[65]?).map fun fn => (fn.name != "runtime.NumGoroutine") && fn.body.isSome) = some true := by kernel_rfl
theorem cf76 : ((Try.prog.funcs[76]?).map fun fn => (fn.name != "runtime.NumGoroutine") && fn.body.isSome) = some true := by kernel_rfl
theorem cf77 : ((Try.prog.funcs[77]?).map fun fn => (fn.name != "runtime.NumGoroutine") && fn.body.isSome) = some true := by kernel_rfl
theorem cf78 : ((Try.prog.funcs[78]?).map fun fn => (fn.name != "runtime.NumGoroutine") && fn.body.isSome) = some true := by kernel_rfl
theorem cf79 : ((Try.prog.funcs[79]?).map fun fn => (fn.name != "runtime.NumGoroutine") && fn.body.isSome) = some true := by kernel_rfl
theorem cf80 : ((Try.prog.funcs[80]?).map fun fn => (fn.name != "runtime.NumGoroutine") && fn.body.isSome) = some true := by kernel_rfl
theorem cf81 : ((Try.prog.funcs[81]?).map fun fn => (fn.name != "runtime.NumGoroutine") && fn.body.isSome) = some true := by kernel_rfl
theorem cf82 : ((Try.prog.funcs[82]?).map fun fn => (fn.name != "runtime.NumGoroutine") && fn.body.isSome) = some true := by kernel_rfl
theorem cf83 : ((Try.prog.funcs[83]?).map fun fn => (fn.name != "runtime.NumGoroutine") && fn.body.isSome) = some true := by kernel_rfl
theorem cf84 : ((Try.prog.funcs[84]?).map fun fn => (fn.name != "runtime.NumGoroutine") && fn.body.isSome) = some true := by kernel_rfl
theorem cf85 : ((Try.prog.funcs[85]?).map fun fn => (fn.name != "runtime.NumGoroutine") && fn.body.isSome) = some true := by kernel_rfl
theorem cf86 : ((Try.prog.funcs[86]?).map fun fn => (fn.name != "runtime.NumGoroutine") && fn.body.isSome) = some true := by kernel_rfl
theorem cf87 : ((Try.prog.funcs[87]?).map fun fn => (fn.name != "runtime.NumGoroutine") && fn.body.isSome) = some true := by kernel_rfl
theorem cf88 : ((Try.prog.funcs[88]?).map fun fn => (fn.name != "runtime.NumGoroutine") && fn.body.isSome) = some true := by kernel_rfl
theorem cf89 : ((Try.prog.funcs[89]?).map fun fn => (fn.name != "runtime.NumGoroutine") && fn.body.isSome) = some true := by kernel_rfl
theorem cf90 : ((Try.prog.funcs[90]?).map fun fn => (fn.name != "runtime.NumGoroutine") && fn.body.isSome) = some true := by kernel_rfl
theorem cf91 : ((Try.prog.funcs[91]?).map fun fn => (fn.name != "runtime.NumGoroutine") && fn.body.isSome) = some true := by kernel_rfl
theorem cf104 : ((Try.prog.funcs[104]?).map fun fn => (fn.name != "runtime.NumGoroutine") && fn.body.isSome) = some true := by kernel_rfl
theorem cf111 : ((Try.prog.funcs[111]?).map fun fn => (fn.name != "runtime.NumGoroutine") && fn.body.isSome) = some true := by kernel_rfl
theorem cf112 : ((Try.prog.funcs[112]?).map fun fn => (fn.name != "runtime.NumGoroutine") && fn.body.isSome) = some true := by kernel_rfl
theorem cf117 : ((Try.prog.funcs[117]?).map fun fn => (fn.name != "runtime.NumGoroutine") && fn.body.isSome) = some true := by kernel_rfl
theorem cf118 : ((Try.prog.funcs[118]?).map fun fn => (fn.name != "runtime.NumGoroutine") && fn.body.isSome) = some true := by kernel_rfl
theorem cf119 : ((Try.prog.funcs[119]?).map fun fn => (fn.name != "runtime.NumGoroutine") && fn.body.isSome) = some true := by kernel_rfl
theorem cf120 : ((Try.prog.funcs[120]?).map fun fn => (fn.name != "runtime.NumGoroutine") && fn.body.isSome) = some true := by kernel_rfl
theorem cf121 : ((Try.prog.funcs[121]?).map fun fn => (fn.name != "runtime.NumGoroutine") && fn.body.isSome) = some true := by kernel_rfl
theorem cf122 : ((Try.prog.funcs[122]?).map fun fn => (fn.name != "runtime.NumGoroutine") && fn.body.isSome) = some true := by kernel_rfl
theorem cf123 : ((Try.prog.funcs[123]?).map fun fn => (fn.name != "runtime.NumGoroutine") && fn.body.isSome) = some true := by kernel_rfl
theorem cf124 : ((Try.prog.funcs[124]?).map fun fn => (fn.name != "runtime.NumGoroutine") && fn.body.isSome) = some true := by kernel_rfl
theorem cf125 : ((Try.prog.funcs[125]?).map fun fn => (fn.name != "runtime.NumGoroutine") && fn.body.isSome) = some true := by kernel_rfl
theorem cf126 : ((Try.prog.funcs[126]?).map fun fn => (fn.name != "runtime.NumGoroutine") && fn.body.isSome) = some true := by kernel_rfl
theorem cf127 : ((Try.prog.funcs[127]?).map fun fn => (fn.name != "runtime.NumGoroutine") && fn.body.isSome) = some true := by kernel_rfl
theorem cf128 : ((Try.prog.funcs[128]?).map fun fn => (fn.name != "runtime.NumGoroutine") && fn.body.isSome) = some true := by kernel_rfl
theorem cf129 : ((Try.prog.funcs[129]?).map fun fn => (fn.name != "runtime.NumGoroutine") && fn.body.isSome) = some true := by kernel_rfl
theorem cf130 : ((Try.prog.funcs[130]?).map fun fn => (fn.name != "runtime.NumGoroutine") && fn.body.isSome) = some true := by kernel_rfl
theorem cf131 : ((Try.prog.funcs[131]?).map fun fn => (fn.name != "runtime.NumGoroutine") && fn.body.isSome) = some true := by kernel_rfl
theorem cf133 : ((Try.prog.funcs[133]?).map fun fn => (fn.name != "runtime.NumGoroutine") && fn.body.isSome) = some true := by kernel_rfl
theorem cf140 : ((Try.prog.funcs[140]?).map fun fn => (fn.name != "runtime.NumGoroutine") && fn.body.isSome) = some true := by kernel_rfl
theorem cf141 : ((Try.prog.funcs[141]?).map fun fn => (fn.name != "runtime.NumGoroutine") && fn.body.isSome) = some true := by kernel_rfl
theorem cf142 : ((Try.prog.funcs[142]?).map fun fn => (fn.name != "runtime.NumGoroutine") && fn.body.isSome) = some true := by kernel_rfl
theorem cf143 : ((Try.prog.funcs[143]?).map fun fn => (fn.name != "runtime.NumGoroutine") && fn.body.isSome) = some true := by kernel_rfl
theorem cf144 : ((Try.prog.funcs[144]?).map fun fn => (fn.name != "runtime.NumGoroutine") && fn.body.isSome) = some true := by kernel_rfl
theorem cf145 : ((Try.prog.funcs[145]?).map fun fn => (fn.name != "runtime.NumGoroutine") && fn.body.isSome) = some true := by kernel_rfl
theorem cf146 : ((Try.prog.funcs[146]?).map fun fn => (fn.name != "runtime.NumGoroutine") && fn.body.isSome) = some true := by kernel_rfl
theorem cf147 : ((Try.prog.funcs[147]?).map fun fn => (fn.name != "runtime.NumGoroutine") && fn.body.isSome) = some true := by kernel_rfl
theorem cf148 : ((Try.prog.funcs[148]?).map fun fn => (fn.name != "runtime.NumGoroutine") && fn.body.isSome) = some true := by kernel_rfl
theorem cf149 : ((Try.prog.funcs[149]?).map fun fn => (fn.name != "runtime.NumGoroutine") && fn.body.isSome) = some true := by kernel_rfl
theorem cf151 : ((Try.prog.funcs[151]?).map fun fn => (fn.name != "runtime.NumGoroutine") && fn.body.isSome) = some true := by kernel_rfl
theorem cf152 : ((Try.prog.funcs[152]?).map fun fn => (fn.name != "runtime.NumGoroutine") && fn.body.isSome) = some true := by kernel_rfl
theorem cf153 : ((Try.prog.funcs[153]?).map fun fn => (fn.name != "runtime.NumGoroutine") && fn.body.isSome) = some true := by kernel_rfl
theorem cf154 : ((Try.prog.funcs[154]?).map fun fn => (fn.name != "runtime.NumGoroutine") && fn.body.isSome) = some true := by kernel_rfl
theorem cf155 : ((Try.prog.funcs[155]?).map fun fn => (fn.name != "runtime.NumGoroutine") && fn.body.isSome) = some true := by kernel_rfl
theorem cf156 : ((Try.prog.funcs[156]?).map fun fn => (fn.name != "runtime.NumGoroutine") && fn.body.isSome) = some true := by kernel_rfl
theorem cf158 : ((Try.prog.funcs[158]?).map fun fn => (fn.name != "runtime.NumGoroutine") && fn.body.isSome) = some true := by kernel_rfl
theorem cf159 : ((Try.prog.funcs[159]?).map fun fn => (fn.name != "runtime.NumGoroutine") && fn.body.isSome) = some true := by kernel_rfl
theorem cf167 : ((Try.prog.funcs[167]?).map fun fn => (fn.name != "runtime.NumGoroutine") && fn.body.isSome) = some true := by kernel_rfl
theorem cf168 : ((Try.prog.funcs[168]?).map fun fn => (fn.name != "runtime.NumGoroutine") && fn.body.isSome) = some true := by kernel_rfl
theorem one2 : oneTy Try.prog 2 := by unfold oneTy; kernel_rfl
theorem one9 : oneTy Try.prog 9 := by unfold oneTy; kernel_rfl
theorem one25 : oneTy Try.prog 25 := by unfold oneTy; kernel_rfl
theorem one44 : oneTy Try.prog 44 := by unfold oneTy; kernel_rfl
theorem one50 : oneTy Try.prog 50 := by unfold oneTy; kernel_rfl
theorem one63 : oneTy Try.prog 63 := by unfold oneTy; kernel_rfl
theorem one151 : oneTy Try.prog 151 := by unfold oneTy; kernel_rfl
theorem sz2 : (Try.prog.info? 2).map (·.size) = some 1 := by kernel_rfl
theorem sz9 : (Try.prog.info? 9).map (·.size) = some 1 := by kernel_rfl
theorem sz44 : (Try.prog.info? 44).map (·.size) = some 1 := by kernel_rfl
theorem sz50 : (Try.prog.info? 50).map (·.size) = some 1 := by kernel_rfl
theorem ti2 : TI Try.prog 2 1 (.int .i64 0) 8 := by unfold TI; kernel_rfl
theorem ti5 : TI Try.prog 5 1 (.int .u8 0) 1 := by unfold TI; kernel_rfl
theorem ti25 : TI Try.prog 25 1 (.slice none 0 0) 24 := by unfold TI; kernel_rfl
theorem u2 : Try.prog.underlying 2 = some (.int .i64) := by kernel_rfl
theorem u3 : Try.prog.underlying 3 = some (.int .i64) := by kernel_rfl
theorem u4 : Try.prog.underlying 4 = some (.bool) := by kernel_rfl
theorem u5 : Try.prog.underlying 5 = some (.int .u8) := by kernel_rfl
theorem u9 : Try.prog.underlying 9 = some (.string) := by kernel_rfl
theorem u22 : Try.prog.underlying 22 = some (.slice 5) := by kernel_rfl
theorem u25 : Try.prog.underlying 25 = some (.slice 2) := by kernel_rfl
theorem u40 : Try.prog.underlying 40 = some (.slice 25) := by kernel_rfl
theorem u44 : Try.prog.underlying 44 = some (.slice 46) := by kernel_rfl
theorem u50 : Try.prog.underlying 50 = some (.slice 49) := by kernel_rfl
theorem u63 : Try.prog.underlying 63 = some (.slice 153) := by kernel_rfl
theorem u151 : Try.prog.underlying 151 = some (.slice 191) := by kernel_rfl
theorem agg46 : aggTy Try.prog 46 5 = true := by kernel_rfl
theorem zr46 : (Try.prog.info? 46).map (·.zero) = some (some (.agg #[.int .i64 0, .int .i64 0, .int .i64 0, .int .i64 0, .slice none 0 0])) := by kernel_rfl
theorem tiS46 : TI Try.prog 46 5 (.agg #[.int .i64 0, .int .i64 0, .int .i64 0, .int .i64 0, .slice none 0 0]) 56 := by unfold TI; kernel_rfl
theorem fd46_0 : fdO Try.prog 46 0 0 = true := by kernel_rfl
theorem fd46_1 : fdO Try.prog 46 1 1 = true := by kernel_rfl
theorem fd46_2 : fdO Try.prog 46 2 2 = true := by kernel_rfl
theorem fd46_3 : fdO Try.prog 46 3 3 = true := by kernel_rfl
theorem fd46_4 : fdO Try.prog 46 4 4 = true := by kernel_rfl
theorem agg49 : aggTy Try.prog 49 3 = true := by kernel_rfl
theorem zr49 : (Try.prog.info? 49).map (·.zero) = some (some (.agg #[.string ByteArray.empty, .int .i64 0, .slice none 0 0])) := by kernel_rfl
theorem tiS49 : TI Try.prog 49 3 (.agg #[.string ByteArray.empty, .int .i64 0, .slice none 0 0]) 48 := by unfold TI; kernel_rfl
theorem fd49_0 : fdO Try.prog 49 0 0 = true := by kernel_rfl
theorem fd49_1 : fdO Try.prog 49 1 1 = true := by kernel_rfl
theorem fd49_2 : fdO Try.prog 49 2 2 = true := by kernel_rfl
theorem agg52 : aggTy Try.prog 52 1 = true := by kernel_rfl
theorem zr52 : (Try.prog.info? 52).map (·.zero) = some (some (.agg #[.slice none 0 0])) := by kernel_rfl
theorem fd52_0 : fdO Try.prog 52 0 0 = true := by kernel_rfl
theorem agg65 : aggTy Try.prog 65 1 = true := by kernel_rfl
theorem fd65_0 : fdO Try.prog 65 0 0 = true := by kernel_rfl
theorem agg153 : aggTy Try.prog 153 3 = true := by kernel_rfl
theorem tiS153 : TI Try.prog 153 3 (.agg #[.string ByteArray.empty, .int .i64 0, .slice none 0 0]) 48 := by unfold TI; kernel_rfl
theorem fd153_0 : fdO Try.prog 153 0 0 = true := by kernel_rfl
theorem fd153_1 : fdO Try.prog 153 1 1 = true := by kernel_rfl
theorem fd153_2 : fdO Try.prog 153 2 2 = true := by kernel_rfl
theorem agg182 : aggTy Try.prog 182 2 = true := by kernel_rfl
theorem fd182_0 : fdO Try.prog 182 0 0 = true := by kernel_rfl
theorem fd182_1 : fdO Try.prog 182 1 1 = true := by kernel_rfl
theorem agg191 : aggTy Try.prog 191 5 = true := by kernel_rfl
theorem tiS191 : TI Try.prog 191 5 (.agg #[.int .i64 0, .int .i64 0, .int .i64 0, .int .i64 0, .slice none 0 0]) 56 := by unfold TI; kernel_rfl
theorem fd191_0 : fdO Try.prog 191 0 0 = true := by kernel_rfl
theorem fd191_1 : fdO Try.prog 191 1 1 = true := by kernel_rfl
theorem fd191_2 : fdO Try.prog 191 2 2 = true := by kernel_rfl
theorem fd191_3 : fdO Try.prog 191 3 3 = true := by kernel_rfl
theorem fd191_4 : fdO Try.prog 191 4 4 = true := by kernel_rfl
end Go.Proofs.Ytjnbnlniafmblaa
namespace Go.Proofs.Ytjnbnlniafmblaa
open Go Go.RowKit
set_option linter.unusedVariables false
set_option linter.unusedSimpArgs false
set_option maxHeartbeats 4000000
set_option maxRecDepth 100000
attribute [local irreducible] LW
theorem c_impl_within (w : World) (n : Int) (low : Int) (high : Int) (_hn : -9223372036854775808 ≤ n ∧ n ≤ 9223372036854775807) (_hlow : -9223372036854775808 ≤ low ∧ low ≤ 9223372036854775807) (_hhigh : -9223372036854775808 ≤ high ∧ high ≤ 9223372036854775807)  :
  Calls Try.prog 83 #[.int .i64 n,.int .i64 low,.int .i64 high] w (fun e w' => e = .returned (.bool (decide (low ≤ n) && decide (n ≤ high))) ∧ w' = w) := by
 refine calls_mk [.int .i64 n,.int .i64 low,.int .i64 high] 15 Try.func83 rfl rfl sM ?_
 have hE0 : w = w := rfl
 refine wp_seq (wp_plain _ [0] rfl (lw_tvn 1 rfl (wp_seq (wp_plain _ [0,0,0,0,0,0,0,0,0] rfl (lw_tv 2 rfl ?_)))))
 by_cases hc1 : low ≤ n
 ·
  exact q_geq true rfl rfl (decide_eq_true hc1) zN (lw_tv 3 rfl (q_leq (decide (n ≤ high)) rfl rfl rfl (zS (e := 10) rfl rfl rfl) (lw_tvn 2 rfl (wp_ret (post_ret [6] rfl (.bool (decide (n ≤ high))) rfl ⟨(ret_bool (by simp [*])),hE0⟩)))))
 ·
  exact q_geq false rfl rfl (decide_eq_false hc1) zN (lw_tvn 6 rfl (wp_ret (post_ret [6] rfl (.bool false) rfl ⟨(ret_bool (by simp [*])),hE0⟩)))
theorem c_spec_l00In (w : World) (n : Int) (low : Int) (high : Int) (_hn : -9223372036854775808 ≤ n ∧ n ≤ 9223372036854775807) (_hlow : -9223372036854775808 ≤ low ∧ low ≤ 9223372036854775807) (_hhigh : -9223372036854775808 ≤ high ∧ high ≤ 9223372036854775807)  :
  Calls Try.prog 79 #[.int .i64 n,.int .i64 low,.int .i64 high] w (fun e w' => e = .returned (.bool (decide (low ≤ n) && decide (n ≤ high))) ∧ w' = w) := by
 refine calls_mk [.int .i64 n,.int .i64 low,.int .i64 high] 15 Try.func79 rfl rfl sM ?_
 have hE0 : w = w := rfl
 refine wp_seq (wp_plain _ [0] rfl (lw_tvn 1 rfl (wp_seq (wp_plain _ [0,0,0,0,0,0,0,0,0] rfl (lw_tv 2 rfl ?_)))))
 by_cases hc1 : low ≤ n
 ·
  exact q_geq true rfl rfl (decide_eq_true hc1) zN (lw_tv 3 rfl (q_leq (decide (n ≤ high)) rfl rfl rfl (zS (e := 10) rfl rfl rfl) (lw_tvn 2 rfl (wp_ret (post_ret [6] rfl (.bool (decide (n ≤ high))) rfl ⟨(ret_bool (by simp [*])),hE0⟩)))))
 ·
  exact q_geq false rfl rfl (decide_eq_false hc1) zN (lw_tvn 6 rfl (wp_ret (post_ret [6] rfl (.bool false) rfl ⟨(ret_bool (by simp [*])),hE0⟩)))
theorem c_impl_isNumber (w : World) (n : Int) (_hn : -9223372036854775808 ≤ n ∧ n ≤ 9223372036854775807)  :
  Calls Try.prog 112 #[.int .i64 n] w (fun e w' => e = .returned (.bool (isN n)) ∧ w' = w) := by
 refine calls_mk [.int .i64 n] 5 Try.func112 rfl rfl sM ?_
 have hE0 : w = w := rfl
 exact wp_seq (wp_plain _ [0] rfl (lw_tvn 1 rfl (wp_seq (wp_plain _ [0,0,0] rfl (lw_tv 1 rfl (lw_callq 83 [] [] [(.int .i64 n),(.int .i64 ((0 :Nat):Int)),(.int .i64 ((1000002 :Nat):Int))] rfl rfl cf83 zN (.bool (decide (((0 :Nat):Int) ≤ n) && decide (n ≤ ((1000002 :Nat):Int)))) (fun wq => c_impl_within wq _ _ _ _hn oM oM) (lw_tvn 1 rfl (wp_ret (post_ret [2] rfl (.bool (decide (((0 :Nat):Int) ≤ n) && decide (n ≤ ((1000002 :Nat):Int)))) rfl ⟨(ret_bool (by unfold isN; rfl)),hE0⟩)))))))))
theorem c_spec_l01Number (w : World) (n : Int) (_hn : -9223372036854775808 ≤ n ∧ n ≤ 9223372036854775807)  :
  Calls Try.prog 168 #[.int .i64 n] w (fun e w' => e = .returned (.bool (isN n)) ∧ w' = w) := by
 refine calls_mk [.int .i64 n] 5 Try.func168 rfl rfl sM ?_
 have hE0 : w = w := rfl
 exact wp_seq (wp_plain _ [0] rfl (lw_tvn 1 rfl (wp_seq (wp_plain _ [0,0,0] rfl (lw_tv 1 rfl (lw_callq 79 [] [] [(.int .i64 n),(.int .i64 ((0 :Nat):Int)),(.int .i64 ((1000002 :Nat):Int))] rfl rfl cf79 zN (.bool (decide (((0 :Nat):Int) ≤ n) && decide (n ≤ ((1000002 :Nat):Int)))) (fun wq => c_spec_l00In wq _ _ _ _hn oM oM) (lw_tvn 1 rfl (wp_ret (post_ret [2] rfl (.bool (decide (((0 :Nat):Int) ≤ n) && decide (n ≤ ((1000002 :Nat):Int)))) rfl ⟨(ret_bool (by unfold isN; rfl)),hE0⟩)))))))))
theorem c_impl_areNumbers_1 (w : World) (n : Int) (_hn : -9223372036854775808 ≤ n ∧ n ≤ 9223372036854775807)  :
  Calls Try.prog 111 #[.int .i64 n] w (fun e w' => e = .returned (.bool (!isN n)) ∧ Ext w w') := by
 refine calls_mk [.int .i64 n] 6 Try.func111 rfl rfl sM ?_
 have hE0 : Ext w w := Ext.refl w
 exact wp_seq (wp_plain _ [0] rfl (lw_tvn 1 rfl (wp_seq (wp_plain _ [0,0,0,0] rfl (lw_tv 1 rfl (lw_callq 112 [] [] [(.int .i64 n)] rfl rfl cf112 zN (.bool (isN n)) (fun wq => c_impl_isNumber wq _ _hn) (q_not (!(isN n)) rfl rfl zN (lw_tvn 1 rfl (wp_ret (post_ret [2] rfl (.bool (!(isN n))) rfl ⟨rfl,hE0⟩))))))))))
end Go.Proofs.Ytjnbnlniafmblaa
namespace Go.Proofs.Ytjnbnlniafmblaa
open Go Go.RowKit
set_option linter.unusedVariables false
set_option linter.unusedSimpArgs false
set_option maxHeartbeats 4000000
set_option maxRecDepth 100000
attribute [local irreducible] LW
def ZS (D : Nat) : Prop := ∀ (w : World) (d : Nat) (va : Value) (a : List Ex) (left : Int) (ha : RN [] (rdS 5 (rEx d)) w.heap va a) (_hleft : -9223372036854775808 ≤ left ∧ left ≤ 9223372036854775807) (hL : 0 ≤ left ∧ left ≤ 1048576) (hd : d ≤ D), Calls Try.prog 140 #[va, .int .i64 left] w (fun e w' => e = .returned (.int .i64 (szV (Ex.sizes a) left)) ∧ Ext w w')
theorem c_laws_szExpr (w : World) (dex : Nat) (ve : Value) (ex : Ex) (left : Int) (hex : RX [] dex w.heap ve ex) (_hleft : -9223372036854775808 ≤ left ∧ left ≤ 9223372036854775807) (hL : 0 ≤ left ∧ left ≤ 1048576) (IH : ZS dex) :
  Calls Try.prog 151 #[(.agg #[(.int .i64 ex.kind),(.int .i64 ex.num),(.int .i64 ex.pick),(.int .i64 ex.count),ve]),.int .i64 left] w (fun e w' => e = .returned (.int .i64 (szV (Ex.sizes ex.kids) left)) ∧ Ext w w') := by
 refine calls_mk [(.agg #[(.int .i64 ex.kind),(.int .i64 ex.num),(.int .i64 ex.pick),(.int .i64 ex.count),ve]),.int .i64 left] 12 Try.func151 rfl rfl sM ?_
 have hE0 : Ext w w := Ext.refl w
 have hl_ve := hex.rn.lenle
 unfold maxLen at hl_ve
 refine wp_seq (wp_plain _ [3,0] rfl (r_boxA (cs := #[(.int .i64 ex.kind),(.int .i64 ex.num),(.int .i64 ex.pick),(.int .i64 ex.count),ve]) rfl zN fun w1 hX1 hz1 hB1 => ?_))
 have hzs1:=hX1.size
 have hE1:=hE0.trans hX1
 replace hB1 : BX w1.heap w.heap.size [(.int .i64 ex.kind),(.int .i64 ex.num),(.int .i64 ex.pick),(.int .i64 ex.count),ve] := hB1
 refine lw_tvn 1 rfl (wp_seq (wp_plain _ [0,2,0,3,0] rfl (q_fldP (p := (.pointer (some ⟨w.heap.size,0,none⟩))) (b := w.heap.size) (o := 0) 4 fd191_4 rfl rfl zN (q_load (p := (padd (.pointer (some ⟨w.heap.size,0,none⟩)) 4)) (.inr rfl) ve one151 rfl (hB1.ldp (i := 4) sM) zN (lw_tv 1 rfl (lw_call 140 [] [] [ve,(.int .i64 left)] rfl rfl cf140 zN (IH _ dex ve (ex.kids) _ (hex.rn.ext (good_rdS (good_rEx dex)) hE1) _hleft oM oM) ?_))))))
 rintro e2 w2 ⟨rfl,hX2⟩
 refine ⟨_,rfl,hX2,?_⟩
 have hzs2:=hX2.size
 have hE2:=hE1.trans hX2
 have hB1x2 := hB1.ext hX2
 refine lw_tvn 1 rfl (wp_seq (wp_seq (wp_plain _ [0,0] rfl (lw_tv 1 rfl ?_))))
 by_cases hc3 : szV (Ex.sizes ex.kids) left < ((0 :Nat):Int)
 ·
  exact q_lss true rfl rfl (decide_eq_true hc3) zN (lw_nil (c_cond_t rfl (wp_seq (wp_plain _ [0] rfl (lw_tvn 1 rfl (wp_ret (t_ret (post_ret [4] rfl (.int .i64 (-1)) rfl ⟨(by have hn := szV_neg (t := Ex.sizes ex.kids) (x := left) oM oM; exact ret_int (szV_1 oM)),hE2⟩))))))))
 ·
  exact q_lss false rfl rfl (decide_eq_false hc3) zN (lw_nil (c_cond_f rfl (wp_skip (wp_seq (wp_plain _ [0,0] rfl (lw_tvn 2 rfl (wp_ret (post_ret [4] rfl (.int .i64 (szV (Ex.sizes ex.kids) left)) rfl ⟨(ret_int rfl),hE2⟩))))))))
theorem c_laws_szExprS (w : World) (da : Nat) (va : Value) (a : List Ex) (left : Int) (ha : RN [] (rdS 5 (rEx da)) w.heap va a) (_hleft : -9223372036854775808 ≤ left ∧ left ≤ 9223372036854775807) (hL : 0 ≤ left ∧ left ≤ 1048576) :
  Calls Try.prog 140 #[va,.int .i64 left] w (fun e w' => e = .returned (.int .i64 (szV (Ex.sizes a) left)) ∧ Ext w w') := by
 induction da using Nat.strongRecOn generalizing w va a left
 rename_i da ih
 refine calls_mk [va,.int .i64 left] 27 Try.func140 rfl rfl sM ?_
 have hE0 : Ext w w := Ext.refl w
 have hl_va := ha.lenle
 unfold maxLen at hl_va
 have hge0 := sizes_ge a 0
 refine wp_seq (wp_plain _ [0] rfl (lw_tvn 1 rfl (wp_seq (wp_plain _ [0,0,0,0,0] rfl (lw_tv 2 rfl (q_len (v := va) u151 rfl ha.isSl zN (q_sub (left - ((a.length :Nat):Int)) rfl rfl (w64 oM oM) zN (lw_tvn 1 rfl (wp_seq (wp_seq (wp_plain _ [0,0] rfl (lw_tv 1 rfl ?_))))))))))))
 by_cases hc1 : left - ((a.length :Nat):Int) < ((0 :Nat):Int)
 ·
  exact q_lss true rfl rfl (decide_eq_true hc1) zN (lw_nil (c_cond_t rfl (wp_seq (wp_plain _ [0] rfl (lw_tvn 1 rfl (wp_ret (t_ret (post_ret [4] rfl (.int .i64 (-1)) rfl ⟨(by exact ret_int (szV_1 oM)),hE0⟩))))))))
 ·
  refine q_lss false rfl rfl (decide_eq_false hc1) zN (lw_nil (c_cond_f rfl (wp_skip (wp_seq (wp_seq (wp_plain _ [0] rfl (lw_tvn 1 rfl (wp_block ?_))))))))
  refine c_loop (S := Nat × Int) (fun (⟨k,x⟩ : Nat × Int) => ([(1,(.int .i64 x)),(5,(.int .i64 ((k :Nat):Int))),(0,va)] : List (Nat × Value))) (fun (⟨k,x⟩ : Nat × Int) (W : World) => Ext w W ∧ k ≤ a.length ∧ x = left - ((a.length :Nat):Int) - ((Ex.sizes (a.take k) :Nat):Int) + ((k :Nat):Int) ∧ (0 ≤ x ∧ x ≤ 1048576)) (fun (⟨k,x⟩ : Nat × Int) => a.length - k) (0,(left - ((a.length :Nat):Int))) ⟨rfl,rfl,rfl,trivial⟩ ⟨hE0,sD,(by rw [List.take_zero,sizes_nil]; omega),oM⟩ ?_
  clear hE0
  rintro ⟨k,x⟩ ρ2 w2 ⟨hE2,hp2_0,hx,hp2_2⟩
  have hzs2 : w.heap.size ≤ w2.heap.size := hE2.size
  refine wp_seq (wp_seq (wp_plain _ [0,0,0,0] rfl (lw_tv 2 rfl (q_len (v := va) u151 rfl ha.isSl zN ?_))))
  by_cases hc3 : ((k :Nat):Int) < ((a.length :Nat):Int)
  ·
   refine q_lss true rfl rfl (decide_eq_true hc3) zN (lw_nil (c_cond_t rfl (wp_skip (wp_seq (wp_block (wp_seq (wp_plain _ [0,0,0,2,0,3,0] rfl ?_)))))))
   have hst := sizes_step (l := a) (k := k) oM
   have hge := sizes_ge a (k + 1)
   have hsk := size_kids (a.getD k Ex.zero)
   refine lw_tv 2 rfl (q_idx (v := va) k u151 tiS191 rfl rfl ha.isSl rfl sD zN ?_)
   obtain ⟨cs4,hr4,hl4⟩ := ha.get (good_rEx da) Ex.zero (k := k) sD
   obtain ⟨dd4,ve4,hd4,rfl,hx4⟩ := RX.of hr4
   have hln4 := hx4.rn.lenle
   unfold maxLen at hln4
   refine q_loadA (p := eptr va k 5) (.inr rfl) [(.int .i64 ((a.getD k Ex.zero).kind)),(.int .i64 ((a.getD k Ex.zero).num)),(.int .i64 ((a.getD k Ex.zero).pick)),(.int .i64 ((a.getD k Ex.zero).count)),ve4] agg191 rfl (fun wq9 hw9 => hl4 wq9 (Chg.of_ext [] (hE2.trans hw9))) rfl zN (lw_tv 1 rfl (lw_call 151 [] [] [(.agg #[(.int .i64 ((a.getD k Ex.zero).kind)),(.int .i64 ((a.getD k Ex.zero).num)),(.int .i64 ((a.getD k Ex.zero).pick)),(.int .i64 ((a.getD k Ex.zero).count)),ve4]),(.int .i64 x)] rfl rfl cf151 zN (c_laws_szExpr _ dd4 ve4 (a.getD k Ex.zero) _ (hx4.ext hE2) oM oM (by intro w9 d9 v9 a9 l9 h1 h2 h3 h4; exact ih d9 oM w9 v9 a9 l9 h1 h2 h3)) ?_))
   rintro e5 w5 ⟨rfl,hX5⟩
   refine ⟨_,rfl,hX5,?_⟩
   have hzs5:=hX5.size
   have hE5:=hE2.trans hX5
   refine lw_tvn 1 rfl (wp_seq (wp_plain _ [0,0] rfl ?_))
   have hzr := szV_rng (Ex.sizes (a.getD k Ex.zero).kids) (x := x) oM
   refine lw_tv 1 rfl ?_
   by_cases hc6 : szV (Ex.sizes (a.getD k Ex.zero).kids) x < ((0 :Nat):Int)
   ·
    exact q_lss true rfl rfl (decide_eq_true hc6) zN (lw_nil (c_cond_t rfl (wp_seq (wp_plain _ [0] rfl (lw_tvn 1 rfl (wp_ret (b_ret (t_ret (t_ret (b_ret (t_ret (post_ret [4] rfl (.int .i64 (-1)) rfl ⟨(by have hn := szV_neg (t := Ex.sizes (a.getD k Ex.zero).kids) (x := x) oM oM; exact ret_int (szV_1 oM)),hE5⟩))))))))))))
   ·
    refine q_lss false rfl rfl (decide_eq_false hc6) zN (lw_nil (c_cond_f rfl (wp_skip (wp_plain _ [0,0,0] rfl ?_))))
    have hzp := szV_pos (t := Ex.sizes (a.getD k Ex.zero).kids) (x := x) oM
    refine lw_tv 1 rfl (q_add ((k + 1 :Nat):Int) rfl rfl (w64n oM sD) zN (lw_tvn 1 rfl ?_))
    exact ⟨((k + 1),(szV (Ex.sizes (a.getD k Ex.zero).kids) x)),_,rfl,⟨rfl,rfl,rfl,trivial⟩,⟨hE5,sD,oM,oM⟩,by first | omega | (dsimp only; omega)⟩
  ·
   exact q_lss false rfl rfl (decide_eq_false hc3) zN (lw_nil (c_cond_f rfl (wp_exit (t_exit (t_exit (c_exit_here (wp_seq (wp_plain _ [0,0] rfl (lw_tvn 2 rfl (wp_ret (post_ret [4] rfl (.int .i64 x) rfl ⟨(by have hsa := sizes_all (l := a) (k := k) oM; exact ret_int (szV_0 oM oM)),hE2⟩)))))))))))
theorem c_laws_szFunc (w : World) (dg : Nat) (vf : Value) (g : Fn) (left : Int) (hg : RF [] dg w.heap vf g) (_hleft : -9223372036854775808 ≤ left ∧ left ≤ 9223372036854775807) (hL : 0 ≤ left ∧ left ≤ 1048576) (hnm : g.name.size ≤ 9223372036854775807) :
  Calls Try.prog 117 #[(.agg #[(.string g.name),(.int .i64 g.params),vf]),.int .i64 left] w (fun e w' => e = .returned (.int .i64 (szV g.sz left)) ∧ Ext w w') := by
 refine calls_mk [(.agg #[(.string g.name),(.int .i64 g.params),vf]),.int .i64 left] 19 Try.func117 rfl rfl sM ?_
 have hE0 : Ext w w := Ext.refl w
 have hl_vf := hg.rn.lenle
 unfold maxLen at hl_vf
 have hgs : g.sz = g.name.size + Ex.sizes g.outs := rfl
 refine wp_seq (wp_plain _ [3,0] rfl (r_boxA (cs := #[(.string g.name),(.int .i64 g.params),vf]) rfl zN fun w1 hX1 hz1 hB1 => ?_))
 have hzs1:=hX1.size
 have hE1:=hE0.trans hX1
 replace hB1 : BX w1.heap w.heap.size [(.string g.name),(.int .i64 g.params),vf] := hB1
 refine lw_tvn 1 rfl (wp_seq (wp_plain _ [0,0,2,0,0,0] rfl (lw_tv 1 rfl (q_fldP (p := (.pointer (some ⟨w.heap.size,0,none⟩))) (b := w.heap.size) (o := 0) 0 fd153_0 rfl rfl zN (q_load (p := (padd (.pointer (some ⟨w.heap.size,0,none⟩)) 0)) (.inr rfl) (.string g.name) one9 rfl (hB1.ldp (i := 0) sM) zN (q_lens (s := g.name) u9 rfl zN (q_sub (left - ((g.name.size :Nat):Int)) rfl rfl (w64 oM oM) zN (lw_tvn 1 rfl (wp_seq (wp_seq (wp_plain _ [0,0] rfl (lw_tv 1 rfl ?_))))))))))))
 by_cases hc2 : left - ((g.name.size :Nat):Int) < ((0 :Nat):Int)
 ·
  exact q_lss true rfl rfl (decide_eq_true hc2) zN (lw_nil (c_cond_t rfl (wp_seq (wp_plain _ [0] rfl (lw_tvn 1 rfl (wp_ret (t_ret (post_ret [4] rfl (.int .i64 (-1)) rfl ⟨(by exact ret_int (szV_1 oM)),hE1⟩))))))))
 ·
  refine q_lss false rfl rfl (decide_eq_false hc2) zN (lw_nil (c_cond_f rfl (wp_skip (wp_seq (wp_plain _ [0,2,0,3,0] rfl (q_fldP (p := (.pointer (some ⟨w.heap.size,0,none⟩))) (b := w.heap.size) (o := 0) 2 fd153_2 rfl rfl zN (q_load (p := (padd (.pointer (some ⟨w.heap.size,0,none⟩)) 2)) (.inr rfl) vf one151 rfl (hB1.ldp (i := 2) sM) zN (lw_tv 1 rfl (lw_call 140 [] [] [vf,(.int .i64 (left - ((g.name.size :Nat):Int)))] rfl rfl cf140 zN (c_laws_szExprS _ dg vf (g.outs) _ (hg.rn.ext (good_rdS (good_rEx dg)) hE1) oM oM) ?_)))))))))
  rintro e3 w3 ⟨rfl,hX3⟩
  refine ⟨_,rfl,hX3,?_⟩
  have hzs3:=hX3.size
  have hE3:=hE1.trans hX3
  have hB1x3 := hB1.ext hX3
  refine lw_tvn 1 rfl (wp_seq (wp_seq (wp_plain _ [0,0] rfl ?_)))
  have hzr := szV_rng (Ex.sizes g.outs) (x := left - ((g.name.size :Nat):Int)) oM
  refine lw_tv 1 rfl ?_
  by_cases hc4 : szV (Ex.sizes g.outs) (left - ((g.name.size :Nat):Int)) < ((0 :Nat):Int)
  ·
   exact q_lss true rfl rfl (decide_eq_true hc4) zN (lw_nil (c_cond_t rfl (wp_seq (wp_plain _ [0] rfl (lw_tvn 1 rfl (wp_ret (t_ret (post_ret [4] rfl (.int .i64 (-1)) rfl ⟨(by have hn := szV_neg (t := Ex.sizes g.outs) (x := left - ((g.name.size :Nat):Int)) oM oM; exact ret_int (szV_1 oM)),hE3⟩))))))))
  ·
   refine q_lss false rfl rfl (decide_eq_false hc4) zN (lw_nil (c_cond_f rfl (wp_skip (wp_seq (wp_plain _ [0,0] rfl ?_)))))
   have hzp := szV_pos (t := Ex.sizes g.outs) (x := left - ((g.name.size :Nat):Int)) oM
   exact lw_tvn 2 rfl (wp_ret (post_ret [4] rfl (.int .i64 (szV (Ex.sizes g.outs) (left - ((g.name.size :Nat):Int)))) rfl ⟨(by exact ret_int (szV_0 oM oM)),hE3⟩))
theorem c_laws_szFuncS (w : World) (da : Nat) (va : Value) (a : List Fn) (left : Int) (ha : RP [] da w.heap va a) (_hleft : -9223372036854775808 ≤ left ∧ left ≤ 9223372036854775807) (hL : 0 ≤ left ∧ left ≤ 1048576) (hnm : ∀ k,k < a.length → (a.getD k Fn.zero).name.size ≤ 9223372036854775807) :
  Calls Try.prog 76 #[va,.int .i64 left] w (fun e w' => e = .returned (.int .i64 (szV (szP a) left)) ∧ Ext w w') := by
 refine calls_mk [va,.int .i64 left] 27 Try.func76 rfl rfl sM ?_
 have hE0 : Ext w w := Ext.refl w
 have hl_va := ha.lenle
 unfold maxLen at hl_va
 have hgs : szP a = a.length + Fn.szs a := rfl
 refine wp_seq (wp_plain _ [0] rfl (lw_tvn 1 rfl (wp_seq (wp_plain _ [0,0,0,0,0] rfl (lw_tv 2 rfl (q_len (v := va) u63 rfl ha.isSl zN (q_sub (left - ((a.length :Nat):Int)) rfl rfl (w64 oM oM) zN (lw_tvn 1 rfl (wp_seq (wp_seq (wp_plain _ [0,0] rfl (lw_tv 1 rfl ?_))))))))))))
 by_cases hc1 : left - ((a.length :Nat):Int) < ((0 :Nat):Int)
 ·
  exact q_lss true rfl rfl (decide_eq_true hc1) zN (lw_nil (c_cond_t rfl (wp_seq (wp_plain _ [0] rfl (lw_tvn 1 rfl (wp_ret (t_ret (post_ret [4] rfl (.int .i64 (-1)) rfl ⟨(by exact ret_int (szV_1 oM)),hE0⟩))))))))
 ·
  refine q_lss false rfl rfl (decide_eq_false hc1) zN (lw_nil (c_cond_f rfl (wp_skip (wp_seq (wp_seq (wp_plain _ [0] rfl (lw_tvn 1 rfl (wp_block ?_))))))))
  refine c_loop (S := Nat × Int) (fun (⟨k,x⟩ : Nat × Int) => ([(1,(.int .i64 x)),(5,(.int .i64 ((k :Nat):Int))),(0,va)] : List (Nat × Value))) (fun (⟨k,x⟩ : Nat × Int) (W : World) => Ext w W ∧ k ≤ a.length ∧ x = left - ((a.length :Nat):Int) - ((Fn.szs (a.take k) :Nat):Int) ∧ (0 ≤ x ∧ x ≤ 1048576)) (fun (⟨k,x⟩ : Nat × Int) => a.length - k) (0,(left - ((a.length :Nat):Int))) ⟨rfl,rfl,rfl,trivial⟩ ⟨hE0,sD,(by rw [List.take_zero,szs_nil]; omega),oM⟩ ?_
  clear hE0
  rintro ⟨k,x⟩ ρ2 w2 ⟨hE2,hp2_0,hx,hp2_2⟩
  have hzs2 : w.heap.size ≤ w2.heap.size := hE2.size
  refine wp_seq (wp_seq (wp_plain _ [0,0,0,0] rfl (lw_tv 2 rfl (q_len (v := va) u63 rfl ha.isSl zN ?_))))
  by_cases hc3 : ((k :Nat):Int) < ((a.length :Nat):Int)
  ·
   refine q_lss true rfl rfl (decide_eq_true hc3) zN (lw_nil (c_cond_t rfl (wp_skip (wp_seq (wp_block (wp_seq (wp_plain _ [0,0,0,2,0,3,0] rfl ?_)))))))
   have hst := szs_step (l := a) (k := k) oM
   have hge := szs_take a (k + 1)
   refine lw_tv 2 rfl (q_idx (v := va) k u63 tiS153 rfl rfl ha.isSl rfl sD zN ?_)
   obtain ⟨cs4,hr4,hl4⟩ := ha.get (good_rFn da) Fn.zero (k := k) sD
   obtain ⟨ve4,rfl,hx4⟩ := RF.of hr4
   have hln4 := hx4.rn.lenle
   unfold maxLen at hln4
   refine q_loadA (p := eptr va k 3) (.inr rfl) [(.string ((a.getD k Fn.zero).name)),(.int .i64 ((a.getD k Fn.zero).params)),ve4] agg153 rfl (fun wq9 hw9 => hl4 wq9 (Chg.of_ext [] (hE2.trans hw9))) rfl zN (lw_tv 1 rfl (lw_call 117 [] [] [(.agg #[(.string ((a.getD k Fn.zero).name)),(.int .i64 ((a.getD k Fn.zero).params)),ve4]),(.int .i64 x)] rfl rfl cf117 zN (c_laws_szFunc _ da ve4 (a.getD k Fn.zero) _ ⟨hx4.rng,(hx4.rn.ext (good_rdS (good_rEx da)) hE2)⟩ oM oM (by exact hnm k oM)) ?_))
   rintro e5 w5 ⟨rfl,hX5⟩
   refine ⟨_,rfl,hX5,?_⟩
   have hzs5:=hX5.size
   have hE5:=hE2.trans hX5
   refine lw_tvn 1 rfl (wp_seq (wp_plain _ [0,0] rfl ?_))
   have hzr := szV_rng (a.getD k Fn.zero).sz (x := x) oM
   refine lw_tv 1 rfl ?_
   by_cases hc6 : szV (a.getD k Fn.zero).sz x < ((0 :Nat):Int)
   ·
    exact q_lss true rfl rfl (decide_eq_true hc6) zN (lw_nil (c_cond_t rfl (wp_seq (wp_plain _ [0] rfl (lw_tvn 1 rfl (wp_ret (b_ret (t_ret (t_ret (b_ret (t_ret (post_ret [4] rfl (.int .i64 (-1)) rfl ⟨(by have hn := szV_neg (t := (a.getD k Fn.zero).sz) (x := x) oM oM; exact ret_int (szV_1 oM)),hE5⟩))))))))))))
   ·
    refine q_lss false rfl rfl (decide_eq_false hc6) zN (lw_nil (c_cond_f rfl (wp_skip (wp_plain _ [0,0,0] rfl ?_))))
    have hzp := szV_pos (t := (a.getD k Fn.zero).sz) (x := x) oM
    refine lw_tv 1 rfl (q_add ((k + 1 :Nat):Int) rfl rfl (w64n oM sD) zN (lw_tvn 1 rfl ?_))
    exact ⟨((k + 1),(szV (a.getD k Fn.zero).sz x)),_,rfl,⟨rfl,rfl,rfl,trivial⟩,⟨hE5,sD,oM,oM⟩,by first | omega | (dsimp only; omega)⟩
  ·
   exact q_lss false rfl rfl (decide_eq_false hc3) zN (lw_nil (c_cond_f rfl (wp_exit (t_exit (t_exit (c_exit_here (wp_seq (wp_plain _ [0,0] rfl (lw_tvn 2 rfl (wp_ret (post_ret [4] rfl (.int .i64 x) rfl ⟨(by rw [List.take_of_length_le (show a.length ≤ k by omega)] at hx; exact ret_int (szV_0 oM oM)),hE2⟩)))))))))))
theorem c_laws_szProgram (w : World) (dp : Nat) (vp : Value) (p : List Fn) (left : Int) (hp : RP [] dp w.heap vp p) (_hleft : -9223372036854775808 ≤ left ∧ left ≤ 9223372036854775807) (hL : 0 ≤ left ∧ left ≤ 1048576) (hnm : ∀ k,k < p.length → (p.getD k Fn.zero).name.size ≤ 9223372036854775807) :
  Calls Try.prog 30 #[(.agg #[vp]),.int .i64 left] w (fun e w' => e = .returned (.int .i64 (szV (szP p) left)) ∧ Ext w w') := by
 refine calls_mk [(.agg #[vp]),.int .i64 left] 12 Try.func30 rfl rfl sM ?_
 have hE0 : Ext w w := Ext.refl w
 have hl_vp := hp.lenle
 unfold maxLen at hl_vp
 refine wp_seq (wp_plain _ [3,0] rfl (r_boxA (cs := #[vp]) rfl zN fun w1 hX1 hz1 hB1 => ?_))
 have hzs1:=hX1.size
 have hE1:=hE0.trans hX1
 replace hB1 : BX w1.heap w.heap.size [vp] := hB1
 refine lw_tvn 1 rfl (wp_seq (wp_plain _ [0,2,0,3,0] rfl (q_fldP (p := (.pointer (some ⟨w.heap.size,0,none⟩))) (b := w.heap.size) (o := 0) 0 fd65_0 rfl rfl zN (q_load (p := (padd (.pointer (some ⟨w.heap.size,0,none⟩)) 0)) (.inr rfl) vp one63 rfl (hB1.ldp (i := 0) sM) zN (lw_tv 1 rfl (lw_call 76 [] [] [vp,(.int .i64 left)] rfl rfl cf76 zN (c_laws_szFuncS _ dp vp (p) _ (hp.ext (good_rdS (good_rFn dp)) hE1) _hleft oM (by exact hnm)) ?_))))))
 rintro e2 w2 ⟨rfl,hX2⟩
 refine ⟨_,rfl,hX2,?_⟩
 have hzs2:=hX2.size
 have hE2:=hE1.trans hX2
 have hB1x2 := hB1.ext hX2
 refine lw_tvn 1 rfl (wp_seq (wp_seq (wp_plain _ [0,0] rfl (lw_tv 1 rfl ?_))))
 by_cases hc3 : szV (szP p) left < ((0 :Nat):Int)
 ·
  exact q_lss true rfl rfl (decide_eq_true hc3) zN (lw_nil (c_cond_t rfl (wp_seq (wp_plain _ [0] rfl (lw_tvn 1 rfl (wp_ret (t_ret (post_ret [4] rfl (.int .i64 (-1)) rfl ⟨(by have hn := szV_neg (t := szP p) (x := left) oM oM; exact ret_int (szV_1 oM)),hE2⟩))))))))
 ·
  exact q_lss false rfl rfl (decide_eq_false hc3) zN (lw_nil (c_cond_f rfl (wp_skip (wp_seq (wp_plain _ [0,0] rfl (lw_tvn 2 rfl (wp_ret (post_ret [4] rfl (.int .i64 (szV (szP p) left)) rfl ⟨(ret_int rfl),hE2⟩))))))))
def QS (D : Nat) : Prop := ∀ (w : World) (d : Nat) (va : Value) (a : List Ex) (d' : Nat) (vb : Value) (b : List Ex) (ha : RN [] (rdS 5 (rEx d)) w.heap va a) (hb : RN [] (rdS 5 (rEx d')) w.heap vb b) (hab : b = a) (hd : d ≤ D), Calls Try.prog 149 #[va, vb] w (fun e w' => e = .returned (.bool true) ∧ Ext w w')
theorem z156_0 {p : Prop} (h : p := by first | exact ret_bool rfl | (exfalso; omega) | (exfalso; simp_all; done)) : p := h
theorem c_laws_eqExpr (w : World) (da : Nat) (va : Value) (a : Ex) (db : Nat) (vb : Value) (b : Ex) (ha : RX [] da w.heap va a) (hb : RX [] db w.heap vb b) (hab : b = a) (IH : QS da) :
  Calls Try.prog 156 #[(.agg #[(.int .i64 a.kind),(.int .i64 a.num),(.int .i64 a.pick),(.int .i64 a.count),va]),(.agg #[(.int .i64 b.kind),(.int .i64 b.num),(.int .i64 b.pick),(.int .i64 b.count),vb])] w (fun e w' => e = .returned (.bool true) ∧ Ext w w') := by
 refine calls_mk [(.agg #[(.int .i64 a.kind),(.int .i64 a.num),(.int .i64 a.pick),(.int .i64 a.count),va]),(.agg #[(.int .i64 b.kind),(.int .i64 b.num),(.int .i64 b.pick),(.int .i64 b.count),vb])] 31 Try.func156 rfl rfl sM ?_
 have hE0 : Ext w w := Ext.refl w
 have hl_va := ha.rn.lenle
 unfold maxLen at hl_va
 have hl_vb := hb.rn.lenle
 unfold maxLen at hl_vb
 have hk1 : b.kind = a.kind := by rw [hab]
 have hk2 : b.num = a.num := by rw [hab]
 have hk3 : b.pick = a.pick := by rw [hab]
 have hk4 : b.count = a.count := by rw [hab]
 refine wp_seq (wp_plain _ [3,3,0] rfl (r_boxA (cs := #[(.int .i64 a.kind),(.int .i64 a.num),(.int .i64 a.pick),(.int .i64 a.count),va]) rfl zN fun w1 hX1 hz1 hB1 => ?_))
 have hzs1:=hX1.size
 have hE1:=hE0.trans hX1
 replace hB1 : BX w1.heap w.heap.size [(.int .i64 a.kind),(.int .i64 a.num),(.int .i64 a.pick),(.int .i64 a.count),va] := hB1
 have hq3 := hB1.lt
 refine r_boxA (cs := #[(.int .i64 b.kind),(.int .i64 b.num),(.int .i64 b.pick),(.int .i64 b.count),vb]) rfl zN fun w2 hX2 hz2 hB2 => ?_
 have hzs2:=hX2.size
 have hE2:=hE1.trans hX2
 have hB1x2 := hB1.ext hX2
 replace hB2 : BX w2.heap w1.heap.size [(.int .i64 b.kind),(.int .i64 b.num),(.int .i64 b.pick),(.int .i64 b.count),vb] := hB2
 refine lw_tvn 1 rfl (wp_seq (wp_seq (wp_plain _ [0,2,0,2,0] rfl (q_fldP (p := (.pointer (some ⟨w.heap.size,0,none⟩))) (b := w.heap.size) (o := 0) 0 fd46_0 rfl rfl zN (q_load (p := (padd (.pointer (some ⟨w.heap.size,0,none⟩)) 0)) (.inr rfl) (.int .i64 a.kind) one2 rfl (hB1x2.ldp (i := 0) sM) zN (q_fldP (p := (.pointer (some ⟨w1.heap.size,0,none⟩))) (b := w1.heap.size) (o := 0) 0 fd46_0 rfl rfl zN (q_load (p := (padd (.pointer (some ⟨w1.heap.size,0,none⟩)) 0)) (.inr rfl) (.int .i64 b.kind) one2 rfl (hB2.ldp (i := 0) sM) zN ?_)))))))
 by_cases hc4 : a.kind ≠ b.kind
 ·
  exact q_neq true rfl rfl (decide_eq_true hc4) zN (lw_nil (c_cond_t rfl (wp_seq (wp_plain _ [0] rfl (lw_tvn 1 rfl (wp_ret (t_ret (post_ret [4] rfl (.bool false) rfl ⟨z156_0,hE2⟩))))))))
 ·
  refine q_neq false rfl rfl (decide_eq_false hc4) zN (lw_nil (c_cond_f rfl (wp_skip (wp_seq (wp_seq (wp_plain _ [0,2,0,2,0] rfl (q_fldP (p := (.pointer (some ⟨w.heap.size,0,none⟩))) (b := w.heap.size) (o := 0) 1 fd46_1 rfl rfl zN (q_load (p := (padd (.pointer (some ⟨w.heap.size,0,none⟩)) 1)) (.inr rfl) (.int .i64 a.num) one2 rfl (hB1x2.ldp (i := 1) sM) zN (q_fldP (p := (.pointer (some ⟨w1.heap.size,0,none⟩))) (b := w1.heap.size) (o := 0) 1 fd46_1 rfl rfl zN (q_load (p := (padd (.pointer (some ⟨w1.heap.size,0,none⟩)) 1)) (.inr rfl) (.int .i64 b.num) one2 rfl (hB2.ldp (i := 1) sM) zN ?_))))))))))
  by_cases hc5 : a.num ≠ b.num
  ·
   exact q_neq true rfl rfl (decide_eq_true hc5) zN (lw_nil (c_cond_t rfl (wp_seq (wp_plain _ [0] rfl (lw_tvn 1 rfl (wp_ret (t_ret (post_ret [4] rfl (.bool false) rfl ⟨z156_0,hE2⟩))))))))
  ·
   refine q_neq false rfl rfl (decide_eq_false hc5) zN (lw_nil (c_cond_f rfl (wp_skip (wp_seq (wp_seq (wp_plain _ [0,2,0,2,0] rfl (q_fldP (p := (.pointer (some ⟨w.heap.size,0,none⟩))) (b := w.heap.size) (o := 0) 2 fd46_2 rfl rfl zN (q_load (p := (padd (.pointer (some ⟨w.heap.size,0,none⟩)) 2)) (.inr rfl) (.int .i64 a.pick) one2 rfl (hB1x2.ldp (i := 2) sM) zN (q_fldP (p := (.pointer (some ⟨w1.heap.size,0,none⟩))) (b := w1.heap.size) (o := 0) 2 fd46_2 rfl rfl zN (q_load (p := (padd (.pointer (some ⟨w1.heap.size,0,none⟩)) 2)) (.inr rfl) (.int .i64 b.pick) one2 rfl (hB2.ldp (i := 2) sM) zN ?_))))))))))
   by_cases hc6 : a.pick ≠ b.pick
   ·
    exact q_neq true rfl rfl (decide_eq_true hc6) zN (lw_nil (c_cond_t rfl (wp_seq (wp_plain _ [0] rfl (lw_tvn 1 rfl (wp_ret (t_ret (post_ret [4] rfl (.bool false) rfl ⟨z156_0,hE2⟩))))))))
   ·
    refine q_neq false rfl rfl (decide_eq_false hc6) zN (lw_nil (c_cond_f rfl (wp_skip (wp_seq (wp_seq (wp_plain _ [0,2,0,2,0] rfl (q_fldP (p := (.pointer (some ⟨w.heap.size,0,none⟩))) (b := w.heap.size) (o := 0) 3 fd46_3 rfl rfl zN (q_load (p := (padd (.pointer (some ⟨w.heap.size,0,none⟩)) 3)) (.inr rfl) (.int .i64 a.count) one2 rfl (hB1x2.ldp (i := 3) sM) zN (q_fldP (p := (.pointer (some ⟨w1.heap.size,0,none⟩))) (b := w1.heap.size) (o := 0) 3 fd46_3 rfl rfl zN (q_load (p := (padd (.pointer (some ⟨w1.heap.size,0,none⟩)) 3)) (.inr rfl) (.int .i64 b.count) one2 rfl (hB2.ldp (i := 3) sM) zN ?_))))))))))
    by_cases hc7 : a.count ≠ b.count
    ·
     exact q_neq true rfl rfl (decide_eq_true hc7) zN (lw_nil (c_cond_t rfl (wp_seq (wp_plain _ [0] rfl (lw_tvn 1 rfl (wp_ret (t_ret (post_ret [4] rfl (.bool false) rfl ⟨z156_0,hE2⟩))))))))
    ·
     refine q_neq false rfl rfl (decide_eq_false hc7) zN (lw_nil (c_cond_f rfl (wp_skip (wp_seq (wp_seq (wp_plain _ [0,2,0,2,3,0] rfl (q_fldP (p := (.pointer (some ⟨w.heap.size,0,none⟩))) (b := w.heap.size) (o := 0) 4 fd46_4 rfl rfl zN (q_load (p := (padd (.pointer (some ⟨w.heap.size,0,none⟩)) 4)) (.inr rfl) va one44 rfl (hB1x2.ldp (i := 4) sM) zN (q_fldP (p := (.pointer (some ⟨w1.heap.size,0,none⟩))) (b := w1.heap.size) (o := 0) 4 fd46_4 rfl rfl zN (q_load (p := (padd (.pointer (some ⟨w1.heap.size,0,none⟩)) 4)) (.inr rfl) vb one44 rfl (hB2.ldp (i := 4) sM) zN (lw_call 149 [] [] [va,vb] rfl rfl cf149 zN (IH _ da va (a.kids) db vb (b.kids) (ha.rn.ext (good_rdS (good_rEx da)) hE2) (hb.rn.ext (good_rdS (good_rEx db)) hE2) (by rw [hab]) oM) ?_)))))))))))
     rintro e8 w8 ⟨rfl,hX8⟩
     refine ⟨_,rfl,hX8,?_⟩
     have hzs8:=hX8.size
     have hE8:=hE2.trans hX8
     have hB1x8 := hB1x2.ext hX8
     have hB2x8 := hB2.ext hX8
     exact q_not false rfl rfl zN (lw_nil (c_cond_f rfl (wp_skip (wp_seq (wp_plain _ [0] rfl (lw_tvn 1 rfl (wp_ret (post_ret [4] rfl (.bool true) rfl ⟨z156_0,hE8⟩))))))))
theorem c_laws_eqExprS (w : World) (da : Nat) (va : Value) (a : List Ex) (db : Nat) (vb : Value) (b : List Ex) (ha : RN [] (rdS 5 (rEx da)) w.heap va a) (hb : RN [] (rdS 5 (rEx db)) w.heap vb b) (hab : b = a) :
  Calls Try.prog 149 #[va,vb] w (fun e w' => e = .returned (.bool true) ∧ Ext w w') := by
 induction da using Nat.strongRecOn generalizing w va a db vb b
 rename_i da ih
 refine calls_mk [va,vb] 27 Try.func149 rfl rfl sM ?_
 have hE0 : Ext w w := Ext.refl w
 have hl_va := ha.lenle
 unfold maxLen at hl_va
 have hl_vb := hb.lenle
 unfold maxLen at hl_vb
 have hk1 : b.length = a.length := by rw [hab]
 refine wp_seq (wp_plain _ [0] rfl (lw_tvn 1 rfl (wp_seq (wp_seq (wp_plain _ [0,0,0,0,0] rfl (lw_tv 1 rfl (q_len (v := va) u44 rfl ha.isSl zN (lw_tv 1 rfl (q_len (v := vb) u44 rfl hb.isSl zN ?_)))))))))
 by_cases hc1 : ((a.length :Nat):Int) ≠ ((b.length :Nat):Int)
 ·
  exact q_neq true rfl rfl (decide_eq_true hc1) zN (lw_nil (c_cond_t rfl (wp_seq (wp_plain _ [0] rfl (lw_tvn 1 rfl (wp_ret (t_ret (post_ret [4] rfl (.bool false) rfl ⟨(by first | exact ret_bool rfl | (exfalso; omega) | (exfalso; simp_all; done)),hE0⟩))))))))
 ·
  refine q_neq false rfl rfl (decide_eq_false hc1) zN (lw_nil (c_cond_f rfl (wp_skip (wp_seq (wp_seq (wp_plain _ [0] rfl (lw_tvn 1 rfl (wp_block (c_loop (S := Nat) (fun (k : Nat) => ([(5,(.int .i64 ((k :Nat):Int))),(0,va),(1,vb)] : List (Nat × Value))) (fun (k : Nat) (W : World) => Ext w W ∧ k ≤ a.length) (fun (k : Nat) => a.length - k) 0 ⟨rfl,rfl,rfl,trivial⟩ ⟨hE0,sD⟩ ?_)))))))))
  clear hE0
  rintro k ρ2 w2 ⟨hE2,hp2_0⟩
  have hzs2 : w.heap.size ≤ w2.heap.size := hE2.size
  refine wp_seq (wp_seq (wp_plain _ [0,0,0,0] rfl (lw_tv 2 rfl (q_len (v := va) u44 rfl ha.isSl zN ?_))))
  by_cases hc3 : ((k :Nat):Int) < ((a.length :Nat):Int)
  ·
   refine q_lss true rfl rfl (decide_eq_true hc3) zN (lw_nil (c_cond_t rfl (wp_skip (wp_seq (wp_block (wp_seq (wp_draw _ [0,0,0,1,0,0,0,1,3,0] mixed (by kernel_rfl) (lw_tv 2 rfl (q_idx (v := va) k u44 tiS46 rfl rfl ha.isSl rfl sD zN ?_)))))))))
   obtain ⟨cs4,hr4,hl4⟩ := ha.get (good_rEx da) Ex.zero (k := k) sD
   obtain ⟨dd4,ve4,hd4,rfl,hx4⟩ := RX.of hr4
   have hln4 := hx4.rn.lenle
   unfold maxLen at hln4
   refine q_loadA (p := eptr va k 5) (.inl rfl) [(.int .i64 ((a.getD k Ex.zero).kind)),(.int .i64 ((a.getD k Ex.zero).num)),(.int .i64 ((a.getD k Ex.zero).pick)),(.int .i64 ((a.getD k Ex.zero).count)),ve4] agg46 rfl (fun wq9 hw9 => hl4 wq9 (Chg.of_ext [] (hE2.drew.trans hw9))) rfl zN (lw_tv 2 rfl (q_idx (v := vb) k u44 tiS46 rfl rfl hb.isSl rfl sD zN ?_))
   obtain ⟨cs5,hr5,hl5⟩ := hb.get (good_rEx db) Ex.zero (k := k) sD
   obtain ⟨dd5,ve5,hd5,rfl,hx5⟩ := RX.of hr5
   have hln5 := hx5.rn.lenle
   unfold maxLen at hln5
   refine q_loadA (p := eptr vb k 5) (.inl rfl) [(.int .i64 ((b.getD k Ex.zero).kind)),(.int .i64 ((b.getD k Ex.zero).num)),(.int .i64 ((b.getD k Ex.zero).pick)),(.int .i64 ((b.getD k Ex.zero).count)),ve5] agg46 rfl (fun wq9 hw9 => hl5 wq9 (Chg.of_ext [] (hE2.drew.trans hw9))) rfl zN ?_
   refine lw_call 156 [] [] [(.agg #[(.int .i64 ((a.getD k Ex.zero).kind)),(.int .i64 ((a.getD k Ex.zero).num)),(.int .i64 ((a.getD k Ex.zero).pick)),(.int .i64 ((a.getD k Ex.zero).count)),ve4]),(.agg #[(.int .i64 ((b.getD k Ex.zero).kind)),(.int .i64 ((b.getD k Ex.zero).num)),(.int .i64 ((b.getD k Ex.zero).pick)),(.int .i64 ((b.getD k Ex.zero).count)),ve5])] rfl rfl cf156 zN (c_laws_eqExpr _ dd4 ve4 (a.getD k Ex.zero) dd5 ve5 (b.getD k Ex.zero) (hx4.ext hE2.drew) (hx5.ext hE2.drew) (by rw [hab]) (by intro w9 d9 v9 a9 e9 u9 b9 h1 h2 h3 h4; exact ih d9 oM w9 v9 a9 e9 u9 b9 h1 h2 h3)) ?_
   rintro e6 w6 ⟨rfl,hX6⟩
   refine ⟨_,rfl,hX6,?_⟩
   replace hX6 := hX6.of_drew
   have hzs6:=hX6.size
   have hE6:=hE2.trans hX6
   refine q_not false rfl rfl zN (lw_nil (c_cond_f rfl (wp_skip (wp_plain _ [0,0,0] rfl (lw_tv 1 rfl (q_add ((k + 1 :Nat):Int) rfl rfl (w64n oM sD) zN (lw_tvn 1 rfl ?_)))))))
   exact ⟨(k + 1),_,rfl,⟨rfl,rfl,rfl,trivial⟩,⟨hE6,sD⟩,by first | omega | (dsimp only; omega)⟩
  ·
   exact q_lss false rfl rfl (decide_eq_false hc3) zN (lw_nil (c_cond_f rfl (wp_exit (t_exit (t_exit (c_exit_here (wp_seq (wp_plain _ [0] rfl (lw_tvn 1 rfl (wp_ret (post_ret [4] rfl (.bool true) rfl ⟨(by first | exact ret_bool rfl | (exfalso; omega) | (exfalso; simp_all; done)),hE2⟩)))))))))))
theorem strE_self (s : ByteArray) : strE s s = true := by unfold strE; simp
theorem z128_0 {p : Prop} (h : p := by first | exact ret_bool rfl | (exfalso; omega) | (exfalso; simp_all; done)) : p := h
theorem c_laws_eqFunc (w : World) (da : Nat) (va : Value) (a : Fn) (db : Nat) (vb : Value) (b : Fn) (ha : RF [] da w.heap va a) (hb : RF [] db w.heap vb b) (hab : b = a) :
  Calls Try.prog 128 #[(.agg #[(.string a.name),(.int .i64 a.params),va]),(.agg #[(.string b.name),(.int .i64 b.params),vb])] w (fun e w' => e = .returned (.bool true) ∧ Ext w w') := by
 refine calls_mk [(.agg #[(.string a.name),(.int .i64 a.params),va]),(.agg #[(.string b.name),(.int .i64 b.params),vb])] 21 Try.func128 rfl rfl sM ?_
 have hE0 : Ext w w := Ext.refl w
 have hl_va := ha.rn.lenle
 unfold maxLen at hl_va
 have hl_vb := hb.rn.lenle
 unfold maxLen at hl_vb
 have hk1 : b.params = a.params := by rw [hab]
 have hk2 : strE a.name b.name = true := by rw [hab]; exact strE_self _
 refine wp_seq (wp_plain _ [3,3,0] rfl (r_boxA (cs := #[(.string a.name),(.int .i64 a.params),va]) rfl zN fun w1 hX1 hz1 hB1 => ?_))
 have hzs1:=hX1.size
 have hE1:=hE0.trans hX1
 replace hB1 : BX w1.heap w.heap.size [(.string a.name),(.int .i64 a.params),va] := hB1
 have hq3 := hB1.lt
 refine r_boxA (cs := #[(.string b.name),(.int .i64 b.params),vb]) rfl zN fun w2 hX2 hz2 hB2 => ?_
 have hzs2:=hX2.size
 have hE2:=hE1.trans hX2
 have hB1x2 := hB1.ext hX2
 replace hB2 : BX w2.heap w1.heap.size [(.string b.name),(.int .i64 b.params),vb] := hB2
 refine lw_tvn 1 rfl (wp_seq (wp_seq (wp_plain _ [0,2,0,2,0] rfl (q_fldP (p := (.pointer (some ⟨w.heap.size,0,none⟩))) (b := w.heap.size) (o := 0) 0 fd49_0 rfl rfl zN (q_load (p := (padd (.pointer (some ⟨w.heap.size,0,none⟩)) 0)) (.inr rfl) (.string a.name) one9 rfl (hB1x2.ldp (i := 0) sM) zN (q_fldP (p := (.pointer (some ⟨w1.heap.size,0,none⟩))) (b := w1.heap.size) (o := 0) 0 fd49_0 rfl rfl zN (q_load (p := (padd (.pointer (some ⟨w1.heap.size,0,none⟩)) 0)) (.inr rfl) (.string b.name) one9 rfl (hB2.ldp (i := 0) sM) zN ?_)))))))
 cases hc4 : (!strE a.name b.name)
 ·
  refine q_neqs false u9 rfl rfl hc4 zN (lw_nil (c_cond_f rfl (wp_skip (wp_seq (wp_seq (wp_plain _ [0,2,0,2,0] rfl (q_fldP (p := (.pointer (some ⟨w.heap.size,0,none⟩))) (b := w.heap.size) (o := 0) 1 fd49_1 rfl rfl zN (q_load (p := (padd (.pointer (some ⟨w.heap.size,0,none⟩)) 1)) (.inr rfl) (.int .i64 a.params) one2 rfl (hB1x2.ldp (i := 1) sM) zN (q_fldP (p := (.pointer (some ⟨w1.heap.size,0,none⟩))) (b := w1.heap.size) (o := 0) 1 fd49_1 rfl rfl zN (q_load (p := (padd (.pointer (some ⟨w1.heap.size,0,none⟩)) 1)) (.inr rfl) (.int .i64 b.params) one2 rfl (hB2.ldp (i := 1) sM) zN ?_))))))))))
  by_cases hc5 : a.params ≠ b.params
  ·
   exact q_neq true rfl rfl (decide_eq_true hc5) zN (lw_nil (c_cond_t rfl (wp_seq (wp_plain _ [0] rfl (lw_tvn 1 rfl (wp_ret (t_ret (post_ret [4] rfl (.bool false) rfl ⟨z128_0,hE2⟩))))))))
  ·
   refine q_neq false rfl rfl (decide_eq_false hc5) zN (lw_nil (c_cond_f rfl (wp_skip (wp_seq (wp_seq (wp_plain _ [0,2,0,2,3,0] rfl (q_fldP (p := (.pointer (some ⟨w.heap.size,0,none⟩))) (b := w.heap.size) (o := 0) 2 fd49_2 rfl rfl zN (q_load (p := (padd (.pointer (some ⟨w.heap.size,0,none⟩)) 2)) (.inr rfl) va one44 rfl (hB1x2.ldp (i := 2) sM) zN (q_fldP (p := (.pointer (some ⟨w1.heap.size,0,none⟩))) (b := w1.heap.size) (o := 0) 2 fd49_2 rfl rfl zN (q_load (p := (padd (.pointer (some ⟨w1.heap.size,0,none⟩)) 2)) (.inr rfl) vb one44 rfl (hB2.ldp (i := 2) sM) zN (lw_call 149 [] [] [va,vb] rfl rfl cf149 zN (c_laws_eqExprS _ da va (a.outs) db vb (b.outs) (ha.rn.ext (good_rdS (good_rEx da)) hE2) (hb.rn.ext (good_rdS (good_rEx db)) hE2) (by rw [hab])) ?_)))))))))))
   rintro e6 w6 ⟨rfl,hX6⟩
   refine ⟨_,rfl,hX6,?_⟩
   have hzs6:=hX6.size
   have hE6:=hE2.trans hX6
   have hB1x6 := hB1x2.ext hX6
   have hB2x6 := hB2.ext hX6
   exact q_not false rfl rfl zN (lw_nil (c_cond_f rfl (wp_skip (wp_seq (wp_plain _ [0] rfl (lw_tvn 1 rfl (wp_ret (post_ret [4] rfl (.bool true) rfl ⟨z128_0,hE6⟩))))))))
 ·
  exact q_neqs true u9 rfl rfl hc4 zN (lw_nil (c_cond_t rfl (wp_seq (wp_plain _ [0] rfl (lw_tvn 1 rfl (wp_ret (t_ret (post_ret [4] rfl (.bool false) rfl ⟨z128_0,hE2⟩))))))))
theorem z89_0 {p : Prop} (h : p := by first | exact ret_bool rfl | (exfalso; omega) | (exfalso; simp_all; done)) : p := h
theorem c_laws_eqFuncS (w : World) (da : Nat) (va : Value) (a : List Fn) (db : Nat) (vb : Value) (b : List Fn) (ha : RP [] da w.heap va a) (hb : RP [] db w.heap vb b) (hab : b = a) :
  Calls Try.prog 89 #[va,vb] w (fun e w' => e = .returned (.bool true) ∧ Ext w w') := by
 refine calls_mk [va,vb] 27 Try.func89 rfl rfl sM ?_
 have hE0 : Ext w w := Ext.refl w
 have hl_va := ha.lenle
 unfold maxLen at hl_va
 have hl_vb := hb.lenle
 unfold maxLen at hl_vb
 have hk1 : b.length = a.length := by rw [hab]
 refine wp_seq (wp_plain _ [0] rfl (lw_tvn 1 rfl (wp_seq (wp_seq (wp_plain _ [0,0,0,0,0] rfl (lw_tv 1 rfl (q_len (v := va) u50 rfl ha.isSl zN (lw_tv 1 rfl (q_len (v := vb) u50 rfl hb.isSl zN ?_)))))))))
 by_cases hc1 : ((a.length :Nat):Int) ≠ ((b.length :Nat):Int)
 ·
  exact q_neq true rfl rfl (decide_eq_true hc1) zN (lw_nil (c_cond_t rfl (wp_seq (wp_plain _ [0] rfl (lw_tvn 1 rfl (wp_ret (t_ret (post_ret [4] rfl (.bool false) rfl ⟨z89_0,hE0⟩))))))))
 ·
  refine q_neq false rfl rfl (decide_eq_false hc1) zN (lw_nil (c_cond_f rfl (wp_skip (wp_seq (wp_seq (wp_plain _ [0] rfl (lw_tvn 1 rfl (wp_block (c_loop (S := Nat) (fun (k : Nat) => ([(5,(.int .i64 ((k :Nat):Int))),(0,va),(1,vb)] : List (Nat × Value))) (fun (k : Nat) (W : World) => Ext w W ∧ k ≤ a.length) (fun (k : Nat) => a.length - k) 0 ⟨rfl,rfl,rfl,trivial⟩ ⟨hE0,sD⟩ ?_)))))))))
  clear hE0
  rintro k ρ2 w2 ⟨hE2,hp2_0⟩
  have hzs2 : w.heap.size ≤ w2.heap.size := hE2.size
  refine wp_seq (wp_seq (wp_plain _ [0,0,0,0] rfl (lw_tv 2 rfl (q_len (v := va) u50 rfl ha.isSl zN ?_))))
  by_cases hc3 : ((k :Nat):Int) < ((a.length :Nat):Int)
  ·
   refine q_lss true rfl rfl (decide_eq_true hc3) zN (lw_nil (c_cond_t rfl (wp_skip (wp_seq (wp_block (wp_seq (wp_draw _ [0,0,0,1,0,0,0,1,3,0] mixed (by kernel_rfl) (lw_tv 2 rfl (q_idx (v := va) k u50 tiS49 rfl rfl ha.isSl rfl sD zN ?_)))))))))
   obtain ⟨cs4,hr4,hl4⟩ := ha.get (good_rFn da) Fn.zero (k := k) sD
   obtain ⟨ve4,rfl,hx4⟩ := RF.of hr4
   have hln4 := hx4.rn.lenle
   unfold maxLen at hln4
   refine q_loadA (p := eptr va k 3) (.inl rfl) [(.string ((a.getD k Fn.zero).name)),(.int .i64 ((a.getD k Fn.zero).params)),ve4] agg49 rfl (fun wq9 hw9 => hl4 wq9 (Chg.of_ext [] (hE2.drew.trans hw9))) rfl zN (lw_tv 2 rfl (q_idx (v := vb) k u50 tiS49 rfl rfl hb.isSl rfl sD zN ?_))
   obtain ⟨cs5,hr5,hl5⟩ := hb.get (good_rFn db) Fn.zero (k := k) sD
   obtain ⟨ve5,rfl,hx5⟩ := RF.of hr5
   have hln5 := hx5.rn.lenle
   unfold maxLen at hln5
   refine q_loadA (p := eptr vb k 3) (.inl rfl) [(.string ((b.getD k Fn.zero).name)),(.int .i64 ((b.getD k Fn.zero).params)),ve5] agg49 rfl (fun wq9 hw9 => hl5 wq9 (Chg.of_ext [] (hE2.drew.trans hw9))) rfl zN (lw_call 128 [] [] [(.agg #[(.string ((a.getD k Fn.zero).name)),(.int .i64 ((a.getD k Fn.zero).params)),ve4]),(.agg #[(.string ((b.getD k Fn.zero).name)),(.int .i64 ((b.getD k Fn.zero).params)),ve5])] rfl rfl cf128 zN (c_laws_eqFunc _ da ve4 (a.getD k Fn.zero) db ve5 (b.getD k Fn.zero) ⟨hx4.rng,(hx4.rn.ext (good_rdS (good_rEx da)) hE2.drew)⟩ ⟨hx5.rng,(hx5.rn.ext (good_rdS (good_rEx db)) hE2.drew)⟩ (by rw [hab])) ?_)
   rintro e6 w6 ⟨rfl,hX6⟩
   refine ⟨_,rfl,hX6,?_⟩
   replace hX6 := hX6.of_drew
   have hzs6:=hX6.size
   have hE6:=hE2.trans hX6
   refine q_not false rfl rfl zN (lw_nil (c_cond_f rfl (wp_skip (wp_plain _ [0,0,0] rfl (lw_tv 1 rfl (q_add ((k + 1 :Nat):Int) rfl rfl (w64n oM sD) zN (lw_tvn 1 rfl ?_)))))))
   exact ⟨(k + 1),_,rfl,⟨rfl,rfl,rfl,trivial⟩,⟨hE6,sD⟩,by first | omega | (dsimp only; omega)⟩
  ·
   exact q_lss false rfl rfl (decide_eq_false hc3) zN (lw_nil (c_cond_f rfl (wp_exit (t_exit (t_exit (c_exit_here (wp_seq (wp_plain _ [0] rfl (lw_tvn 1 rfl (wp_ret (post_ret [4] rfl (.bool true) rfl ⟨z89_0,hE2⟩)))))))))))
theorem c_laws_eqProgram (w : World) (da : Nat) (va : Value) (a : List Fn) (db : Nat) (vb : Value) (b : List Fn) (ha : RP [] da w.heap va a) (hb : RP [] db w.heap vb b) (hab : b = a) :
  Calls Try.prog 34 #[(.agg #[va]),(.agg #[vb])] w (fun e w' => e = .returned (.bool true) ∧ Ext w w') := by
 refine calls_mk [(.agg #[va]),(.agg #[vb])] 11 Try.func34 rfl rfl sM ?_
 have hE0 : Ext w w := Ext.refl w
 have hl_va := ha.lenle
 unfold maxLen at hl_va
 have hl_vb := hb.lenle
 unfold maxLen at hl_vb
 refine wp_seq (wp_plain _ [3,3,0] rfl (r_boxA (cs := #[va]) rfl zN fun w1 hX1 hz1 hB1 => ?_))
 have hzs1:=hX1.size
 have hE1:=hE0.trans hX1
 replace hB1 : BX w1.heap w.heap.size [va] := hB1
 have hq3 := hB1.lt
 refine r_boxA (cs := #[vb]) rfl zN fun w2 hX2 hz2 hB2 => ?_
 have hzs2:=hX2.size
 have hE2:=hE1.trans hX2
 have hB1x2 := hB1.ext hX2
 replace hB2 : BX w2.heap w1.heap.size [vb] := hB2
 refine lw_tvn 1 rfl (wp_seq (wp_seq (wp_plain _ [0,2,0,2,3,0] rfl (q_fldP (p := (.pointer (some ⟨w.heap.size,0,none⟩))) (b := w.heap.size) (o := 0) 0 fd52_0 rfl rfl zN (q_load (p := (padd (.pointer (some ⟨w.heap.size,0,none⟩)) 0)) (.inr rfl) va one50 rfl (hB1x2.ldp (i := 0) sM) zN (q_fldP (p := (.pointer (some ⟨w1.heap.size,0,none⟩))) (b := w1.heap.size) (o := 0) 0 fd52_0 rfl rfl zN (q_load (p := (padd (.pointer (some ⟨w1.heap.size,0,none⟩)) 0)) (.inr rfl) vb one50 rfl (hB2.ldp (i := 0) sM) zN (lw_call 89 [] [] [va,vb] rfl rfl cf89 zN (c_laws_eqFuncS _ da va (a) db vb (b) (ha.ext (good_rdS (good_rFn da)) hE2) (hb.ext (good_rdS (good_rFn db)) hE2) (by exact hab)) ?_))))))))
 rintro e4 w4 ⟨rfl,hX4⟩
 refine ⟨_,rfl,hX4,?_⟩
 have hzs4:=hX4.size
 have hE4:=hE2.trans hX4
 have hB1x4 := hB1x2.ext hX4
 have hB2x4 := hB2.ext hX4
 exact q_not false rfl rfl zN (lw_nil (c_cond_f rfl (wp_skip (wp_seq (wp_plain _ [0] rfl (lw_tvn 1 rfl (wp_ret (post_ret [4] rfl (.bool true) rfl ⟨(by first | exact ret_bool rfl | (exfalso; omega) | (exfalso; simp_all; done)),hE4⟩))))))))
end Go.Proofs.Ytjnbnlniafmblaa
namespace Go.Proofs.Ytjnbnlniafmblaa
open Go Go.RowKit
set_option linter.unusedVariables false
set_option linter.unusedSimpArgs false
theorem fold_set : ∀ (cs : List Value) (k : Nat) (A : Array Value), k + cs.length ≤ A.size → ((cs.zipIdx k).foldl (fun A p => A.setIfInBounds (0 + p.2) p.1) A).toList = A.toList.take k ++ cs ++ A.toList.drop (k + cs.length)
  | [], k, A, _ => by simp
  | c :: cs, k, A, h => by
    rw [List.length_cons] at h
    rw [List.zipIdx_cons, List.foldl_cons, fold_set cs (k + 1) _ (by simp; omega)]
    simp only [Array.toList_setIfInBounds, Nat.zero_add]
    have h1 : (A.toList.set k c).take (k + 1) = A.toList.take k ++ [c] := by
      rw [List.take_succ_eq_append_getElem (by simp; omega), List.take_set, List.set_eq_of_length_le (by simp; omega)]
      simp
    have h2 : (A.toList.set k c).drop (k + 1 + cs.length) = A.toList.drop (k + (c :: cs).length) := by
      rw [List.drop_set_of_lt (by omega), List.length_cons, show k + 1 + cs.length = k + (cs.length + 1) from by omega]
    rw [h1, h2, List.append_assoc (A.toList.take k)]; simp
theorem fold_all {cs : List Value} {A : Array Value} (h : A.size = cs.length) : cs.zipIdx.foldl (fun A p => A.setIfInBounds p.2 p.1) A = cs.toArray := by
  apply Array.ext'
  have := fold_set cs 0 A (by omega)
  simp only [List.take_zero, List.nil_append, Nat.zero_add] at this
  rw [List.drop_of_length_le (by rw [Array.length_toList]; omega), List.append_nil] at this
  simpa using this
section run
variable {P : Program} {w : World} {α : Type} {E : StandN α} {s : Nat} {t ty e : TypeId} {b : Nat} {z : Value}
theorem run_bsS {cs : List Value} (ht : P.underlying t = some (.slice e)) (hi : TI P e s z b) (hs : 0 < s) (hs2 : s ≤ 1000) (hz : z.cells.size = s) (hc : cs.length = s) :
    (Instr.buildSlice t 1 #[(0, .agg cs.toArray)]).run P w = .ok (.slice (some ⟨w.heap.size, 0, none⟩) 1 1) (w.alloc (.cells cs.toArray e)) := by
  obtain ⟨i, h1, h2, h3, h4⟩ := hi.get
  have h0 : ¬ (s = 0) := by omega
  have hA : ((Array.range s).map (fun x => z.cells[x % s]!)).size = cs.length := by simp [hc]
  have hf := fold_all hA
  have hbig : ¬ (s > 2 ^ 24) := by omega
  simp only [Instr.buildSlice, Sem.run_bind, run_underlying ht, Result.andThen_ok, sizeOf, typeInfo, zeroValue, h1, h2, h3, Nat.one_mul, Instr.fill, hz, Sem.run_pure]
  have hag : (Value.agg cs.toArray).cells = cs.toArray := rfl
  simp [h0, hbig, hag, hc, newRow, hz, h1, h2, h3, Instr.fill, run_underlying ht, typeInfo]
  rw [hf]
/-- What a struct owns. -/
def FrN (E : StandN α) (B U : Nat) (H : Array Obj) (cs : List Value) (x : α) : Prop := ∃ G, E H cs x G ∧ G.Nodup ∧ ∀ b ∈ G, B ≤ b ∧ b < U
theorem owS_new (hE : GoodN s E) {css : List (List Value)} {xs : List α} {F : List Nat} {cur : Array Value} {cap : Nat} (h : elsN E w.heap css xs F) (hl : xs.length ≤ cap) (hm : cap ≤ maxLen) (hsz : cur.size = cap * s) (hc : cur.toList.take (xs.length * s) = css.flatten) :
    owS s E e (w.alloc (.cells cur e)).heap (.slice (some ⟨w.heap.size, 0, none⟩) xs.length cap) xs (w.heap.size :: F) := by
  refine .inr ⟨css, w.heap.size, cap, cur, F, h.stable hE fun b hb => ?_, rfl, ?_, hl, hm, hsz, hc, rfl⟩
  · exact Below.heap_alloc _ _ _ (h.lt hE b hb)
  · show (w.heap.push _)[w.heap.size]? = _
    simp
/-- What is owned, in blocks of a kind. -/
def FrP {α β : Type} (E : Array Obj → β → α → List Nat → Prop) (S : Nat → Prop) (H : Array Obj) (v : β) (x : α) : Prop := ∃ F, E H v x F ∧ F.Nodup ∧ ∀ b ∈ F, S b
theorem FrP.chg {α : Type} {E : Stand α} (hE : Good E) {S : Nat → Prop} {w w' : World} {v : Value} {x : α} {F : List Nat} (h : FrP E S w.heap v x) (c : Chg F w w') (hF : ∀ b ∈ F, ¬ S b) : FrP E S w'.heap v x := by
  obtain ⟨G, h1, h2, h3⟩ := h
  exact ⟨G, hE.stable h1 fun b hb => c.block b (hE.lt h1 b hb) fun hm => hF b hm (h3 b hb), h2, h3⟩
theorem FrP.isSlS {α : Type} {E : StandN α} {s : Nat} {e : TypeId} {S : Nat → Prop} {H : Array Obj} {v : Value} {xs : List α} (h : FrP (owS s E e) S H v xs) : Go.Proofs.Ytjnbnlniafmblaa.isSl v xs.length := by obtain ⟨F, h, _⟩ := h; exact h.isSl
theorem FrP.fr {α : Type} {E : Stand α} (hE : Good E) {S : Nat → Prop} {w : World} {v : Value} {x : α} {B : Nat} (h : FrP E S w.heap v x) (hB : ∀ b, S b → B ≤ b) : Fr E B w.heap.size w.heap v x := by
  obtain ⟨G, h1, h2, h3⟩ := h
  exact ⟨G, h1, h2, fun b hb => ⟨hB b (h3 b hb), hE.lt h1 b hb⟩⟩
/-- append, an owned slice of structs and another one that lies behind it. -/
theorem run_appQ (hE : GoodN s E) (ht : P.underlying t = some (.slice e)) (hi : TI P e s z b) (hz : z.cells.size = s) (hs : 0 < s) {v : Value} {xs : List α} {S T : Nat → Prop} (hv : FrP (owS s E e) S w.heap v xs)
    {a : Value} {y : α} (ha : FrP (owS s E e) T w.heap a [y]) (hST : ∀ b, S b → T b → False) (hbytes : (xs.length + 1) * b ≤ 140737488355328) (hmx : xs.length + 1 ≤ maxLen) :
    ∃ v' w' F, (Builtin.append_ #[t, t] ty #[v, a]).run P w = .ok v' w' ∧ FrP (owS s E e) (fun b => S b ∨ T b ∨ b = w.heap.size) w'.heap v' (xs ++ [y]) ∧ Chg F w w' ∧ ∀ c ∈ F, S c := by
  obtain ⟨F, hv1, hn, hF⟩ := hv
  obtain ⟨G, ha1, hnG, hG⟩ := ha
  obtain ⟨i, h1, h2, h3, h4⟩ := hi.get
  subst h4
  have hsmall : xs.length + 1 ≤ 9223372036854775807 := by simp only [maxLen] at hmx; omega
  rcases ha1 with ⟨_, h0, _⟩ | ⟨cas, ga, capa, cura, G', hels, rfl, hga, a1, a2, a3, a4, rfl⟩
  · cases h0
  · have hnG' := List.nodup_cons.1 hnG
    have hfl : cas.flatten.length = s := by have := hels.flen hE; simpa using this
    simp only [List.length_singleton, Nat.one_mul] at a4 a1
    have hnews : ∀ j u, cas.flatten[j]? = some u → w.cell? ((⟨ga, 0, none⟩ : Addr).add j) = some u := by
      intro j u hj
      have e1 : (⟨ga, 0, none⟩ : Addr).add j = ⟨ga, j, none⟩ := by
        unfold Addr.add
        split
        · rename_i hh; subst hh; rfl
        · simp
      rw [e1, cell_cellH]
      simp only [cellH, hga]
      rw [← a4, List.getElem?_take] at hj
      split at hj
      · simpa using hj
      · cases hj
    have h1c : ∀ u ∈ cas.flatten, u.oneCell' = true := fun u hu => (hels.one hE u hu).2
    have hl1 : cas.flatten.length = 1 * i.size := by rw [h3, hfl, Nat.one_mul]
    have made : ∀ (w1 : World) (ous : List (List Value)) (F0 : List Nat) (rest : Nat), w1.heap = w.heap → w1.os = w.os → w1.tape = w.tape → w1.output = w.output → elsN E w.heap ous xs F0 → (∀ c ∈ F0, c ∈ F) → F0.Nodup →
        (xs.length + 1 + rest) ≤ maxLen →
        FrP (owS s E e) (fun b => S b ∨ T b ∨ b = w.heap.size) (w1.alloc (.cells (ous.flatten.toArray ++ cas.flatten.toArray ++ Builtin.zeroCells z.cells rest) e)).heap (.slice (some ⟨w.heap.size, 0, none⟩) (xs.length + 1) (xs.length + 1 + rest)) (xs ++ [y]) ∧
          Chg ([] : List Nat) w (w1.alloc (.cells (ous.flatten.toArray ++ cas.flatten.toArray ++ Builtin.zeroCells z.cells rest) e)) := by
      intro w1 ous F0 rest hh ho htp hop hou hsub hnd hmax
      have happ := hou.append hels
      have hofl := hou.flen hE
      have hzc : (Builtin.zeroCells z.cells rest).size = rest * s := by simp [Builtin.zeroCells, hz]
      have hsz : (ous.flatten.toArray ++ cas.flatten.toArray ++ Builtin.zeroCells z.cells rest).size = (xs.length + 1 + rest) * s := by
        rw [Nat.add_mul, Nat.add_mul, Nat.one_mul]
        simp only [Array.size_append, List.size_toArray, hzc, hfl, hofl]
      have hlen : (xs ++ [y]).length = xs.length + 1 := by simp
      have hnew := owS_new (e := e) (w := w1) hE (css := ous ++ cas) (xs := xs ++ [y]) (F := F0 ++ G') (cur := ous.flatten.toArray ++ cas.flatten.toArray ++ Builtin.zeroCells z.cells rest) (cap := xs.length + 1 + rest)
        (by rw [hh]; exact happ) (by rw [hlen]; omega) hmax hsz (by
          rw [hlen, Array.toList_append, Array.toList_append, List.flatten_append]
          have e1 : (xs.length + 1) * s = (ous.flatten ++ cas.flatten).length := by rw [List.length_append, hofl, hfl, Nat.add_mul, Nat.one_mul]
          rw [e1]; exact List.take_left)
      rw [hh, hlen] at hnew
      have hnn : (w.heap.size :: (F0 ++ G')).Nodup := by
        rw [List.nodup_cons]
        refine ⟨fun hm => ?_, ?_⟩
        · have := happ.lt hE _ hm; omega
        · rw [List.nodup_append]
          refine ⟨hnd, hnG'.2, ?_⟩
          rintro x hx y hy rfl
          exact hST _ (hF x (hsub x hx)) (hG x (List.mem_cons_of_mem _ hy))
      refine ⟨⟨_, hnew, hnn, fun c hc => ?_⟩, ho, htp, hop, ?_, fun k hk _ => ?_⟩
      · rcases List.mem_cons.1 hc with rfl | hc
        · exact .inr (.inr rfl)
        · rcases List.mem_append.1 hc with hc | hc
          · exact .inl (hF c (hsub c hc))
          · exact .inr (.inl (hG c (List.mem_cons_of_mem _ hc)))
      · show w.heap.size ≤ (w1.heap.push _).size
        rw [hh]; simp
      · have := Below.heap_alloc w1 (.cells (ous.flatten.toArray ++ cas.flatten.toArray ++ Builtin.zeroCells z.cells rest) e) k (by rw [hh]; exact hk)
        rw [this, hh]
    rcases hv1 with ⟨rfl, rfl, rfl⟩ | ⟨ous, gv, capv, curv, F0, hels0, rfl, hgv, r1, r2, r3, r4, rfl⟩
    · have hr := run_append_nil (P := P) w t ty e i z ht h1 h2 ⟨ga, 0, none⟩ 1 capa cas.flatten hl1 hnews (by decide) (by decide) (by simp at hbytes ⊢; omega)
      have hge := grownCap_ge w 1 0 e
      have hgm := grownCap_le_maxLen w 1 0 e (by simpa using hmx)
      obtain ⟨q1, q2⟩ := made w.drew [] [] (grownCap w 1 0 e - 1) rfl rfl rfl rfl rfl (fun c hc => by cases hc) List.nodup_nil (by simp; omega)
      refine ⟨_, _, [], hr, ?_, ?_, fun c hc => by cases hc⟩
      · have ea : (([] : List α).length + 1 + (grownCap w 1 0 e - 1)) = grownCap w 1 0 e := by simp; omega
        rw [ea] at q1
        simpa using q1
      · simpa using q2
    · have hn' := List.nodup_cons.1 hn
      have hofl := hels0.flen hE
      by_cases hroom : xs.length + 1 ≤ capv
      · have hbnd : xs.length * s + s ≤ curv.size := by rw [r3, ← Nat.succ_mul]; exact Nat.mul_le_mul_right s hroom
        have hr := run_append_room (P := P) w t ty e i ht h1 gv xs.length capv curv hgv ⟨ga, 0, none⟩ 1 capa cas.flatten hl1 hnews h1c hroom (by rw [h3, hfl]; exact hbnd)
        rw [h3] at hr
        have hgF : gv ∉ F0 := hn'.1
        have hgG : gv ∉ G' := fun hm => hST _ (hF gv (List.mem_cons_self ..)) (hG gv (List.mem_cons_of_mem _ hm))
        refine ⟨_, _, [gv], hr, ⟨gv :: (F0 ++ G'), .inr ⟨ous ++ cas, gv, capv, _, F0 ++ G', ?_, by rw [List.length_append, List.length_singleton], setRow_heap w gv curv _ e _ hgv, by rw [List.length_append, List.length_singleton]; exact hroom, r2, ?_, ?_, rfl⟩, ?_, fun c hc => ?_⟩, ⟨rfl, rfl, rfl, by simp, fun k _ hk => setRow_other w gv k _ fun hh => hk (by simp [hh])⟩, fun c hc => by rw [List.mem_singleton.1 hc]; exact hF gv (List.mem_cons_self ..)⟩
        · refine (hels0.append hels).stable hE fun c hc => setRow_other w gv c _ fun hcg => ?_
          subst hcg
          rcases List.mem_append.1 hc with hc | hc
          · exact hgF hc
          · exact hgG hc
        · rw [← r3]
          simp only [List.size_toArray, List.length_append, List.length_take, List.length_drop, Array.length_toList]
          omega
        · rw [List.length_append, List.length_singleton]
          simp only [List.flatten_append]
          rw [r4]
          have e1 : (xs.length + 1) * s = (ous.flatten ++ cas.flatten).length := by rw [List.length_append, hofl, hfl, Nat.add_mul, Nat.one_mul]
          rw [e1]; exact List.take_left
        · rw [List.nodup_cons, List.nodup_append]
          refine ⟨fun hm => ?_, hn'.2, hnG'.2, ?_⟩
          · rcases List.mem_append.1 hm with hm | hm
            · exact hgF hm
            · exact hgG hm
          · rintro x hx y hy rfl
            exact hST _ (hF x (List.mem_cons_of_mem _ hx)) (hG x (List.mem_cons_of_mem _ hy))
        · rcases List.mem_cons.1 hc with rfl | hc
          · exact .inl (hF c (List.mem_cons_self ..))
          · rcases List.mem_append.1 hc with hc | hc
            · exact .inl (hF c (List.mem_cons_of_mem _ hc))
            · exact .inr (.inl (hG c (List.mem_cons_of_mem _ hc)))
      · have holds : ∀ j u, ous.flatten[j]? = some u → w.cell? ((⟨gv, 0, none⟩ : Addr).add j) = some u := by
          intro j u hj
          have e1 : (⟨gv, 0, none⟩ : Addr).add j = ⟨gv, j, none⟩ := by
            unfold Addr.add
            split
            · rename_i hh; subst hh; rfl
            · simp
          rw [e1, cell_cellH]
          simp only [cellH, hgv]
          rw [← r4, List.getElem?_take] at hj
          split at hj
          · simpa using hj
          · cases hj
        have hr := run_append_grow (P := P) w t ty e i z ht h1 h2 ⟨gv, 0, none⟩ xs.length capv ous.flatten (by rw [h3, hofl]) holds ⟨ga, 0, none⟩ 1 capa cas.flatten hl1 hnews (by omega) (by omega) (growslice_fits (by omega) hbytes)
        have hge := grownCap_ge w (xs.length + 1) capv e
        have hgm := grownCap_le_maxLen w (xs.length + 1) capv e hmx
        obtain ⟨q1, q2⟩ := made w.drew ous F0 (grownCap w (xs.length + 1) capv e - (xs.length + 1)) rfl rfl rfl rfl hels0 (fun c hc => List.mem_cons_of_mem _ hc) hn'.2 (by omega)
        refine ⟨_, _, [], hr, ?_, q2, fun c hc => by cases hc⟩
        have ea : (xs.length + 1 + (grownCap w (xs.length + 1) capv e - (xs.length + 1))) = grownCap w (xs.length + 1) capv e := by omega
        rw [ea] at q1
        exact q1
theorem run_appS (hE : GoodN s E) (ht : P.underlying t = some (.slice e)) (hi : TI P e s z b) (hz : z.cells.size = s) (hs : 0 < s) {v : Value} {xs : List α} {B U : Nat} (hv : Fr (owS s E e) B U w.heap v xs) (hB : B ≤ w.heap.size)
    {a : Value} {y : α} {B' U' : Nat} (ha : Fr (owS s E e) B' U' w.heap a [y]) (hU : U ≤ B') (hBB : B ≤ B') (hbytes : (xs.length + 1) * b ≤ 140737488355328) (hmx : xs.length + 1 ≤ maxLen) :
    ∃ v' w' F, (Builtin.append_ #[t, t] ty #[v, a]).run P w = .ok v' w' ∧ Fr (owS s E e) B w'.heap.size w'.heap v' (xs ++ [y]) ∧ Chg F w w' ∧ ∀ c ∈ F, B ≤ c ∧ c < U := by
  obtain ⟨v', w', F, r1, ⟨G, h1, h2, h3⟩, r3, r4⟩ := run_appQ (P := P) (ty := ty) hE ht hi hz hs (S := fun b => B ≤ b ∧ b < U) (T := fun b => B' ≤ b ∧ b < U') hv ha (fun b h1 h2 => by omega) hbytes hmx
  exact ⟨v', w', F, r1, ⟨G, h1, h2, fun b hb => ⟨by have := h3 b hb; omega, (good_owS hE).lt h1 b hb⟩⟩, r3, r4⟩
end run
section ops
variable {P : Program} {ops : Array Oper} {w0 : World} {Q : Act → World → Prop} {os : List Oper} {ks : List Nat} {N : Nat} {ρ : Nat → Value} {w : World}
  {d : Nat} {ty : TypeId} {pos : String} {aft : Array Edge} {g : Option (Nat × Bool)} {t e : TypeId} {z : Value} {b s : Nat} {α : Type} {E : StandN α}
/-- A new slice of one struct. -/
theorem r_oneS (hE : GoodN s E) {x : Operand} {cs : List Value} {y : α} {B U : Nat} (ht : P.underlying t = some (.slice e)) (hi : TI P e s z b) (hz : z.cells.size = s) (hs : 0 < s ∧ s ≤ 1000) (hx : evF N ρ x = .agg cs.toArray) (hy : FrN E B U w.heap cs y) (hB : B ≤ w.heap.size)
    (hu : Up ops N ρ ⟨some d, .buildSlice t 1 #[(0, x)], ty, pos, aft, g⟩)
    (h : ∀ v w1, Ext w w1 → w1.heap.size = w.heap.size + 1 → Fr (owS s E e) B w1.heap.size w1.heap v [y] → LW P ops w0 Q os ks (mk N (upd ρ d v)) w1) :
    LW P ops w0 Q (⟨some d, .buildSlice t 1 #[(0, x)], ty, pos, aft, g⟩ :: os) (3 :: ks) (mk N ρ) w := by
  obtain ⟨F, h1, h2, h3⟩ := hy
  have hl := hE.len h1
  have hr := run_bsS (P := P) (w := w) ht hi hs.1 hs.2 hz hl
  have hrun : (execOp (evF N ρ) ⟨some d, .buildSlice t 1 #[(0, x)], ty, pos, aft, g⟩).run P w = .ok (.value (.slice (some ⟨w.heap.size, 0, none⟩) 1 1)) (w.alloc (.cells cs.toArray e)) := by
    simp only [execOp, List.map_toArray, List.map_cons, List.map_nil, Sem.run_bind, hx, hr, Result.andThen_ok, Sem.run_pure]
  refine lw_r rfl hu _ _ hrun (ext_alloc _ _) (h _ _ (ext_alloc _ _) (by simp) ?_)
  have hn := owS_new (e := e) (w := w) hE (css := [cs]) (xs := [y]) (F := F ++ []) (cur := cs.toArray) (cap := 1) ⟨F, [], rfl, h1, rfl⟩ (by simp) (by simp [maxLen]) (by simp [hl]) (by simp [← hl])
  refine ⟨_, hn, ?_, fun c hc => ?_⟩
  · rw [List.append_nil, List.nodup_cons]
    exact ⟨fun hm => by have := hE.lt h1 _ hm; omega, h2⟩
  · have hlt := (good_owS hE).lt hn c hc
    refine ⟨?_, hlt⟩
    rcases List.mem_cons.1 hc with rfl | hc
    · exact hB
    · exact (h3 c (by simpa using hc)).1
theorem e_appS (hE : GoodN s E) {x y : Operand} {v a : Value} {xs : List α} {y0 : α} {B U B' U' : Nat} (ht : P.underlying t = some (.slice e)) (hi : TI P e s z b) (hz : z.cells.size = s) (hs : 0 < s) (hx : evF N ρ x = v) (hy : evF N ρ y = a) (hv : Fr (owS s E e) B U w.heap v xs) (hB : B ≤ w.heap.size)
    (ha : Fr (owS s E e) B' U' w.heap a [y0]) (hU : U ≤ B') (hBB : B ≤ B') (hbytes : (xs.length + 1) * b ≤ 140737488355328) (hmx : xs.length + 1 ≤ maxLen) (hu : Up ops N ρ ⟨some d, .call ⟨.builtin .append, #[x, y], #[t, t]⟩, ty, pos, aft, g⟩)
    (h : ∀ v1 w1 F, Chg F w w1 → (∀ c ∈ F, B ≤ c ∧ c < U) → Fr (owS s E e) B w1.heap.size w1.heap v1 (xs ++ [y0]) → LW P ops w0 Q os ks (mk N (upd ρ d v1)) w1) :
    LW P ops w0 Q (⟨some d, .call ⟨.builtin .append, #[x, y], #[t, t]⟩, ty, pos, aft, g⟩ :: os) (4 :: ks) (mk N ρ) w := by
  obtain ⟨v1, w1, F, r1, r2, r3, r4⟩ := run_appS (P := P) (ty := ty) hE ht hi hz hs hv hB ha hU hBB hbytes hmx
  exact lw_e rfl hu v1 w1 (by simp only [execOp, resolve, invoke, builtin, List.map_toArray, List.map_cons, List.map_nil, Sem.run_bind, Sem.run_pure, Result.andThen_ok, hx, hy, r1]) (h v1 w1 F r3 r4 r2)
theorem e_appQ (hE : GoodN s E) {x y : Operand} {v a : Value} {xs : List α} {y0 : α} {B U B' U' : Nat} (ht : P.underlying t = some (.slice e)) (hi : TI P e s z b) (hz : z.cells.size = s) (hs : 0 < s) (hx : evF N ρ x = v) (hy : evF N ρ y = a) (hv : Fr (owS s E e) B U w.heap v xs)
    (ha : Fr (owS s E e) B' U' w.heap a [y0]) (hU : U ≤ B') (hbytes : (xs.length + 1) * b ≤ 140737488355328) (hmx : xs.length + 1 ≤ maxLen) (hu : Up ops N ρ ⟨some d, .call ⟨.builtin .append, #[x, y], #[t, t]⟩, ty, pos, aft, g⟩)
    (h : ∀ v1 w1 F, Chg F w w1 → (∀ c ∈ F, B ≤ c ∧ c < U) → FrP (owS s E e) (fun b => (B ≤ b ∧ b < U) ∨ (B' ≤ b ∧ b < U') ∨ b = w.heap.size) w1.heap v1 (xs ++ [y0]) → LW P ops w0 Q os ks (mk N (upd ρ d v1)) w1) :
    LW P ops w0 Q (⟨some d, .call ⟨.builtin .append, #[x, y], #[t, t]⟩, ty, pos, aft, g⟩ :: os) (4 :: ks) (mk N ρ) w := by
  obtain ⟨v1, w1, F, r1, r2, r3, r4⟩ := run_appQ (P := P) (ty := ty) hE ht hi hz hs (S := fun b => B ≤ b ∧ b < U) (T := fun b => B' ≤ b ∧ b < U') hv ha (fun b h1 h2 => by omega) hbytes hmx
  exact lw_e rfl hu v1 w1 (by simp only [execOp, resolve, invoke, builtin, List.map_toArray, List.map_cons, List.map_nil, Sem.run_bind, Sem.run_pure, Result.andThen_ok, hx, hy, r1]) (h v1 w1 F r3 r4 r2)
end ops
theorem frNilS {α : Type} {s : Nat} {E : StandN α} {e : TypeId} (B U : Nat) (H : Array Obj) : Fr (owS s E e) B U H (.slice none 0 0) ([] : List α) := ⟨[], .inl ⟨rfl, rfl, rfl⟩, List.nodup_nil, fun c hc => by cases hc⟩
end Go.Proofs.Ytjnbnlniafmblaa
namespace Go.Proofs.Ytjnbnlniafmblaa
open Go Go.RowKit
set_option linter.unusedVariables false
set_option linter.unusedSimpArgs false
theorem exR_mk {a b c k : Int} {l : List Ex} (h1 : -9223372036854775808 ≤ a ∧ a ≤ 9223372036854775807) (h2 : -9223372036854775808 ≤ b ∧ b ≤ 9223372036854775807) (h3 : -9223372036854775808 ≤ c ∧ c ≤ 9223372036854775807) (h4 : -9223372036854775808 ≤ k ∧ k ≤ 9223372036854775807) : exR (.mk a b c k l) := ⟨h1, h2, h3, h4⟩
theorem RN.of_frF2 {e e' : TypeId} {d B U : Nat} {H : Array Obj} {v : Value} {S : List Nat} {xs : List Fn} (h : Fr (owS 3 (oFn e d) e') B U H v xs) (hS : ∀ b ∈ S, b < B ∨ U ≤ b) : RP S d H v xs := by
  obtain ⟨F, h, _, hF⟩ := h
  exact ⟨F, (h.rd (good_oFn e d)).imp fun h => oFn_rd e h, fun b hb hm => by have := hF b hb; have := hS b hm; omega⟩
theorem FrN.mk1 {e : TypeId} {d B U : Nat} {H : Array Obj} {v : Value} {x : Ex} (hd : 1 ≤ d) (hr : exR x) (h : Fr (owS 5 (oEx e (d - 1)) e) B U H v x.kids) : FrN (oEx e d) B U H (exC x v) x := by
  obtain ⟨d, rfl⟩ : ∃ k, d = k + 1 := ⟨d - 1, by omega⟩
  obtain ⟨G, h1, h2, h3⟩ := h
  exact ⟨G, ⟨v, rfl, hr, h1⟩, h2, h3⟩
theorem FrN.mkF {e : TypeId} {d B U : Nat} {H : Array Obj} {v : Value} {x : Fn} (hr : i64 x.params) (h : Fr (owS 5 (oEx e d) e) B U H v x.outs) : FrN (oFn e d) B U H (fnC x v) x := by
  obtain ⟨G, h1, h2, h3⟩ := h
  exact ⟨G, ⟨v, rfl, hr, h1⟩, h2, h3⟩
namespace Jx
variable [J : JR] {P : Program} {ops : Array Oper} {w0 : World} {Q : Act → World → Prop}
end Jx
end Go.Proofs.Ytjnbnlniafmblaa
namespace Go.Proofs.Ytjnbnlniafmblaa
open Go Go.RowKit
set_option linter.unusedVariables false
set_option linter.unusedSimpArgs false
theorem i64_mk {a : Int} (h : -9223372036854775808 ≤ a ∧ a ≤ 9223372036854775807) : i64 a := h
section str
variable {P : Program} {ops : Array Oper} {w0 : World} {Q : Act → World → Prop} {os : List Oper} {ks : List Nat} {N : Nat} {ρ : Nat → Value} {w : World}
  {d : Nat} {ty : TypeId} {pos : String} {aft : Array Edge} {g : Option (Nat × Bool)} {t e : TypeId}
theorem q_byteE {st dt : TypeId} {x : Operand} {v : Value} {n : Int} {B U : Nat} (hs : P.underlying st = some (.slice e)) (he : P.underlying e = some (.int .u8)) (hd : P.underlying dt = some .string) (hx : evF N ρ x = v) (hv : Fr (owL rV e) B U w.heap v [.int .u8 n])
    (hu : Up ops N ρ ⟨some d, .convert st dt x, ty, pos, aft, g⟩) (h : LW P ops w0 Q os ks (mk N (upd ρ d (.string ⟨#[UInt8.ofNat n.toNat]⟩))) w) :
    LW P ops w0 Q (⟨some d, .convert st dt x, ty, pos, aft, g⟩ :: os) (2 :: ks) (mk N ρ) w := by
  obtain ⟨F, hv, _, _⟩ := hv
  rcases hv with ⟨_, hc, _⟩ | ⟨us, b, cap, cur, F', hels, rfl, hg, q1, q2, q3, q4, rfl⟩
  · cases hc
  · obtain ⟨rfl, rfl⟩ := els_rVe hels
    refine lw_q (by decide) rfl hu _ (fun w' hcl => ?_) h
    have hcl : Ext w w' := hcl
    have hcb : w'.heap[b]? = w.heap[b]? := hcl.heap (getElem?_lt hg)
    have hlc := run_loadCells_list (P := P) w' ⟨b, 0, none⟩ [.int .u8 n] (fun j u hj => by
      rw [add_mk, cell_cellH]
      simp only [cellH, hcb, hg]
      have hj0 : j = 0 := by have := (List.getElem?_eq_some_iff.1 hj).1; simpa using this
      subst hj0
      have e1 : cur.toList[0]? = some (.int .u8 n) := by
        have : (cur.toList.take 1)[0]? = some (.int .u8 n) := by rw [show cur.toList.take 1 = [.int .u8 n] from q4]; rfl
        rwa [List.getElem?_take, if_pos (by decide)] at this
      have e2 : u = .int .u8 n := by simpa using hj.symm
      rw [e2]
      simpa using e1)
    have hb := run_bytesToString (P := P) w' ⟨b, 0, none⟩ 1 cap [n] (by simpa using hlc)
    have hr := run_convert_bytes_string (P := P) w' st dt e (some ⟨b, 0, none⟩) 1 cap hs he hd
    simp only [execOp, hx, List.length_singleton, Sem.run_bind, hr, hb, Result.andThen_ok, Sem.run_pure]
    rfl
end str
theorem oEx_up (e : TypeId) : ∀ {d : Nat} {H : Array Obj} {cs : List Value} {x : Ex} {F : List Nat}, oEx e d H cs x F → oEx e (d + 1) H cs x F
  | 0, _, _, _, _, h => h.elim
  | d + 1, _, _, _, _, ⟨v, h1, h2, h3⟩ => ⟨v, h1, h2, h3.imp fun h => oEx_up e h⟩
theorem oEx_le (e : TypeId) {d : Nat} {H : Array Obj} {cs : List Value} {x : Ex} {F : List Nat} (h : oEx e d H cs x F) : ∀ {d' : Nat}, d ≤ d' → oEx e d' H cs x F := by
  intro d' hd
  induction hd with
  | refl => exact h
  | step _ ih => exact oEx_up e ih
theorem FrN.le {e : TypeId} {d d' B U : Nat} {H : Array Obj} {cs : List Value} {x : Ex} (h : FrN (oEx e d) B U H cs x) (hd : d ≤ d') : FrN (oEx e d') B U H cs x := by
  obtain ⟨G, h1, h2, h3⟩ := h
  exact ⟨G, oEx_le e h1 hd, h2, h3⟩
section res
variable {P : Program} {N : Nat} {ρ : Nat → Value} {w : World}
theorem run_tmps : ∀ (l : List Nat), (((l.map ResultVar.tmp).mapM (m := Sem) fun
    | .tmp t => pure ((mk N ρ).tmps.getD t undef)
    | .cell a t => do loadVar t (← asAddr ((mk N ρ).tmps.getD a undef)))).run P w = .ok (l.map fun t => evF N ρ (.tmp t)) w := by
  intro l
  induction l with
  | nil => rfl
  | cons t l ih =>
    simp only [List.map_cons, List.mapM_cons, Sem.run_bind, Sem.run_pure, Result.andThen_ok, mk_getD] at ih ⊢
    rw [ih]
    rfl
/-- Results of which the first lies in a box. -/
theorem post_retC {fn : Func} {R : Ending → World → Prop} {k s b t0 : Nat} {ts : List Nat} {ty : TypeId} {cs : List Value} (vs : List Value) (hr : fn.results = (ResultVar.cell k ty :: ((t0 :: ts).map ResultVar.tmp)).toArray) (ha : aggTy P ty s = true) (hv : evF N ρ (.tmp k) = .pointer (some ⟨b, 0, none⟩)) (hb : BX w.heap b cs) (hl : cs.length = s)
    (hvs : ((t0 :: ts).map fun t => evF N ρ (.tmp t)) = vs) (h : R (.returned (.tuple (.agg cs.toArray :: vs).toArray)) w) : bodyPost P fn R .ret (mk N ρ) w := by
  subst hvs
  refine ⟨rfl, _, ?_, h⟩
  have hld := run_loadVarA (P := P) ha (LD.of_box hb) hl
  have hg : (mk N ρ).tmps.getD k undef = .pointer (some ⟨b, 0, none⟩) := by rw [mk_getD, hv]
  have hi : (asAddr (.pointer (some ⟨b, 0, none⟩))).run P w = .ok ⟨b, 0, none⟩ w := rfl
  have key := run_tmps (P := P) (N := N) (ρ := ρ) (w := w) (t0 :: ts)
  unfold results
  rw [hr]
  simp only [List.mapM_toArray, Sem.run_bind, Sem.run_map]
  have hfull : (((ResultVar.cell k ty :: ((t0 :: ts).map ResultVar.tmp)).mapM (m := Sem) fun
    | .tmp t => pure ((mk N ρ).tmps.getD t undef)
    | .cell a t => do loadVar t (← asAddr ((mk N ρ).tmps.getD a undef)))).run P w = .ok (.agg cs.toArray :: ((t0 :: ts).map fun t => evF N ρ (.tmp t))) w := by
    rw [List.mapM_cons]
    simp only [Sem.run_bind, Sem.run_pure, hg, hi, hld, Result.andThen_ok]
    rw [key]
    rfl
  refine (congrArg (fun r => (Result.andThen (Result.andThen r fun a w' => Result.ok a.toArray w') fun a w' => Result.ok (if h : a.size = 1 then a[0] else Value.tuple a) w')) hfull).trans ?_
  simp only [Result.andThen_ok]
  rfl
end res
end Go.Proofs.Ytjnbnlniafmblaa
namespace Go.Proofs.Ytjnbnlniafmblaa
open Go Go.RowKit
set_option linter.unusedVariables false
set_option linter.unusedSimpArgs false
/-- So many variables asq kids. -/
def varL (i : Nat) : Nat → List Ex
  | 0 => []
  | r + 1 => .mk 2 ((i : Nat) : Int) 0 0 [] :: varL (i + 1) r
theorem varL_len : ∀ (r i : Nat), (varL i r).length = r
  | 0, _ => rfl
  | r + 1, i => by show (varL (i + 1) r).length + 1 = _; rw [varL_len r]
theorem varL_snoc : ∀ (r i : Nat), varL i (r + 1) = varL i r ++ [.mk 2 ((i + r : Nat) : Int) 0 0 []]
  | 0, i => rfl
  | r + 1, i => by
    show _ :: varL (i + 1) (r + 1) = _ :: varL (i + 1) r ++ _
    rw [varL_snoc r (i + 1), show i + 1 + r = i + (r + 1) from by omega]; rfl
end Go.Proofs.Ytjnbnlniafmblaa
namespace Go.Proofs.Ytjnbnlniafmblaa
open Go Go.RowKit
set_option linter.unusedVariables false
set_option linter.unusedSimpArgs false
section ops
variable {P : Program} {ops : Array Oper} {w0 : World} {Q : Act → World → Prop} {os : List Oper} {ks : List Nat} {N : Nat} {ρ : Nat → Value} {w : World}
  {d : Nat} {ty : TypeId} {pos : String} {aft : Array Edge} {g : Option (Nat × Bool)} {t e : TypeId} {z : Value} {b s : Nat} {α : Type} {E : StandN α}
/-- A new slice of one struct that owns older blocks. -/
theorem r_oneQ (hE : GoodN s E) {x : Operand} {cs : List Value} {y : α} {B U : Nat} (ht : P.underlying t = some (.slice e)) (hi : TI P e s z b) (hz : z.cells.size = s) (hs : 0 < s ∧ s ≤ 1000) (hx : evF N ρ x = .agg cs.toArray) (hy : FrN E B U w.heap cs y)
    (hu : Up ops N ρ ⟨some d, .buildSlice t 1 #[(0, x)], ty, pos, aft, g⟩)
    (h : ∀ v w1, Ext w w1 → w1.heap.size = w.heap.size + 1 → FrP (owS s E e) (fun b => (B ≤ b ∧ b < U) ∨ b = w.heap.size) w1.heap v [y] → LW P ops w0 Q os ks (mk N (upd ρ d v)) w1) :
    LW P ops w0 Q (⟨some d, .buildSlice t 1 #[(0, x)], ty, pos, aft, g⟩ :: os) (3 :: ks) (mk N ρ) w := by
  obtain ⟨F, h1, h2, h3⟩ := hy
  have hl := hE.len h1
  have hr := run_bsS (P := P) (w := w) ht hi hs.1 hs.2 hz hl
  have hrun : (execOp (evF N ρ) ⟨some d, .buildSlice t 1 #[(0, x)], ty, pos, aft, g⟩).run P w = .ok (.value (.slice (some ⟨w.heap.size, 0, none⟩) 1 1)) (w.alloc (.cells cs.toArray e)) := by
    simp only [execOp, List.map_toArray, List.map_cons, List.map_nil, Sem.run_bind, hx, hr, Result.andThen_ok, Sem.run_pure]
  refine lw_r rfl hu _ _ hrun (ext_alloc _ _) (h _ _ (ext_alloc _ _) (by simp) ?_)
  have hn := owS_new (e := e) (w := w) hE (css := [cs]) (xs := [y]) (F := F ++ []) (cur := cs.toArray) (cap := 1) ⟨F, [], rfl, h1, rfl⟩ (by simp) (by simp [maxLen]) (by simp [hl]) (by simp [← hl])
  refine ⟨_, hn, ?_, fun c hc => ?_⟩
  · rw [List.append_nil, List.nodup_cons]
    exact ⟨fun hm => by have := hE.lt h1 _ hm; omega, h2⟩
  · rcases List.mem_cons.1 hc with rfl | hc
    · exact .inr rfl
    · exact .inl (h3 c (by simpa using hc))
theorem e_appG (hE : GoodN s E) {x y : Operand} {v a : Value} {xs : List α} {y0 : α} {B U : Nat} {T : Nat → Prop} (ht : P.underlying t = some (.slice e)) (hi : TI P e s z b) (hz : z.cells.size = s) (hs : 0 < s) (hx : evF N ρ x = v) (hy : evF N ρ y = a) (hv : Fr (owS s E e) B U w.heap v xs)
    (ha : FrP (owS s E e) T w.heap a [y0]) (hT : ∀ b, (B ≤ b ∧ b < U) → T b → False) (hbytes : (xs.length + 1) * b ≤ 140737488355328) (hmx : xs.length + 1 ≤ maxLen) (hu : Up ops N ρ ⟨some d, .call ⟨.builtin .append, #[x, y], #[t, t]⟩, ty, pos, aft, g⟩)
    (h : ∀ v1 w1 F, Chg F w w1 → (∀ c ∈ F, B ≤ c ∧ c < U) → FrP (owS s E e) (fun b => (B ≤ b ∧ b < U) ∨ T b ∨ b = w.heap.size) w1.heap v1 (xs ++ [y0]) → LW P ops w0 Q os ks (mk N (upd ρ d v1)) w1) :
    LW P ops w0 Q (⟨some d, .call ⟨.builtin .append, #[x, y], #[t, t]⟩, ty, pos, aft, g⟩ :: os) (4 :: ks) (mk N ρ) w := by
  obtain ⟨v1, w1, F, r1, r2, r3, r4⟩ := run_appQ (P := P) (ty := ty) hE ht hi hz hs (S := fun b => B ≤ b ∧ b < U) (T := T) hv ha hT hbytes hmx
  exact lw_e rfl hu v1 w1 (by simp only [execOp, resolve, invoke, builtin, List.map_toArray, List.map_cons, List.map_nil, Sem.run_bind, Sem.run_pure, Result.andThen_ok, hx, hy, r1]) (h v1 w1 F r3 r4 r2)
end ops
theorem varL_sz : ∀ (r i : Nat), Ex.sizes (varL i r) = r
  | 0, _ => by show Ex.sizes [] = 0; rw [Ex.sizes]
  | r + 1, i => by
    show Ex.sizes (_ :: varL (i + 1) r) = _
    rw [Ex.sizes, varL_sz r, Ex.size, Ex.sizes]; omega
end Go.Proofs.Ytjnbnlniafmblaa
namespace Go.Proofs.Ytjnbnlniafmblaa
open Go Go.RowKit
set_option linter.unusedVariables false
set_option linter.unusedSimpArgs false
theorem rn_nil2 {S : List Nat} {H : Array Obj} : RN S (rdL (rdL rI)) H (.slice none 0 0) [] := ⟨[], .inl ⟨none, 0, rfl, rfl, rfl⟩, fun b hb => by cases hb⟩
end Go.Proofs.Ytjnbnlniafmblaa
namespace Go.Proofs.Ytjnbnlniafmblaa
open Go Go.RowKit
set_option linter.unusedVariables false
set_option linter.unusedSimpArgs false
/-- One loop for each output. -/
def loopL (f m cnt : Nat) (i : Nat) : Nat → List Ex
  | 0 => []
  | r + 1 => .mk 11 ((f : Nat) : Int) ((i : Nat) : Int) ((cnt : Nat) : Int) (varL 0 m) :: loopL f m cnt (i + 1) r
theorem loopL_len (f m cnt : Nat) : ∀ (r i : Nat), (loopL f m cnt i r).length = r
  | 0, _ => rfl
  | r + 1, i => by show (loopL f m cnt (i + 1) r).length + 1 = _; rw [loopL_len f m cnt r]
theorem loopL_snoc (f m cnt : Nat) : ∀ (r i : Nat), loopL f m cnt i (r + 1) = loopL f m cnt i r ++ [.mk 11 ((f : Nat) : Int) ((i + r : Nat) : Int) ((cnt : Nat) : Int) (varL 0 m)]
  | 0, i => rfl
  | r + 1, i => by
    show _ :: loopL f m cnt (i + 1) (r + 1) = _ :: loopL f m cnt (i + 1) r ++ _
    rw [loopL_snoc f m cnt r (i + 1), show i + 1 + r = i + (r + 1) from by omega]; rfl
/-- The function of loops, the program with it. -/
def lpF (p : List Fn) (f n : Int) : Fn := ⟨⟨#[108, 111, 111, 112]⟩, (p.getD f.toNat Fn.zero).params, loopL f.toNat (p.getD f.toNat Fn.zero).params.toNat n.toNat 0 (p.getD f.toNat Fn.zero).outs.length⟩
def lpX (p : List Fn) (f n : Int) : List Fn := p ++ [lpF p f n]
/-- The first code, whether the name is there, the code, the program. -/
def wlA (p : List Fn) (f n : Int) : Int := if chC p f [] = 0 then (if inB n 0 8 = true then 0 else 2) else chC p f []
def hasL (p : List Fn) : Bool := p.any fun g => strE g.name ⟨#[108, 111, 111, 112]⟩
def wlC (p : List Fn) (f n : Int) : Int := if wlA p f n = 0 then (if hasL p = true then 4 else if okP (lpX p f n) = true then 0 else 3) else wlA p f n
def wlR (p : List Fn) (f n : Int) : List Fn := if wlC p f n = 0 then lpX p f n else []
section
variable {p : List Fn} {f n : Int}
theorem wlA_rng : 0 ≤ wlA p f n ∧ wlA p f n ≤ 2 := by
  have := chC_rng p f []
  unfold wlA; split <;> (try split) <;> omega
theorem wlA_n (h : chC p f [] ≠ 0) : wlA p f n = chC p f [] := if_neg h
theorem wlA_2 (h : chC p f [] = 0) (h2 : inB n 0 8 = false) : wlA p f n = 2 := by unfold wlA; rw [if_pos h, h2]; rfl
theorem wlA_t (h : chC p f [] = 0) (h2 : inB n 0 8 = true) : wlA p f n = 0 := by unfold wlA; rw [if_pos h, h2]; rfl
theorem wlC_n (h : wlA p f n ≠ 0) : wlC p f n = wlA p f n := if_neg h
theorem wlC_4 (h : wlA p f n = 0) (h2 : hasL p = true) : wlC p f n = 4 := by unfold wlC; rw [if_pos h, if_pos h2]
theorem wlC_3 (h : wlA p f n = 0) (h2 : hasL p = false) (h3 : okP (lpX p f n) = false) : wlC p f n = 3 := by unfold wlC; rw [if_pos h, h2, h3]; rfl
theorem wlC_t (h : wlA p f n = 0) (h2 : hasL p = false) (h3 : okP (lpX p f n) = true) : wlC p f n = 0 := by unfold wlC; rw [if_pos h, h2, h3]; rfl
theorem wlC_rng : 0 ≤ wlC p f n ∧ wlC p f n ≤ 4 := by
  have := wlA_rng (p := p) (f := f) (n := n)
  unfold wlC; split <;> (try split) <;> (try split) <;> omega
theorem wlR_n (h : wlC p f n ≠ 0) : wlR p f n = [] := if_neg h
theorem wlR_t (h : wlC p f n = 0) : wlR p f n = lpX p f n := if_pos h
theorem chC_nil (h : chC p f [] = 0) : okP p = true ∧ rnF p f = true := by
  unfold chC at h
  split at h
  · rename_i h3
    split at h
    · rename_i h4; exact ⟨h3, h4⟩
    · omega
  · omega
theorem chN_1 (h : okP p = false) : chC p f [] = 1 := by unfold chC; rw [h]; rfl
theorem chN_2 (h : okP p = true) (h2 : rnF p f = false) : chC p f [] = 2 := by unfold chC; rw [if_pos h, h2]; rfl
theorem chN_t (h : okP p = true) (h2 : rnF p f = true) : chC p f [] = 0 := by unfold chC; rw [if_pos h, if_pos h2]; rfl
theorem wlA_0 (h : wlA p f n = 0) : okP p = true ∧ rnF p f = true ∧ (0 ≤ n ∧ n ≤ 8) := by
  by_cases h1 : chC p f [] = 0
  · cases h2 : inB n 0 8 with
    | true => exact ⟨(chC_nil h1).1, (chC_nil h1).2, inB_iff.1 h2⟩
    | false => rw [wlA_2 h1 h2] at h; omega
  · rw [wlA_n h1] at h; exact absurd h h1
theorem wlC_0 (h : wlC p f n = 0) : wlA p f n = 0 ∧ hasL p = false ∧ okP (lpX p f n) = true := by
  by_cases h1 : wlA p f n = 0
  · cases h2 : hasL p with
    | true => rw [wlC_4 h1 h2] at h; omega
    | false =>
      cases h3 : okP (lpX p f n) with
      | true => exact ⟨h1, rfl, rfl⟩
      | false => rw [wlC_3 h1 h2 h3] at h; omega
  · rw [wlC_n h1] at h; exact absurd h h1
theorem wlC_a (h : chC p f [] ≠ 0) : wlC p f n = chC p f [] := by rw [wlC_n (by rw [wlA_n h]; exact h), wlA_n h]
theorem wlC_b (h : chC p f [] = 0) (h2 : inB n 0 8 = false) : wlC p f n = 2 := by rw [wlC_n (by rw [wlA_2 h h2]; omega), wlA_2 h h2]
theorem loopL_sz (f m cnt : Nat) : ∀ (r i : Nat), Ex.sizes (loopL f m cnt i r) = r * (1 + m)
  | 0, _ => by show Ex.sizes [] = _; rw [Ex.sizes]; simp
  | r + 1, i => by
    show Ex.sizes (_ :: loopL f m cnt (i + 1) r) = _
    rw [Ex.sizes, loopL_sz f m cnt r, Ex.size, varL_sz, Nat.succ_mul]; omega
theorem SzP.lp (hz : SzP p) (hv : VPr p) (hf : 0 ≤ f ∧ f < ((p.length : Nat) : Int)) : SzP (lpX p f n) := by
  intro k hk
  unfold lpX at hk ⊢
  rw [List.length_append, List.length_singleton] at hk
  by_cases h : k < p.length
  · rw [gd_l h]; exact hz k h
  · rw [gd_r (by omega)]
    have h1 := hv.par f.toNat (by omega)
    have h2 := hv.outs f.toNat (by omega)
    refine ⟨?_, ?_, ?_⟩
    · show Ex.sizes (loopL _ _ _ _ _) ≤ _
      rw [loopL_sz]
      have := Nat.mul_le_mul h2.2 (show 1 + (p.getD f.toNat Fn.zero).params.toNat ≤ 13 by omega)
      omega
    · show (loopL _ _ _ _ _).length ≤ _
      rw [loopL_len]; omega
    · show (⟨#[108, 111, 111, 112]⟩ : ByteArray).size ≤ _
      decide
theorem hasL_y {k : Nat} (hk : k < p.length) (h : strE (p.getD k Fn.zero).name ⟨#[108, 111, 111, 112]⟩ = true) : hasL p = true := by
  unfold hasL
  rw [List.any_eq_true]
  refine ⟨p.getD k Fn.zero, ?_, h⟩
  rw [List.getD_eq_getElem?_getD, List.getElem?_eq_getElem hk]
  exact List.getElem_mem hk
theorem hasL_n (h : ∀ k, k < p.length → strE (p.getD k Fn.zero).name ⟨#[108, 111, 111, 112]⟩ = false) : hasL p = false := by
  unfold hasL
  rw [List.any_eq_false]
  intro g hg
  obtain ⟨k, hk, rfl⟩ := List.mem_iff_getElem.1 hg
  have := h k hk
  rw [List.getD_eq_getElem?_getD, List.getElem?_eq_getElem hk, Option.getD_some] at this
  rw [this]; decide
end
end Go.Proofs.Ytjnbnlniafmblaa
namespace Go.Proofs.Ytjnbnlniafmblaa
open Go Go.RowKit
set_option linter.unusedVariables false
set_option linter.unusedSimpArgs false
set_option maxHeartbeats 4000000
set_option maxRecDepth 100000
attribute [local irreducible] LW
def ixF {α : Type} (p : α → Bool) (l : List α) : Int := if l.any p then ((l.findIdx p : Nat) : Int) else -1
theorem ix_yes {α : Type} {p : α → Bool} {l : List α} {k : Nat} (d : α) (h : ∀ j, j < k → p (l.getD j d) = false) (hk : k < l.length) (hp : p (l.getD k d) = true) : ((k : Nat) : Int) = ixF p l := by
  have e : ∀ j, (hj : j < l.length) → l.getD j d = l[j] := fun j hj => by simp [hj]
  have h1 : l.any p = true := List.any_eq_true.2 ⟨l[k], List.getElem_mem hk, by rw [← e k hk]; exact hp⟩
  have h2 : l.findIdx p = k := by
    rw [List.findIdx_eq hk]
    refine ⟨by rw [← e k hk]; exact hp, fun j hj => ?_⟩
    have := h j hj
    rw [e j (by omega)] at this
    exact this
  unfold ixF; rw [if_pos h1, h2]
theorem ix_no {α : Type} {p : α → Bool} {l : List α} {k : Nat} (d : α) (h : ∀ j, j < k → p (l.getD j d) = false) (hk : l.length ≤ k) : (-1 : Int) = ixF p l := by
  have h1 : l.any p = false := by
    rw [List.any_eq_false]
    intro x hx
    obtain ⟨j, hj, rfl⟩ := List.getElem_of_mem hx
    have := h j (by omega)
    have e : l.getD j d = l[j] := by simp [hj]
    rw [e] at this
    simp [this]
  unfold ixF; rw [h1]; rfl
theorem ix_ge {α : Type} (p : α → Bool) (l : List α) : decide (((0 : Nat) : Int) ≤ ixF p l) = l.any p := by
  unfold ixF
  split
  · rename_i h; rw [h]; exact decide_eq_true (by omega)
  · rename_i h; rw [Bool.not_eq_true] at h; rw [h]; exact decide_eq_false (by omega)
theorem ix_step {α : Type} {p : α → Bool} {l : List α} {k : Nat} {d : α} (h : ∀ j, j < k → p (l.getD j d) = false) (hp : p (l.getD k d) = false) : ∀ j, j < k + 1 → p (l.getD j d) = false := by
  intro j hj
  by_cases e : j = k
  · subst e; exact hp
  · exact h j (by omega)
theorem c_slices_IndexFunc___int64_int64_ (w : World) (va : Value) (a : List Int) (q : Nat) (qf qc : List Value) (p : Int → Bool) (ha : Rd (rdL rI) w.heap va a) (hcf_q : ((Try.prog.funcs[q]?).map fun fn => (fn.name != "runtime.NumGoroutine") && fn.body.isSome) = some true) (hp : ∀ (x : Int),-9223372036854775808 ≤ x ∧ x ≤ 9223372036854775807 → ∀ w1,Ext w w1 → Calls Try.prog q (qf ++ [Value.int .i64 x] ++ qc).toArray w1 (fun e w2 => e = .returned (.bool (p x)) ∧ Ext w1 w2))  :
  Calls Try.prog 133 #[va,.func (.func q) qf.toArray qc.toArray] w (fun e w' => e = .returned (.int .i64 (ixF p a)) ∧ Ext w w') := by
 refine calls_mk [va,.func (.func q) qf.toArray qc.toArray] 19 Try.func133 rfl rfl sM ?_
 have hE0 : Ext w w := Ext.refl w
 have hl_va := ha.lenle
 refine wp_seq (wp_plain _ [0] rfl (lw_tvn 1 rfl (wp_seq (wp_seq (wp_plain _ [0,0,0] rfl (lw_tv 1 rfl (q_len (v := va) u25 rfl ha.isSl zN (lw_tvn 1 rfl (wp_block ?_)))))))))
 refine c_loop (S := Nat) (fun (k : Nat) => ([(8,(.int .i64 ((k :Nat):Int))),(0,va),(1,(.func (.func q) qf.toArray qc.toArray)),(7,(.int .i64 ((a.length :Nat):Int)))] : List (Nat × Value))) (fun (k : Nat) (W : World) => Ext w W ∧ k ≤ a.length ∧ (∀ j,j < k → p (a.getD j 0) = false)) (fun (k : Nat) => a.length - k) 0 ⟨rfl,rfl,rfl,rfl,trivial⟩ ⟨hE0,sD,(by intro j hj; omega)⟩ ?_
 clear hE0
 rintro k ρ1 w1 ⟨hE1,hp1_0,hq⟩
 have hzs1 : w.heap.size ≤ w1.heap.size := hE1.size
 refine wp_seq (wp_plain _ [0] rfl ?_)
 by_cases hc2 : ((k :Nat):Int) < ((a.length :Nat):Int)
 ·
  refine q_lss true rfl rfl (decide_eq_true hc2) zN (lw_nil (wp_seq (c_cond_t rfl (wp_skip (wp_seq (wp_block (wp_seq (wp_plain _ [0,0] rfl (lw_tvn 2 rfl (wp_seq (wp_plain _ [0,0,0,0,2,3] rfl (lw_tv 3 rfl (q_idx (v := va) k u25 ti2 rfl rfl ha.isSl rfl sD zN ?_)))))))))))))
  refine q_load (p := eptr va k 1) (.inr rfl) (.int .i64 (a.getD k 0)) one2 rfl (ldH_ext hE1 (ha.getI sD).1) zN ?_
  have hcall3 := hp (a.getD k 0) (ha.getI sD).2 _ hE1
  refine lw_call q qf qc _ rfl rfl hcf_q zN hcall3 ?_
  rintro e3 w3 ⟨rfl,hX3⟩
  refine ⟨_,rfl,hX3,?_⟩
  have hzs3:=hX3.size
  have hE3:=hE1.trans hX3
  cases hc3 : p (a.getD k 0)
  ·
   refine lw_nil (c_cond_f rfl (wp_skip (wp_plain _ [0,0] rfl (q_add ((k + 1 :Nat):Int) rfl rfl (w64n oM sD) zN (lw_tvn 1 rfl ?_)))))
   exact ⟨(k + 1),_,rfl,⟨rfl,rfl,rfl,rfl,trivial⟩,⟨hE3,sD,(by exact ix_step hq (by assumption))⟩,by first | omega | (dsimp only; omega)⟩
  ·
   exact lw_nil (c_cond_t rfl (wp_seq (wp_plain _ [0,0] rfl (lw_tvn 2 rfl (wp_ret (b_ret (t_ret (t_ret (b_ret (t_ret (post_ret [4] rfl (.int .i64 ((k :Nat):Int)) rfl ⟨(ret_int (ix_yes 0 hq oM (by assumption))),hE3⟩)))))))))))
 ·
  exact q_lss false rfl rfl (decide_eq_false hc2) zN (lw_nil (wp_seq (c_cond_f rfl (wp_exit (t_exit (t_exit (c_exit_here (wp_seq (wp_plain _ [0] rfl (lw_tvn 1 rfl (wp_ret (post_ret [4] rfl (.int .i64 (-1)) rfl ⟨(ret_int (ix_no 0 hq oM)),hE1⟩))))))))))))
theorem c_slices_ContainsFunc___int64_int64_ (w : World) (va : Value) (a : List Int) (q : Nat) (qf qc : List Value) (p : Int → Bool) (ha : Rd (rdL rI) w.heap va a) (hcf_q : ((Try.prog.funcs[q]?).map fun fn => (fn.name != "runtime.NumGoroutine") && fn.body.isSome) = some true) (hp : ∀ (x : Int),-9223372036854775808 ≤ x ∧ x ≤ 9223372036854775807 → ∀ w1,Ext w w1 → Calls Try.prog q (qf ++ [Value.int .i64 x] ++ qc).toArray w1 (fun e w2 => e = .returned (.bool (p x)) ∧ Ext w1 w2))  :
  Calls Try.prog 104 #[va,.func (.func q) qf.toArray qc.toArray] w (fun e w' => e = .returned (.bool (a.any p)) ∧ Ext w w') := by
 refine calls_mk [va,.func (.func q) qf.toArray qc.toArray] 9 Try.func104 rfl rfl sM ?_
 have hE0 : Ext w w := Ext.refl w
 have hl_va := ha.lenle
 refine wp_seq (wp_plain _ [0] rfl (lw_tvn 1 rfl (wp_seq (wp_plain _ [0,0,3,0,0] rfl (lw_tv 2 rfl (lw_call 133 [] [] [va,(.func (.func q) qf.toArray qc.toArray)] rfl rfl cf133 zN (c_slices_IndexFunc___int64_int64_ _ _ _ q qf qc p (ha.ext g1 hE0) hcf_q (fun x hx w1 hw => hp x hx w1 (hE0.trans hw))) ?_))))))
 rintro e1 w1 ⟨rfl,hX1⟩
 refine ⟨_,rfl,hX1,?_⟩
 have hzs1:=hX1.size
 have hE1:=hE0.trans hX1
 exact q_geq (decide (((0 :Nat):Int) ≤ ixF p a)) rfl rfl rfl zN (lw_tvn 1 rfl (wp_ret (post_ret [4] rfl (.bool (decide (((0 :Nat):Int) ≤ ixF p a))) rfl ⟨(ret_bool (ix_ge p a)),hE1⟩)))
theorem c_impl_areNumbers (w : World) (va : Value) (a : List Int) (count : Int) (ha : Rd (rdL rI) w.heap va a) (_hcount : -9223372036854775808 ≤ count ∧ count ≤ 9223372036854775807)  :
  Calls Try.prog 65 #[va,.int .i64 count] w (fun e w' => e = .returned (.bool (decide (((a.length :Nat):Int) = count) && allN a)) ∧ Ext w w') := by
 refine calls_mk [va,.int .i64 count] 14 Try.func65 rfl rfl sM ?_
 have hE0 : Ext w w := Ext.refl w
 have hl_va := ha.lenle
 refine wp_seq (wp_plain _ [0] rfl (lw_tvn 1 rfl (wp_seq (wp_plain _ [0,0,0,0,0,0,3,0,0,0] rfl (lw_tv 1 rfl (q_len (v := va) u25 rfl ha.isSl zN (lw_tv 1 rfl ?_)))))))
 by_cases hc1 : ((a.length :Nat):Int) = count
 ·
  refine q_eql true rfl rfl (decide_eq_true hc1) zN (lw_tv 2 rfl (lw_call 104 [] [] [va,(.func (.func 111) #[] #[])] rfl rfl cf104 (zS (e := 9) rfl rfl rfl) (c_slices_ContainsFunc___int64_int64_ _ _ _ 111 [] [] (fun x => !isN x) (ha.ext g1 hE0) cf111 (fun x hx w1 hw => c_impl_areNumbers_1 w1 x hx)) ?_))
  rintro e2 w2 ⟨rfl,hX2⟩
  refine ⟨_,rfl,hX2,?_⟩
  have hzs2:=hX2.size
  have hE2:=hE0.trans hX2
  exact q_not (!(a.any (fun x => !isN x))) rfl rfl (zS (e := 9) rfl rfl rfl) (lw_tvn 2 rfl (wp_ret (post_ret [4] rfl (.bool (!(a.any (fun x => !isN x)))) rfl ⟨(ret_bool (by first | (rw [any_not]; simp [*]; done) | simp [*])),hE2⟩)))
 ·
  exact q_eql false rfl rfl (decide_eq_false hc1) zN (lw_tvn 6 rfl (wp_ret (post_ret [4] rfl (.bool false) rfl ⟨(ret_bool (by first | (rw [any_not]; simp [*]; done) | simp [*])),hE0⟩)))
end Go.Proofs.Ytjnbnlniafmblaa
namespace Go.Proofs.Ytjnbnlniafmblaa
open Go Go.RowKit
set_option linter.unusedVariables false
set_option linter.unusedSimpArgs false
set_option maxHeartbeats 4000000
set_option maxRecDepth 100000
attribute [local irreducible] LW
theorem c_impl_ExprSize (w : World) (dex : Nat) (ve : Value) (ex : Ex) (hex : RX [] dex w.heap ve ex) (hs : ex.size ≤ 1000000000) :
  Calls Try.prog 127 #[(.agg #[(.int .i64 ex.kind),(.int .i64 ex.num),(.int .i64 ex.pick),(.int .i64 ex.count),ve])] w (fun e w' => e = .returned (.int .i64 ((ex.size :Nat):Int)) ∧ Ext w w') := by
 induction dex using Nat.strongRecOn generalizing w ve ex
 rename_i dex ih
 refine calls_mk [(.agg #[(.int .i64 ex.kind),(.int .i64 ex.num),(.int .i64 ex.pick),(.int .i64 ex.count),ve])] 19 Try.func127 rfl rfl sM ?_
 have hE0 : Ext w w := Ext.refl w
 have hl_ve := hex.rn.lenle
 unfold maxLen at hl_ve
 have hsk := size_kids ex
 refine wp_seq (wp_plain _ [3,0] rfl (r_boxA (cs := #[(.int .i64 ex.kind),(.int .i64 ex.num),(.int .i64 ex.pick),(.int .i64 ex.count),ve]) rfl zN fun w1 hX1 hz1 hB1 => ?_))
 have hzs1:=hX1.size
 have hE1:=hE0.trans hX1
 replace hB1 : BX w1.heap w.heap.size [(.int .i64 ex.kind),(.int .i64 ex.num),(.int .i64 ex.pick),(.int .i64 ex.count),ve] := hB1
 refine lw_tvn 1 rfl (wp_seq (wp_plain _ [0] rfl (lw_tvn 1 rfl (wp_seq (wp_seq (wp_plain _ [0,2,0,0] rfl (q_fldP (p := (.pointer (some ⟨w.heap.size,0,none⟩))) (b := w.heap.size) (o := 0) 4 fd46_4 rfl rfl zN (q_load (p := (padd (.pointer (some ⟨w.heap.size,0,none⟩)) 4)) (.inr rfl) ve one44 rfl (hB1.ldp (i := 4) sM) zN (q_len (v := ve) u44 rfl hex.rn.isSl zN (lw_tvn 1 rfl (wp_block ?_)))))))))))
 refine c_loop (S := Nat × Nat) (fun (⟨k,sz⟩ : Nat × Nat) => ([(3,(.int .i64 ((sz :Nat):Int))),(9,(.int .i64 ((k :Nat):Int))),(7,ve),(8,(.int .i64 ((ex.kids.length :Nat):Int)))] : List (Nat × Value))) (fun (⟨k,sz⟩ : Nat × Nat) (W : World) => Ext w W ∧ k ≤ ex.kids.length ∧ sz = 1 + Ex.sizes (ex.kids.take k)) (fun (⟨k,sz⟩ : Nat × Nat) => ex.kids.length - k) (0,1) ⟨rfl,rfl,rfl,rfl,trivial⟩ ⟨hE1,sD,(by rw [List.take_zero,sizes_nil])⟩ ?_
 clear hE0 hz1 hX1 hzs1 hE1
 rintro ⟨k,sz⟩ ρ2 w2 ⟨hE2,hp2_0,hsz⟩
 have hzs2 : w.heap.size ≤ w2.heap.size := hE2.size
 refine wp_seq (wp_plain _ [0] rfl ?_)
 by_cases hc3 : ((k :Nat):Int) < ((ex.kids.length :Nat):Int)
 ·
  refine q_lss true rfl rfl (decide_eq_true hc3) zN (lw_nil (wp_seq (c_cond_t rfl (wp_skip (wp_seq (wp_block (wp_seq (wp_plain _ [0,2,3,4] rfl ?_))))))))
  have hst := sizes_step (l := ex.kids) (k := k) oM
  have hle := sizes_take ex.kids (k + 1)
  have hdt := deeps_step (l := ex.kids) (k := k) oM
  have hda := deep_size (ex.kids.getD k Ex.zero)
  refine q_idx (v := ve) k u44 tiS46 rfl rfl hex.rn.isSl rfl sD zN ?_
  obtain ⟨cs4,hr4,hl4⟩ := hex.rn.get (good_rEx dex) Ex.zero (k := k) sD
  obtain ⟨dd4,ve4,hd4,rfl,hx4⟩ := RX.of hr4
  have hln4 := hx4.rn.lenle
  unfold maxLen at hln4
  refine q_loadA (p := eptr ve k 5) (.inr rfl) [(.int .i64 ((ex.kids.getD k Ex.zero).kind)),(.int .i64 ((ex.kids.getD k Ex.zero).num)),(.int .i64 ((ex.kids.getD k Ex.zero).pick)),(.int .i64 ((ex.kids.getD k Ex.zero).count)),ve4] agg46 rfl (fun wq9 hw9 => hl4 wq9 (Chg.of_ext [] (hE2.trans hw9))) rfl zN (r_allocA (z := .agg #[.int .i64 0,.int .i64 0,.int .i64 0,.int .i64 0,.slice none 0 0]) zr46 zN fun w5 hX5 hz5 hB5 => ?_)
  have hzs5:=hX5.size
  have hE5:=hE2.trans hX5
  replace hB5 : BX w5.heap w2.heap.size [(.int .i64 0),(.int .i64 0),(.int .i64 0),(.int .i64 0),(.slice none 0 0)] := hB5
  refine e_setA (vs := [(.int .i64 ((ex.kids.getD k Ex.zero).kind)),(.int .i64 ((ex.kids.getD k Ex.zero).num)),(.int .i64 ((ex.kids.getD k Ex.zero).pick)),(.int .i64 ((ex.kids.getD k Ex.zero).count)),ve4]) agg46 rfl rfl hx4.ones hB5 rfl rfl zN fun w6 hC6 hz6 hB6 => ?_
  replace hB6 : BX w6.heap w2.heap.size [(.int .i64 ((ex.kids.getD k Ex.zero).kind)),(.int .i64 ((ex.kids.getD k Ex.zero).num)),(.int .i64 ((ex.kids.getD k Ex.zero).pick)),(.int .i64 ((ex.kids.getD k Ex.zero).count)),ve4] := hB6
  have hE6 : Ext w w6 := hC6.below hE5 (fun c hc => by have := List.mem_singleton.1 hc; omega) hE5.size
  have hzs6:=hC6.size
  refine lw_nil (wp_plain _ [0,2,3,0,0] rfl (lw_tv 1 rfl (q_loadA (p := (.pointer (some ⟨w2.heap.size,0,none⟩))) (.inr rfl) [(.int .i64 ((ex.kids.getD k Ex.zero).kind)),(.int .i64 ((ex.kids.getD k Ex.zero).num)),(.int .i64 ((ex.kids.getD k Ex.zero).pick)),(.int .i64 ((ex.kids.getD k Ex.zero).count)),ve4] agg46 rfl (fun wq9 hw9 => LD.of_box (BX.ext (w := w6) hB6 hw9)) rfl zN (lw_call 127 [] [] [(.agg #[(.int .i64 ((ex.kids.getD k Ex.zero).kind)),(.int .i64 ((ex.kids.getD k Ex.zero).num)),(.int .i64 ((ex.kids.getD k Ex.zero).pick)),(.int .i64 ((ex.kids.getD k Ex.zero).count)),ve4])] rfl rfl cf127 zN (ih dd4 oM _ ve4 (ex.kids.getD k Ex.zero) (hx4.ext hE6) oM) ?_))))
  rintro e7 w7 ⟨rfl,hX7⟩
  refine ⟨_,rfl,hX7,?_⟩
  have hzs7:=hX7.size
  have hE7:=hE6.trans hX7
  have hB6x7 := hB6.ext hX7
  refine q_add ((sz + (ex.kids.getD k Ex.zero).size :Nat):Int) rfl rfl (w64n oM oM) zN (lw_tvn 1 rfl (wp_plain _ [0,0] rfl (q_add ((k + 1 :Nat):Int) rfl rfl (w64n oM sD) zN (lw_tvn 1 rfl ?_))))
  exact ⟨((k + 1),(sz + (ex.kids.getD k Ex.zero).size)),_,rfl,⟨rfl,rfl,rfl,rfl,trivial⟩,⟨hE7,sD,oM⟩,by first | omega | (dsimp only; omega)⟩
 ·
  exact q_lss false rfl rfl (decide_eq_false hc3) zN (lw_nil (wp_seq (c_cond_f rfl (wp_exit (t_exit (t_exit (c_exit_here (wp_seq (wp_plain _ [0,0] rfl (lw_tvn 2 rfl (wp_ret (post_ret [2] rfl (.int .i64 ((sz :Nat):Int)) rfl ⟨(ret_int (by rw [hsz,sizes_all oM,hsk])),hE2⟩))))))))))))
theorem c_impl_ExprDepth (w : World) (dex : Nat) (ve : Value) (ex : Ex) (hex : RX [] dex w.heap ve ex) (hs : ex.size ≤ 1000000000) :
  Calls Try.prog 147 #[(.agg #[(.int .i64 ex.kind),(.int .i64 ex.num),(.int .i64 ex.pick),(.int .i64 ex.count),ve])] w (fun e w' => e = .returned (.int .i64 ((ex.deep :Nat):Int)) ∧ Ext w w') := by
 induction dex using Nat.strongRecOn generalizing w ve ex
 rename_i dex ih
 refine calls_mk [(.agg #[(.int .i64 ex.kind),(.int .i64 ex.num),(.int .i64 ex.pick),(.int .i64 ex.count),ve])] 20 Try.func147 rfl rfl sM ?_
 have hE0 : Ext w w := Ext.refl w
 have hl_ve := hex.rn.lenle
 unfold maxLen at hl_ve
 have hsk := size_kids ex
 have hdk := deep_kids ex
 refine wp_seq (wp_plain _ [3,0] rfl (r_boxA (cs := #[(.int .i64 ex.kind),(.int .i64 ex.num),(.int .i64 ex.pick),(.int .i64 ex.count),ve]) rfl zN fun w1 hX1 hz1 hB1 => ?_))
 have hzs1:=hX1.size
 have hE1:=hE0.trans hX1
 replace hB1 : BX w1.heap w.heap.size [(.int .i64 ex.kind),(.int .i64 ex.num),(.int .i64 ex.pick),(.int .i64 ex.count),ve] := hB1
 refine lw_tvn 1 rfl (wp_seq (wp_plain _ [0] rfl (lw_tvn 1 rfl (wp_seq (wp_seq (wp_plain _ [0,2,0,0] rfl (q_fldP (p := (.pointer (some ⟨w.heap.size,0,none⟩))) (b := w.heap.size) (o := 0) 4 fd46_4 rfl rfl zN (q_load (p := (padd (.pointer (some ⟨w.heap.size,0,none⟩)) 4)) (.inr rfl) ve one44 rfl (hB1.ldp (i := 4) sM) zN (q_len (v := ve) u44 rfl hex.rn.isSl zN (lw_tvn 1 rfl (wp_block ?_)))))))))))
 refine c_loop (S := Nat × Nat) (fun (⟨k,sz⟩ : Nat × Nat) => ([(3,(.int .i64 ((sz :Nat):Int))),(9,(.int .i64 ((k :Nat):Int))),(7,ve),(8,(.int .i64 ((ex.kids.length :Nat):Int)))] : List (Nat × Value))) (fun (⟨k,sz⟩ : Nat × Nat) (W : World) => Ext w W ∧ k ≤ ex.kids.length ∧ sz = Ex.deeps (ex.kids.take k)) (fun (⟨k,sz⟩ : Nat × Nat) => ex.kids.length - k) (0,0) ⟨rfl,rfl,rfl,rfl,trivial⟩ ⟨hE1,sD,(by rw [List.take_zero,deeps_nil])⟩ ?_
 clear hE0 hz1 hX1 hzs1 hE1
 rintro ⟨k,sz⟩ ρ2 w2 ⟨hE2,hp2_0,hsz⟩
 have hzs2 : w.heap.size ≤ w2.heap.size := hE2.size
 refine wp_seq (wp_plain _ [0] rfl ?_)
 by_cases hc3 : ((k :Nat):Int) < ((ex.kids.length :Nat):Int)
 ·
  refine q_lss true rfl rfl (decide_eq_true hc3) zN (lw_nil (wp_seq (c_cond_t rfl (wp_skip (wp_seq (wp_block (wp_seq (wp_plain _ [0,2,3,4] rfl ?_))))))))
  have hst := sizes_step (l := ex.kids) (k := k) oM
  have hle := sizes_take ex.kids (k + 1)
  have hdt := deeps_step (l := ex.kids) (k := k) oM
  have hda := deep_size (ex.kids.getD k Ex.zero)
  refine q_idx (v := ve) k u44 tiS46 rfl rfl hex.rn.isSl rfl sD zN ?_
  obtain ⟨cs4,hr4,hl4⟩ := hex.rn.get (good_rEx dex) Ex.zero (k := k) sD
  obtain ⟨dd4,ve4,hd4,rfl,hx4⟩ := RX.of hr4
  have hln4 := hx4.rn.lenle
  unfold maxLen at hln4
  refine q_loadA (p := eptr ve k 5) (.inr rfl) [(.int .i64 ((ex.kids.getD k Ex.zero).kind)),(.int .i64 ((ex.kids.getD k Ex.zero).num)),(.int .i64 ((ex.kids.getD k Ex.zero).pick)),(.int .i64 ((ex.kids.getD k Ex.zero).count)),ve4] agg46 rfl (fun wq9 hw9 => hl4 wq9 (Chg.of_ext [] (hE2.trans hw9))) rfl zN (r_allocA (z := .agg #[.int .i64 0,.int .i64 0,.int .i64 0,.int .i64 0,.slice none 0 0]) zr46 zN fun w5 hX5 hz5 hB5 => ?_)
  have hzs5:=hX5.size
  have hE5:=hE2.trans hX5
  replace hB5 : BX w5.heap w2.heap.size [(.int .i64 0),(.int .i64 0),(.int .i64 0),(.int .i64 0),(.slice none 0 0)] := hB5
  refine e_setA (vs := [(.int .i64 ((ex.kids.getD k Ex.zero).kind)),(.int .i64 ((ex.kids.getD k Ex.zero).num)),(.int .i64 ((ex.kids.getD k Ex.zero).pick)),(.int .i64 ((ex.kids.getD k Ex.zero).count)),ve4]) agg46 rfl rfl hx4.ones hB5 rfl rfl zN fun w6 hC6 hz6 hB6 => ?_
  replace hB6 : BX w6.heap w2.heap.size [(.int .i64 ((ex.kids.getD k Ex.zero).kind)),(.int .i64 ((ex.kids.getD k Ex.zero).num)),(.int .i64 ((ex.kids.getD k Ex.zero).pick)),(.int .i64 ((ex.kids.getD k Ex.zero).count)),ve4] := hB6
  have hE6 : Ext w w6 := hC6.below hE5 (fun c hc => by have := List.mem_singleton.1 hc; omega) hE5.size
  have hzs6:=hC6.size
  refine lw_nil (wp_plain _ [0,2,3,0,0] rfl (lw_tv 1 rfl (q_loadA (p := (.pointer (some ⟨w2.heap.size,0,none⟩))) (.inr rfl) [(.int .i64 ((ex.kids.getD k Ex.zero).kind)),(.int .i64 ((ex.kids.getD k Ex.zero).num)),(.int .i64 ((ex.kids.getD k Ex.zero).pick)),(.int .i64 ((ex.kids.getD k Ex.zero).count)),ve4] agg46 rfl (fun wq9 hw9 => LD.of_box (BX.ext (w := w6) hB6 hw9)) rfl zN (lw_call 147 [] [] [(.agg #[(.int .i64 ((ex.kids.getD k Ex.zero).kind)),(.int .i64 ((ex.kids.getD k Ex.zero).num)),(.int .i64 ((ex.kids.getD k Ex.zero).pick)),(.int .i64 ((ex.kids.getD k Ex.zero).count)),ve4])] rfl rfl cf147 zN (ih dd4 oM _ ve4 (ex.kids.getD k Ex.zero) (hx4.ext hE6) oM) ?_))))
  rintro e7 w7 ⟨rfl,hX7⟩
  refine ⟨_,rfl,hX7,?_⟩
  have hzs7:=hX7.size
  have hE7:=hE6.trans hX7
  have hB6x7 := hB6.ext hX7
  refine q_max ((max sz ((ex.kids.getD k Ex.zero).deep) :Nat):Int) oM rfl rfl zN (lw_tvn 1 rfl (wp_plain _ [0,0] rfl (q_add ((k + 1 :Nat):Int) rfl rfl (w64n oM sD) zN (lw_tvn 1 rfl ?_))))
  exact ⟨((k + 1),(max sz ((ex.kids.getD k Ex.zero).deep))),_,rfl,⟨rfl,rfl,rfl,rfl,trivial⟩,⟨hE7,sD,oM⟩,by first | omega | (dsimp only; omega)⟩
 ·
  refine q_lss false rfl rfl (decide_eq_false hc3) zN (lw_nil (wp_seq (c_cond_f rfl (wp_exit (t_exit (t_exit (c_exit_here (wp_seq (wp_plain _ [0,0,0] rfl ?_)))))))))
  have h8 := deeps_all (l := ex.kids) (k := k) oM
  have h9 := deep_size ex
  exact lw_tv 1 rfl (q_add ((sz + 1 :Nat):Int) rfl rfl (w64n oM oM) zN (lw_tvn 1 rfl (wp_ret (post_ret [2] rfl (.int .i64 ((sz + 1 :Nat):Int)) rfl ⟨(ret_int (by rw [hsz,deeps_all oM,hdk])),hE2⟩))))
end Go.Proofs.Ytjnbnlniafmblaa
namespace Go.Proofs.Ytjnbnlniafmblaa
open Go Go.RowKit
set_option linter.unusedVariables false
set_option linter.unusedSimpArgs false
set_option maxHeartbeats 4000000
set_option maxRecDepth 100000
attribute [local irreducible] LW
theorem not_f {b : Bool} (h : (!b) = false) : b = true := by cases b <;> simp_all
theorem not_t {b : Bool} (h : (!b) = true) : b = false := by cases b <;> simp_all
theorem wf_ret {p : List Fn} {funcs vars : Int} {e : Ex} {b : Bool} (h : e.kids.length = 0 ∨ b = false) (hb : wfN p funcs vars e = b) : Ending.returned (.bool b) = .returned (.bool (wf p funcs e vars)) := by
  rcases h with h | h
  · rw [wf_leaf h, hb]
  · subst h; rw [← wf_bad hb]
theorem z148_0 {p : Prop} (h : p := by first | exact ret_bool (wf_good hwn fun j hj => hall j oM) | exact ret_bool (wf_kid (k := k) oM (by first | (rw [if_pos oM]) | (rw [if_neg oM])) (not_t ‹_›)) | exact wf_ret (by first | exact .inr rfl | (left; omega) | (left; simp_all <;> omega)) (by (have hp9 := hpl.symm; clear hpl; unfold wfN inB; first | (simp [*]; done) | (simp [*]; omega) | (simp [*] <;> intros <;> omega) | (simp_all <;> omega)))) : p := h
theorem z148_1 {p : Prop} (h : p := by (have hp9 := hpl.symm; clear hpl; unfold wfN inB; first | (simp [*]; done) | (simp [*]; omega) | (simp [*] <;> intros <;> omega) | (simp_all <;> omega))) : p := h
theorem z148_2 {p : Prop} (h : p := by intro j hj; by_cases e9 : j = k; (rw [e9]; first | (rw [if_pos oM]; exact not_f ‹_›) | (rw [if_neg oM]; exact not_f ‹_›)); exact hall j oM) : p := h
theorem z148_3 {p : Prop} (h : p := by unfold plainB; first | (simp [*]; done) | (simp [*]; intros; omega) | (simp [*]; omega)) : p := h
theorem z148_4 {p : Prop} (h : p := by first | exact (decide_eq_true oM).symm | exact decide_eq_decide.2 oM) : p := h
theorem c_impl_checker_isFormed (w : World) (dp : Nat) (vp : Value) (p : List Fn) (funcs : Int) (dex : Nat) (ve : Value) (ex : Ex) (vars : Int) (hp : RP [] dp w.heap vp p) (_hfuncs : -9223372036854775808 ≤ funcs ∧ funcs ≤ 9223372036854775807) (hex : RX [] dex w.heap ve ex) (_hvars : -9223372036854775808 ≤ vars ∧ vars ≤ 9223372036854775807) (hs : 0 ≤ vars ∧ vars + (ex.deep : Int) ≤ 2000000000) (hf : 0 ≤ funcs ∧ funcs ≤ (p.length : Int)) :
  Calls Try.prog 148 #[(.agg #[vp,(.int .i64 funcs)]),(.agg #[(.int .i64 ex.kind),(.int .i64 ex.num),(.int .i64 ex.pick),(.int .i64 ex.count),ve]),.int .i64 vars] w (fun e w' => e = .returned (.bool (wf p funcs ex vars)) ∧ Ext w w') := by
 induction dex using Nat.strongRecOn generalizing w dp vp p funcs ve ex vars
 rename_i dex ih
 refine calls_mk [(.agg #[vp,(.int .i64 funcs)]),(.agg #[(.int .i64 ex.kind),(.int .i64 ex.num),(.int .i64 ex.pick),(.int .i64 ex.count),ve]),.int .i64 vars] 177 Try.func148 rfl rfl sM ?_
 have hE0 : Ext w w := Ext.refl w
 have hl_vp := hp.lenle
 unfold maxLen at hl_vp
 have hl_ve := hex.rn.lenle
 unfold maxLen at hl_ve
 have hdk := deep_kids ex
 refine wp_seq (wp_plain _ [3,3,0] rfl (r_boxA (cs := #[vp,(.int .i64 funcs)]) rfl zN fun w1 hX1 hz1 hB1 => ?_))
 have hzs1:=hX1.size
 have hE1:=hE0.trans hX1
 replace hB1 : BX w1.heap w.heap.size [vp,(.int .i64 funcs)] := hB1
 have hq3 := hB1.lt
 refine r_boxA (cs := #[(.int .i64 ex.kind),(.int .i64 ex.num),(.int .i64 ex.pick),(.int .i64 ex.count),ve]) rfl zN fun w2 hX2 hz2 hB2 => ?_
 have hzs2:=hX2.size
 have hE2:=hE1.trans hX2
 have hB1x2 := hB1.ext hX2
 replace hB2 : BX w2.heap w1.heap.size [(.int .i64 ex.kind),(.int .i64 ex.num),(.int .i64 ex.pick),(.int .i64 ex.count),ve] := hB2
 refine lw_tvn 1 rfl (wp_seq (wp_plain _ [0,2,0,0] rfl (q_fldP (p := (.pointer (some ⟨w1.heap.size,0,none⟩))) (b := w1.heap.size) (o := 0) 4 fd46_4 rfl rfl zN (q_load (p := (padd (.pointer (some ⟨w1.heap.size,0,none⟩)) 4)) (.inr rfl) ve one44 rfl (hB2.ldp (i := 4) sM) zN (q_len (v := ve) u44 rfl hex.rn.isSl zN (lw_tvn 1 rfl (wp_seq (c_cut (S := Bool) (fun (pl : Bool) => ([(8,(.bool pl)),(2,(.int .i64 vars)),(3,(.pointer (some ⟨w.heap.size,0,none⟩))),(4,(.pointer (some ⟨w1.heap.size,0,none⟩))),(7,(.int .i64 ((ex.kids.length :Nat):Int)))] : List (Nat × Value))) (fun (pl : Bool) (W : World) => Ext w W ∧ BX W.heap w.heap.size [vp,(.int .i64 funcs)] ∧ BX W.heap w1.heap.size [(.int .i64 ex.kind),(.int .i64 ex.num),(.int .i64 ex.pick),(.int .i64 ex.count),ve] ∧ pl = plainB ex) ?_ ?_))))))))
 ·
  refine wp_plain _ [0,2,0,0,0,2,0,0,0] rfl (q_fldP (p := (.pointer (some ⟨w1.heap.size,0,none⟩))) (b := w1.heap.size) (o := 0) 2 fd46_2 rfl rfl zN (q_load (p := (padd (.pointer (some ⟨w1.heap.size,0,none⟩)) 2)) (.inr rfl) (.int .i64 ex.pick) one2 rfl (hB2.ldp (i := 2) sM) zN ?_))
  by_cases hc5 : ex.pick = ((0 :Nat):Int)
  ·
   exact q_eql true rfl rfl (decide_eq_true hc5) zN (lw_tv 1 rfl (q_fldP (p := (.pointer (some ⟨w1.heap.size,0,none⟩))) (b := w1.heap.size) (o := 0) 3 fd46_3 rfl rfl (zS (e := 19) rfl rfl rfl) (q_load (p := (padd (.pointer (some ⟨w1.heap.size,0,none⟩)) 3)) (.inr rfl) (.int .i64 ex.count) one2 rfl (hB2.ldp (i := 3) sM) (zS (e := 19) rfl rfl rfl) (q_eql (decide (ex.count = ((0 :Nat):Int))) rfl rfl rfl (zS (e := 19) rfl rfl rfl) (lw_tvn 2 rfl ⟨(decide (ex.count = ((0 :Nat):Int))),_,rfl,⟨rfl,rfl,rfl,rfl,rfl,trivial⟩,⟨hE2,hB1x2,hB2,z148_3⟩⟩)))))
  ·
   exact q_eql false rfl rfl (decide_eq_false hc5) zN (lw_tvn 6 rfl ⟨false,_,rfl,⟨rfl,rfl,rfl,rfl,rfl,trivial⟩,⟨hE2,hB1x2,hB2,z148_3⟩⟩)
 ·
  clear hE0 hz1 hX1 hzs1 hE1 hz2 hX2 hzs2 hE2
  rintro pl ρ4 w4 ⟨hE4,hL4_0,hL4_1,hpl⟩
  have hzs4 : w.heap.size ≤ w4.heap.size := hE4.size
  have hq6 := hL4_0.lt
  have hq7 := hL4_1.lt
  refine wp_seq (c_cut (S := Unit) (fun (u : Unit) => ([(2,(.int .i64 vars)),(3,(.pointer (some ⟨w.heap.size,0,none⟩))),(4,(.pointer (some ⟨w1.heap.size,0,none⟩)))] : List (Nat × Value))) (fun (u : Unit) (W : World) => Ext w W ∧ BX W.heap w.heap.size [vp,(.int .i64 funcs)] ∧ BX W.heap w1.heap.size [(.int .i64 ex.kind),(.int .i64 ex.num),(.int .i64 ex.pick),(.int .i64 ex.count),ve] ∧ wfN p funcs vars ex = true) ?_ ?_)
  ·
   refine wp_seq (wp_plain _ [0,2] rfl (q_fldP (p := (.pointer (some ⟨w1.heap.size,0,none⟩))) (b := w1.heap.size) (o := 0) 0 fd46_0 rfl rfl zN (q_load (p := (padd (.pointer (some ⟨w1.heap.size,0,none⟩)) 0)) (.inr rfl) (.int .i64 ex.kind) one2 rfl (hL4_1.ldp (i := 0) sM) zN (lw_nil (wp_block (wp_seq (wp_plain _ [0,0] rfl ?_)))))))
   by_cases hc9 : ex.kind = ((1 :Nat):Int)
   ·
    refine q_eql true rfl rfl (decide_eq_true hc9) zN (lw_tvn 1 rfl (c_cond_t rfl (wp_seq (wp_plain _ [0,0,0,0,0,0,0,2,0,0,0] rfl (lw_tv 2 rfl ?_)))))
    cases hb10 : pl
    ·
     exact lw_tvn 9 rfl (wp_ret (b_ret (t_ret (post_ret [6] rfl (.bool false) rfl ⟨z148_0,hE4⟩))))
    ·
     refine lw_tv 1 rfl ?_
     by_cases hc11 : ((ex.kids.length :Nat):Int) = ((0 :Nat):Int)
     ·
      refine q_eql true rfl rfl (decide_eq_true hc11) (zS (e := 29) rfl rfl rfl) (lw_tv 2 rfl (q_fldP (p := (.pointer (some ⟨w1.heap.size,0,none⟩))) (b := w1.heap.size) (o := 0) 1 fd46_1 rfl rfl (zS (e := 33) rfl rfl rfl) (q_load (p := (padd (.pointer (some ⟨w1.heap.size,0,none⟩)) 1)) (.inr rfl) (.int .i64 ex.num) one2 rfl (hL4_1.ldp (i := 1) sM) (zS (e := 33) rfl rfl rfl) (lw_callq 112 [] [] [(.int .i64 ex.num)] rfl rfl cf112 (zS (e := 33) rfl rfl rfl) (.bool (isN ex.num)) (fun wq => c_impl_isNumber wq _ hex.rng.num) (lw_tvn 2 rfl (wp_ret (b_ret (t_ret ?_))))))))
      exact post_ret [6] rfl (.bool (isN ex.num)) rfl ⟨z148_0,hE4⟩
     ·
      exact q_eql false rfl rfl (decide_eq_false hc11) (zS (e := 29) rfl rfl rfl) (lw_tvn 7 rfl (wp_ret (b_ret (t_ret (post_ret [6] rfl (.bool false) rfl ⟨z148_0,hE4⟩)))))
   ·
    refine q_eql false rfl rfl (decide_eq_false hc9) zN (lw_tvn 1 rfl (c_cond_f rfl (wp_seq (wp_plain _ [0,0] rfl ?_))))
    by_cases hc13 : ex.kind = ((2 :Nat):Int)
    ·
     refine q_eql true rfl rfl (decide_eq_true hc13) zN (lw_tvn 1 rfl (c_cond_t rfl (wp_seq (wp_plain _ [0,0,0,0,0,0,0,2,0,0,0,0,0] rfl (lw_tv 2 rfl ?_)))))
     cases hb14 : pl
     ·
      exact lw_tvn 11 rfl (wp_ret (b_ret (t_ret (post_ret [6] rfl (.bool false) rfl ⟨z148_0,hE4⟩))))
     ·
      refine lw_tv 1 rfl ?_
      by_cases hc15 : ((ex.kids.length :Nat):Int) = ((0 :Nat):Int)
      ·
       refine q_eql true rfl rfl (decide_eq_true hc15) (zS (e := 41) rfl rfl rfl) (lw_tv 2 rfl (q_fldP (p := (.pointer (some ⟨w1.heap.size,0,none⟩))) (b := w1.heap.size) (o := 0) 1 fd46_1 rfl rfl (zS (e := 45) rfl rfl rfl) (q_load (p := (padd (.pointer (some ⟨w1.heap.size,0,none⟩)) 1)) (.inr rfl) (.int .i64 ex.num) one2 rfl (hL4_1.ldp (i := 1) sM) (zS (e := 45) rfl rfl rfl) (lw_tv 1 rfl (q_sub (vars - 1) rfl rfl (w64 oM oM) (zS (e := 45) rfl rfl rfl) (lw_callq 83 [] [] [(.int .i64 ex.num),(.int .i64 ((0 :Nat):Int)),(.int .i64 (vars - 1))] rfl rfl cf83 (zS (e := 45) rfl rfl rfl) (.bool (decide (((0 :Nat):Int) ≤ ex.num) && decide (ex.num ≤ (vars - 1)))) (fun wq => c_impl_within wq _ _ _ hex.rng.num oM oM) (lw_tvn 2 rfl (wp_ret (b_ret ?_)))))))))
       exact t_ret (post_ret [6] rfl (.bool (decide (((0 :Nat):Int) ≤ ex.num) && decide (ex.num ≤ (vars - 1)))) rfl ⟨z148_0,hE4⟩)
      ·
       exact q_eql false rfl rfl (decide_eq_false hc15) (zS (e := 41) rfl rfl rfl) (lw_tvn 9 rfl (wp_ret (b_ret (t_ret (post_ret [6] rfl (.bool false) rfl ⟨z148_0,hE4⟩)))))
    ·
     refine q_eql false rfl rfl (decide_eq_false hc13) zN (lw_tvn 1 rfl (c_cond_f rfl (wp_seq (c_cut (S := Bool) (fun (b5 : Bool) => ([(52,(.bool b5)),(2,(.int .i64 vars)),(3,(.pointer (some ⟨w.heap.size,0,none⟩))),(4,(.pointer (some ⟨w1.heap.size,0,none⟩))),(7,(.int .i64 ((ex.kids.length :Nat):Int))),(8,(.bool pl)),(25,(.int .i64 ex.kind))] : List (Nat × Value))) (fun (b5 : Bool) (W : World) => Ext w W ∧ BX W.heap w.heap.size [vp,(.int .i64 funcs)] ∧ BX W.heap w1.heap.size [(.int .i64 ex.kind),(.int .i64 ex.num),(.int .i64 ex.pick),(.int .i64 ex.count),ve] ∧ b5 = decide (ex.kind = 3 ∨ ex.kind = 4 ∨ ex.kind = 5 ∨ ex.kind = 6 ∨ ex.kind = 9)) ?_ ?_))))
     ·
      refine wp_seq (wp_plain _ [0,0] rfl ?_)
      by_cases hc18 : ex.kind = ((3 :Nat):Int)
      ·
       exact q_eql true rfl rfl (decide_eq_true hc18) zN (lw_tvn 1 rfl (c_cond_t rfl (wp_skip ⟨true,_,rfl,⟨rfl,rfl,rfl,rfl,rfl,rfl,rfl,trivial⟩,⟨hE4,hL4_0,hL4_1,z148_4⟩⟩)))
      ·
       refine q_eql false rfl rfl (decide_eq_false hc18) zN (lw_tvn 1 rfl (c_cond_f rfl (wp_seq (wp_plain _ [0,0] rfl ?_))))
       by_cases hc19 : ex.kind = ((4 :Nat):Int)
       ·
        exact q_eql true rfl rfl (decide_eq_true hc19) zN (lw_tvn 1 rfl (c_cond_t rfl (wp_skip ⟨true,_,rfl,⟨rfl,rfl,rfl,rfl,rfl,rfl,rfl,trivial⟩,⟨hE4,hL4_0,hL4_1,z148_4⟩⟩)))
       ·
        refine q_eql false rfl rfl (decide_eq_false hc19) zN (lw_tvn 1 rfl (c_cond_f rfl (wp_seq (wp_plain _ [0,0] rfl ?_))))
        by_cases hc20 : ex.kind = ((5 :Nat):Int)
        ·
         exact q_eql true rfl rfl (decide_eq_true hc20) zN (lw_tvn 1 rfl (c_cond_t rfl (wp_skip ⟨true,_,rfl,⟨rfl,rfl,rfl,rfl,rfl,rfl,rfl,trivial⟩,⟨hE4,hL4_0,hL4_1,z148_4⟩⟩)))
        ·
         refine q_eql false rfl rfl (decide_eq_false hc20) zN (lw_tvn 1 rfl (c_cond_f rfl (wp_seq (wp_plain _ [0,0] rfl ?_))))
         by_cases hc21 : ex.kind = ((6 :Nat):Int)
         ·
          exact q_eql true rfl rfl (decide_eq_true hc21) zN (lw_tvn 1 rfl (c_cond_t rfl (wp_skip ⟨true,_,rfl,⟨rfl,rfl,rfl,rfl,rfl,rfl,rfl,trivial⟩,⟨hE4,hL4_0,hL4_1,z148_4⟩⟩)))
         ·
          exact q_eql false rfl rfl (decide_eq_false hc21) zN (lw_tvn 1 rfl (c_cond_f rfl (wp_plain _ [0,0] rfl (q_eql (decide (ex.kind = ((9 :Nat):Int))) rfl rfl rfl zN (lw_tvn 1 rfl ⟨(decide (ex.kind = ((9 :Nat):Int))),_,rfl,⟨rfl,rfl,rfl,rfl,rfl,rfl,rfl,trivial⟩,⟨hE4,hL4_0,hL4_1,z148_4⟩⟩)))))
     ·
      clear hL4_1 hL4_0 hE4 hzs4
      rintro b5 ρ17 w17 ⟨hE17,hL17_0,hL17_1,h5b⟩
      have hzs17 : w.heap.size ≤ w17.heap.size := hE17.size
      have hq22 := hL17_0.lt
      have hq23 := hL17_1.lt
      cases hb24 : b5
      ·
       refine c_cond_f (by first | rfl | (show Value.bool _ = _; rw [hb24])) (wp_seq (wp_plain _ [0,0] rfl ?_))
       have h5n := of_decide_eq_false (h5b.symm.trans ‹_›)
       clear h5b
       by_cases hc25 : ex.kind = ((7 :Nat):Int)
       ·
        refine q_eql true rfl rfl (decide_eq_true hc25) zN (lw_tvn 1 rfl (c_cond_t rfl (wp_seq (wp_plain _ [0,0,0,0,2,0,0,0,0,0,0] rfl (lw_tv 1 rfl (q_not (!pl) rfl rfl zN (lw_tv 1 rfl ?_)))))))
        cases hb26 : (!pl)
        ·
         refine q_fldP (p := (.pointer (some ⟨w1.heap.size,0,none⟩))) (b := w1.heap.size) (o := 0) 1 fd46_1 rfl rfl (zS (e := 73) rfl rfl rfl) (q_load (p := (padd (.pointer (some ⟨w1.heap.size,0,none⟩)) 1)) (.inr rfl) (.int .i64 ex.num) one2 rfl (hL17_1.ldp (i := 1) sM) (zS (e := 73) rfl rfl rfl) ?_)
         by_cases hc27 : ex.num ≠ ((0 :Nat):Int)
         ·
          exact q_neq true rfl rfl (decide_eq_true hc27) (zS (e := 73) rfl rfl rfl) (lw_tvn 5 rfl (c_cond_t rfl (wp_seq (wp_plain _ [0] rfl (lw_tvn 1 rfl (wp_ret (b_ret (t_ret (post_ret [6] rfl (.bool false) rfl ⟨z148_0,hE17⟩)))))))))
         ·
          refine q_neq false rfl rfl (decide_eq_false hc27) (zS (e := 73) rfl rfl rfl) (lw_tv 3 rfl ?_)
          by_cases hc28 : ((ex.kids.length :Nat):Int) ≠ ((1 :Nat):Int)
          ·
           exact q_neq true rfl rfl (decide_eq_true hc28) (zS (e := 78) rfl rfl rfl) (lw_tvn 1 rfl (c_cond_t rfl (wp_seq (wp_plain _ [0] rfl (lw_tvn 1 rfl (wp_ret (b_ret (t_ret (post_ret [6] rfl (.bool false) rfl ⟨z148_0,hE17⟩)))))))))
          ·
           exact q_neq false rfl rfl (decide_eq_false hc28) (zS (e := 78) rfl rfl rfl) (lw_tvn 1 rfl (c_cond_f rfl (wp_skip ⟨(),_,rfl,⟨rfl,rfl,rfl,trivial⟩,⟨hE17,hL17_0,hL17_1,z148_1⟩⟩)))
        ·
         exact lw_tvn 8 rfl (c_cond_t rfl (wp_seq (wp_plain _ [0] rfl (lw_tvn 1 rfl (wp_ret (b_ret (t_ret (post_ret [6] rfl (.bool false) rfl ⟨z148_0,hE17⟩))))))))
       ·
        refine q_eql false rfl rfl (decide_eq_false hc25) zN (lw_tvn 1 rfl (c_cond_f rfl (wp_seq (wp_plain _ [0,0] rfl ?_))))
        by_cases hc29 : ex.kind = ((8 :Nat):Int)
        ·
         refine q_eql true rfl rfl (decide_eq_true hc29) zN (lw_tvn 1 rfl (c_cond_t rfl (wp_seq (wp_plain _ [0,0,0,0,2,0,0,0,0,0,0] rfl (lw_tv 1 rfl (q_not (!pl) rfl rfl zN (lw_tv 1 rfl ?_)))))))
         cases hb30 : (!pl)
         ·
          refine q_fldP (p := (.pointer (some ⟨w1.heap.size,0,none⟩))) (b := w1.heap.size) (o := 0) 1 fd46_1 rfl rfl (zS (e := 86) rfl rfl rfl) (q_load (p := (padd (.pointer (some ⟨w1.heap.size,0,none⟩)) 1)) (.inr rfl) (.int .i64 ex.num) one2 rfl (hL17_1.ldp (i := 1) sM) (zS (e := 86) rfl rfl rfl) ?_)
          by_cases hc31 : ex.num ≠ ((0 :Nat):Int)
          ·
           exact q_neq true rfl rfl (decide_eq_true hc31) (zS (e := 86) rfl rfl rfl) (lw_tvn 5 rfl (c_cond_t rfl (wp_seq (wp_plain _ [0] rfl (lw_tvn 1 rfl (wp_ret (b_ret (t_ret (post_ret [6] rfl (.bool false) rfl ⟨z148_0,hE17⟩)))))))))
          ·
           refine q_neq false rfl rfl (decide_eq_false hc31) (zS (e := 86) rfl rfl rfl) (lw_tv 3 rfl ?_)
           by_cases hc32 : ((ex.kids.length :Nat):Int) ≠ ((3 :Nat):Int)
           ·
            exact q_neq true rfl rfl (decide_eq_true hc32) (zS (e := 91) rfl rfl rfl) (lw_tvn 1 rfl (c_cond_t rfl (wp_seq (wp_plain _ [0] rfl (lw_tvn 1 rfl (wp_ret (b_ret (t_ret (post_ret [6] rfl (.bool false) rfl ⟨z148_0,hE17⟩)))))))))
           ·
            exact q_neq false rfl rfl (decide_eq_false hc32) (zS (e := 91) rfl rfl rfl) (lw_tvn 1 rfl (c_cond_f rfl (wp_skip ⟨(),_,rfl,⟨rfl,rfl,rfl,trivial⟩,⟨hE17,hL17_0,hL17_1,z148_1⟩⟩)))
         ·
          exact lw_tvn 8 rfl (c_cond_t rfl (wp_seq (wp_plain _ [0] rfl (lw_tvn 1 rfl (wp_ret (b_ret (t_ret (post_ret [6] rfl (.bool false) rfl ⟨z148_0,hE17⟩))))))))
        ·
         refine q_eql false rfl rfl (decide_eq_false hc29) zN (lw_tvn 1 rfl (c_cond_f rfl (wp_seq (c_cut (S := Bool) (fun (b10 : Bool) => ([(95,(.bool b10)),(2,(.int .i64 vars)),(3,(.pointer (some ⟨w.heap.size,0,none⟩))),(4,(.pointer (some ⟨w1.heap.size,0,none⟩))),(7,(.int .i64 ((ex.kids.length :Nat):Int)))] : List (Nat × Value))) (fun (b10 : Bool) (W : World) => Ext w W ∧ BX W.heap w.heap.size [vp,(.int .i64 funcs)] ∧ BX W.heap w1.heap.size [(.int .i64 ex.kind),(.int .i64 ex.num),(.int .i64 ex.pick),(.int .i64 ex.count),ve] ∧ b10 = decide (ex.kind = 10 ∨ ex.kind = 11)) ?_ ?_))))
         ·
          refine wp_seq (wp_plain _ [0,0] rfl ?_)
          by_cases hc34 : ex.kind = ((10 :Nat):Int)
          ·
           exact q_eql true rfl rfl (decide_eq_true hc34) zN (lw_tvn 1 rfl (c_cond_t rfl (wp_skip ⟨true,_,rfl,⟨rfl,rfl,rfl,rfl,rfl,trivial⟩,⟨hE17,hL17_0,hL17_1,z148_4⟩⟩)))
          ·
           exact q_eql false rfl rfl (decide_eq_false hc34) zN (lw_tvn 1 rfl (c_cond_f rfl (wp_plain _ [0,0] rfl (q_eql (decide (ex.kind = ((11 :Nat):Int))) rfl rfl rfl zN (lw_tvn 1 rfl ⟨(decide (ex.kind = ((11 :Nat):Int))),_,rfl,⟨rfl,rfl,rfl,rfl,rfl,trivial⟩,⟨hE17,hL17_0,hL17_1,z148_4⟩⟩)))))
         ·
          clear hL17_1 hL17_0 hE17 hzs17
          rintro b10 ρ33 w33 ⟨hE33,hL33_0,hL33_1,h10b⟩
          have hzs33 : w.heap.size ≤ w33.heap.size := hE33.size
          have hq35 := hL33_0.lt
          have hq36 := hL33_1.lt
          cases hb37 : b10
          ·
           refine c_cond_f (by first | rfl | (show Value.bool _ = _; rw [hb37])) (wp_seq (wp_plain _ [0] rfl ?_))
           have h10n := of_decide_eq_false (h10b.symm.trans ‹_›)
           clear h10b
           exact lw_tvn 1 rfl (wp_ret (b_ret (t_ret (post_ret [6] rfl (.bool false) rfl ⟨z148_0,hE33⟩))))
          ·
           refine c_cond_t (by first | rfl | (show Value.bool _ = _; rw [hb37])) (wp_seq (wp_seq (wp_plain _ [0,2,0,2,0,0,0] rfl ?_)))
           have h5k := of_decide_eq_true (h10b.symm.trans ‹_›)
           clear h10b
           refine q_fldP (p := (.pointer (some ⟨w1.heap.size,0,none⟩))) (b := w1.heap.size) (o := 0) 1 fd46_1 rfl rfl zN (q_load (p := (padd (.pointer (some ⟨w1.heap.size,0,none⟩)) 1)) (.inr rfl) (.int .i64 ex.num) one2 rfl (hL33_1.ldp (i := 1) sM) zN (q_fldP (p := (.pointer (some ⟨w.heap.size,0,none⟩))) (b := w.heap.size) (o := 0) 1 fd182_1 rfl rfl zN (q_load (p := (padd (.pointer (some ⟨w.heap.size,0,none⟩)) 1)) (.inr rfl) (.int .i64 funcs) one2 rfl (hL33_0.ldp (i := 1) sM) zN (q_sub (funcs - 1) rfl rfl (w64 oM oM) zN (lw_callq 83 [] [] [(.int .i64 ex.num),(.int .i64 ((0 :Nat):Int)),(.int .i64 (funcs - 1))] rfl rfl cf83 zN (.bool (decide (((0 :Nat):Int) ≤ ex.num) && decide (ex.num ≤ (funcs - 1)))) (fun wq => c_impl_within wq _ _ _ hex.rng.num oM oM) ?_)))))
           refine q_not (!(decide (((0 :Nat):Int) ≤ ex.num) && decide (ex.num ≤ (funcs - 1)))) rfl rfl zN (lw_nil ?_)
           cases hb39 : (!(decide (((0 :Nat):Int) ≤ ex.num) && decide (ex.num ≤ (funcs - 1))))
           ·
            refine c_cond_f (by first | rfl | (show Value.bool _ = _; rw [hb39])) (wp_skip (wp_seq (wp_plain _ [0,0,2,0,2,0,2,3,4] rfl ?_)))
            have hnr : 0 ≤ ex.num ∧ ex.num ≤ funcs - 1 := by have h9 := ‹(!(decide (((0 :Nat):Int) ≤ ex.num) && decide (ex.num ≤ funcs - 1))) = false›; simpa using h9
            refine q_fldP (p := (.pointer (some ⟨w.heap.size,0,none⟩))) (b := w.heap.size) (o := 0) 0 fd182_0 rfl rfl zN (q_fldP (p := (padd (.pointer (some ⟨w.heap.size,0,none⟩)) 0)) (b := w.heap.size) (o := 0) 0 fd52_0 rfl rfl zN (q_load (p := (padd (padd (.pointer (some ⟨w.heap.size,0,none⟩)) 0) 0)) (.inr rfl) vp one50 rfl (hL33_0.ldp (i := 0) sM) zN (q_fldP (p := (.pointer (some ⟨w1.heap.size,0,none⟩))) (b := w1.heap.size) (o := 0) 1 fd46_1 rfl rfl zN (q_load (p := (padd (.pointer (some ⟨w1.heap.size,0,none⟩)) 1)) (.inr rfl) (.int .i64 ex.num) one2 rfl (hL33_1.ldp (i := 1) sM) zN ?_))))
            refine q_idx (v := vp) ((ex.num).toNat) u50 tiS49 rfl rfl hp.isSl oM sD zN ?_
            obtain ⟨cs40,hr40,hl40⟩ := hp.get (good_rFn dp) Fn.zero (k := ((ex.num).toNat)) sD
            obtain ⟨ve40,rfl,hx40⟩ := RF.of hr40
            have hln40 := hx40.rn.lenle
            unfold maxLen at hln40
            refine q_loadA (p := eptr vp ((ex.num).toNat) 3) (.inr rfl) [(.string ((p.getD ((ex.num).toNat) Fn.zero).name)),(.int .i64 ((p.getD ((ex.num).toNat) Fn.zero).params)),ve40] agg49 rfl (fun wq9 hw9 => hl40 wq9 (Chg.of_ext [] (hE33.trans hw9))) rfl zN ?_
            have hq42 := hL33_0.lt
            have hq43 := hL33_1.lt
            refine r_allocA (z := .agg #[.string ByteArray.empty,.int .i64 0,.slice none 0 0]) zr49 zN fun w41 hX41 hz41 hB41 => ?_
            have hzs41:=hX41.size
            have hE41:=hE33.trans hX41
            have hL33_0x41 := hL33_0.ext hX41
            have hL33_1x41 := hL33_1.ext hX41
            replace hB41 : BX w41.heap w33.heap.size [(.string ByteArray.empty),(.int .i64 0),(.slice none 0 0)] := hB41
            refine e_setA (vs := [(.string ((p.getD ((ex.num).toNat) Fn.zero).name)),(.int .i64 ((p.getD ((ex.num).toNat) Fn.zero).params)),ve40]) agg49 rfl rfl hx40.ones hB41 rfl rfl zN fun w44 hC44 hz44 hB44 => ?_
            replace hB44 : BX w44.heap w33.heap.size [(.string ((p.getD ((ex.num).toNat) Fn.zero).name)),(.int .i64 ((p.getD ((ex.num).toNat) Fn.zero).params)),ve40] := hB44
            have hE44 : Ext w w44 := hC44.below hE41 (fun c hc => by have := List.mem_singleton.1 hc; omega) hE41.size
            have hzs44:=hC44.size
            have hF45 := hL33_0x41.chg hC44 (fun hm => by have := List.mem_singleton.1 hm; omega)
            have hF46 := hL33_1x41.chg hC44 (fun hm => by have := List.mem_singleton.1 hm; omega)
            refine lw_nil (wp_seq (wp_seq (wp_plain _ [0,0,2,0,0,0,2,0,2,0,0,0,0,0] rfl (lw_tv 1 rfl (q_fldP (p := (.pointer (some ⟨w33.heap.size,0,none⟩))) (b := w33.heap.size) (o := 0) 1 fd49_1 rfl rfl zN (q_load (p := (padd (.pointer (some ⟨w33.heap.size,0,none⟩)) 1)) (.inr rfl) (.int .i64 ((p.getD ((ex.num).toNat) Fn.zero).params)) one2 rfl (hB44.ldp (i := 1) sM) zN ?_))))))
            by_cases hc47 : ((ex.kids.length :Nat):Int) ≠ (p.getD ((ex.num).toNat) Fn.zero).params
            ·
             exact q_neq true rfl rfl (decide_eq_true hc47) zN (lw_tvn 10 rfl (c_cond_t rfl (wp_seq (wp_plain _ [0] rfl (lw_tvn 1 rfl (wp_ret (t_ret (b_ret (t_ret (post_ret [6] rfl (.bool false) rfl ⟨z148_0,hE44⟩))))))))))
            ·
             refine q_neq false rfl rfl (decide_eq_false hc47) zN (lw_tv 1 rfl (q_fldP (p := (.pointer (some ⟨w1.heap.size,0,none⟩))) (b := w1.heap.size) (o := 0) 2 fd46_2 rfl rfl (zS (e := 116) rfl rfl rfl) (q_load (p := (padd (.pointer (some ⟨w1.heap.size,0,none⟩)) 2)) (.inr rfl) (.int .i64 ex.pick) one2 rfl (hF46.ldp (i := 2) sM) (zS (e := 116) rfl rfl rfl) (q_fldP (p := (.pointer (some ⟨w33.heap.size,0,none⟩))) (b := w33.heap.size) (o := 0) 2 fd49_2 rfl rfl (zS (e := 116) rfl rfl rfl) (q_load (p := (padd (.pointer (some ⟨w33.heap.size,0,none⟩)) 2)) (.inr rfl) ve40 one44 rfl (hB44.ldp (i := 2) sM) (zS (e := 116) rfl rfl rfl) (q_len (v := ve40) u44 rfl hx40.rn.isSl (zS (e := 116) rfl rfl rfl) ?_))))))
             refine q_sub (((p.getD (ex.num).toNat Fn.zero).outs.length : Int) - 1) rfl rfl (w64 oM oM) (zS (e := 116) rfl rfl rfl) (lw_callq 83 [] [] [(.int .i64 ex.pick),(.int .i64 ((0 :Nat):Int)),(.int .i64 (((p.getD (ex.num).toNat Fn.zero).outs.length : Int) - 1))] rfl rfl cf83 (zS (e := 116) rfl rfl rfl) (.bool (decide (((0 :Nat):Int) ≤ ex.pick) && decide (ex.pick ≤ (((p.getD (ex.num).toNat Fn.zero).outs.length : Int) - 1)))) (fun wq => c_impl_within wq _ _ _ hex.rng.pick oM oM) (q_not (!(decide (((0 :Nat):Int) ≤ ex.pick) && decide (ex.pick ≤ (((p.getD (ex.num).toNat Fn.zero).outs.length : Int) - 1)))) rfl rfl (zS (e := 116) rfl rfl rfl) (lw_tvn 1 rfl ?_)))
             cases hb49 : (!(decide (((0 :Nat):Int) ≤ ex.pick) && decide (ex.pick ≤ (((p.getD (ex.num).toNat Fn.zero).outs.length : Int) - 1))))
             ·
              refine c_cond_f (by first | rfl | (show Value.bool _ = _; rw [hb49])) (wp_skip (wp_seq (wp_plain _ [0,2,0,0,0,2,0,0,0,0,2,0,0,0,2,0,0,2,0,0,0,2,0,0,0,0,0] rfl (q_fldP (p := (.pointer (some ⟨w1.heap.size,0,none⟩))) (b := w1.heap.size) (o := 0) 0 fd46_0 rfl rfl zN (q_load (p := (padd (.pointer (some ⟨w1.heap.size,0,none⟩)) 0)) (.inr rfl) (.int .i64 ex.kind) one2 rfl (hF46.ldp (i := 0) sM) zN ?_)))))
              by_cases hc50 : ex.kind = ((10 :Nat):Int)
              ·
               refine q_eql true rfl rfl (decide_eq_true hc50) zN (lw_tv 1 rfl (q_fldP (p := (.pointer (some ⟨w1.heap.size,0,none⟩))) (b := w1.heap.size) (o := 0) 3 fd46_3 rfl rfl (zS (e := 129) rfl rfl rfl) (q_load (p := (padd (.pointer (some ⟨w1.heap.size,0,none⟩)) 3)) (.inr rfl) (.int .i64 ex.count) one2 rfl (hF46.ldp (i := 3) sM) (zS (e := 129) rfl rfl rfl) ?_)))
               by_cases hc51 : ex.count ≠ ((0 :Nat):Int)
               ·
                exact q_neq true rfl rfl (decide_eq_true hc51) (zS (e := 129) rfl rfl rfl) (lw_tvn 20 rfl (c_cond_t rfl (wp_seq (wp_plain _ [0] rfl (lw_tvn 1 rfl (wp_ret (b_ret (t_ret (post_ret [6] rfl (.bool false) rfl ⟨z148_0,hE44⟩)))))))))
               ·
                refine q_neq false rfl rfl (decide_eq_false hc51) (zS (e := 129) rfl rfl rfl) (lw_tv 2 rfl (q_fldP (p := (.pointer (some ⟨w1.heap.size,0,none⟩))) (b := w1.heap.size) (o := 0) 0 fd46_0 rfl rfl (zS (e := 134) rfl rfl rfl) (q_load (p := (padd (.pointer (some ⟨w1.heap.size,0,none⟩)) 0)) (.inr rfl) (.int .i64 ex.kind) one2 rfl (hF46.ldp (i := 0) sM) (zS (e := 134) rfl rfl rfl) ?_)))
                by_cases hc52 : ex.kind = ((11 :Nat):Int)
                ·
                 refine q_eql true rfl rfl (decide_eq_true hc52) (zS (e := 134) rfl rfl rfl) (lw_tv 1 rfl (q_fldP (p := (.pointer (some ⟨w33.heap.size,0,none⟩))) (b := w33.heap.size) (o := 0) 2 fd49_2 rfl rfl (zS (e := 138) rfl rfl rfl) (q_load (p := (padd (.pointer (some ⟨w33.heap.size,0,none⟩)) 2)) (.inr rfl) ve40 one44 rfl (hB44.ldp (i := 2) sM) (zS (e := 138) rfl rfl rfl) (q_len (v := ve40) u44 rfl hx40.rn.isSl (zS (e := 138) rfl rfl rfl) (q_fldP (p := (.pointer (some ⟨w33.heap.size,0,none⟩))) (b := w33.heap.size) (o := 0) 1 fd49_1 rfl rfl (zS (e := 138) rfl rfl rfl) (q_load (p := (padd (.pointer (some ⟨w33.heap.size,0,none⟩)) 1)) (.inr rfl) (.int .i64 ((p.getD ((ex.num).toNat) Fn.zero).params)) one2 rfl (hB44.ldp (i := 1) sM) (zS (e := 138) rfl rfl rfl) ?_))))))
                 by_cases hc53 : ((((p.getD ((ex.num).toNat) Fn.zero).outs).length :Nat):Int) ≠ (p.getD ((ex.num).toNat) Fn.zero).params
                 ·
                  exact q_neq true rfl rfl (decide_eq_true hc53) (zS (e := 138) rfl rfl rfl) (lw_tvn 8 rfl (c_cond_t rfl (wp_seq (wp_plain _ [0] rfl (lw_tvn 1 rfl (wp_ret (b_ret (t_ret (post_ret [6] rfl (.bool false) rfl ⟨z148_0,hE44⟩)))))))))
                 ·
                  refine q_neq false rfl rfl (decide_eq_false hc53) (zS (e := 138) rfl rfl rfl) (lw_tv 1 rfl (q_fldP (p := (.pointer (some ⟨w1.heap.size,0,none⟩))) (b := w1.heap.size) (o := 0) 3 fd46_3 rfl rfl (zS (e := 145) rfl rfl rfl) (q_load (p := (padd (.pointer (some ⟨w1.heap.size,0,none⟩)) 3)) (.inr rfl) (.int .i64 ex.count) one2 rfl (hF46.ldp (i := 3) sM) (zS (e := 145) rfl rfl rfl) (lw_callq 83 [] [] [(.int .i64 ex.count),(.int .i64 ((0 :Nat):Int)),(.int .i64 ((8 :Nat):Int))] rfl rfl cf83 (zS (e := 145) rfl rfl rfl) (.bool (decide (((0 :Nat):Int) ≤ ex.count) && decide (ex.count ≤ ((8 :Nat):Int)))) (fun wq => c_impl_within wq _ _ _ hex.rng.count oM oM) (q_not (!(decide (((0 :Nat):Int) ≤ ex.count) && decide (ex.count ≤ ((8 :Nat):Int)))) rfl rfl (zS (e := 145) rfl rfl rfl) ?_)))))
                  refine lw_tvn 3 rfl ?_
                  cases hb55 : (!(decide (((0 :Nat):Int) ≤ ex.count) && decide (ex.count ≤ ((8 :Nat):Int))))
                  ·
                   exact c_cond_f (by first | rfl | (show Value.bool _ = _; rw [hb55])) (wp_skip ⟨(),_,rfl,⟨rfl,rfl,rfl,trivial⟩,⟨hE44,hF45,hF46,z148_1⟩⟩)
                  ·
                   exact c_cond_t (by first | rfl | (show Value.bool _ = _; rw [hb55])) (wp_seq (wp_plain _ [0] rfl (lw_tvn 1 rfl (wp_ret (b_ret (t_ret (post_ret [6] rfl (.bool false) rfl ⟨z148_0,hE44⟩)))))))
                ·
                 exact q_eql false rfl rfl (decide_eq_false hc52) (zS (e := 134) rfl rfl rfl) (lw_tvn 15 rfl (c_cond_f rfl (wp_skip ⟨(),_,rfl,⟨rfl,rfl,rfl,trivial⟩,⟨hE44,hF45,hF46,z148_1⟩⟩)))
              ·
               refine q_eql false rfl rfl (decide_eq_false hc50) zN (lw_tv 6 rfl (q_fldP (p := (.pointer (some ⟨w1.heap.size,0,none⟩))) (b := w1.heap.size) (o := 0) 0 fd46_0 rfl rfl (zS (e := 134) rfl rfl rfl) (q_load (p := (padd (.pointer (some ⟨w1.heap.size,0,none⟩)) 0)) (.inr rfl) (.int .i64 ex.kind) one2 rfl (hF46.ldp (i := 0) sM) (zS (e := 134) rfl rfl rfl) ?_)))
               by_cases hc56 : ex.kind = ((11 :Nat):Int)
               ·
                refine q_eql true rfl rfl (decide_eq_true hc56) (zS (e := 134) rfl rfl rfl) (lw_tv 1 rfl (q_fldP (p := (.pointer (some ⟨w33.heap.size,0,none⟩))) (b := w33.heap.size) (o := 0) 2 fd49_2 rfl rfl (zS (e := 138) rfl rfl rfl) (q_load (p := (padd (.pointer (some ⟨w33.heap.size,0,none⟩)) 2)) (.inr rfl) ve40 one44 rfl (hB44.ldp (i := 2) sM) (zS (e := 138) rfl rfl rfl) (q_len (v := ve40) u44 rfl hx40.rn.isSl (zS (e := 138) rfl rfl rfl) (q_fldP (p := (.pointer (some ⟨w33.heap.size,0,none⟩))) (b := w33.heap.size) (o := 0) 1 fd49_1 rfl rfl (zS (e := 138) rfl rfl rfl) (q_load (p := (padd (.pointer (some ⟨w33.heap.size,0,none⟩)) 1)) (.inr rfl) (.int .i64 ((p.getD ((ex.num).toNat) Fn.zero).params)) one2 rfl (hB44.ldp (i := 1) sM) (zS (e := 138) rfl rfl rfl) ?_))))))
                by_cases hc57 : ((((p.getD ((ex.num).toNat) Fn.zero).outs).length :Nat):Int) ≠ (p.getD ((ex.num).toNat) Fn.zero).params
                ·
                 exact q_neq true rfl rfl (decide_eq_true hc57) (zS (e := 138) rfl rfl rfl) (lw_tvn 8 rfl (c_cond_t rfl (wp_seq (wp_plain _ [0] rfl (lw_tvn 1 rfl (wp_ret (b_ret (t_ret (post_ret [6] rfl (.bool false) rfl ⟨z148_0,hE44⟩)))))))))
                ·
                 refine q_neq false rfl rfl (decide_eq_false hc57) (zS (e := 138) rfl rfl rfl) (lw_tv 1 rfl (q_fldP (p := (.pointer (some ⟨w1.heap.size,0,none⟩))) (b := w1.heap.size) (o := 0) 3 fd46_3 rfl rfl (zS (e := 145) rfl rfl rfl) (q_load (p := (padd (.pointer (some ⟨w1.heap.size,0,none⟩)) 3)) (.inr rfl) (.int .i64 ex.count) one2 rfl (hF46.ldp (i := 3) sM) (zS (e := 145) rfl rfl rfl) (lw_callq 83 [] [] [(.int .i64 ex.count),(.int .i64 ((0 :Nat):Int)),(.int .i64 ((8 :Nat):Int))] rfl rfl cf83 (zS (e := 145) rfl rfl rfl) (.bool (decide (((0 :Nat):Int) ≤ ex.count) && decide (ex.count ≤ ((8 :Nat):Int)))) (fun wq => c_impl_within wq _ _ _ hex.rng.count oM oM) (q_not (!(decide (((0 :Nat):Int) ≤ ex.count) && decide (ex.count ≤ ((8 :Nat):Int)))) rfl rfl (zS (e := 145) rfl rfl rfl) ?_)))))
                 refine lw_tvn 3 rfl ?_
                 cases hb59 : (!(decide (((0 :Nat):Int) ≤ ex.count) && decide (ex.count ≤ ((8 :Nat):Int))))
                 ·
                  exact c_cond_f (by first | rfl | (show Value.bool _ = _; rw [hb59])) (wp_skip ⟨(),_,rfl,⟨rfl,rfl,rfl,trivial⟩,⟨hE44,hF45,hF46,z148_1⟩⟩)
                 ·
                  exact c_cond_t (by first | rfl | (show Value.bool _ = _; rw [hb59])) (wp_seq (wp_plain _ [0] rfl (lw_tvn 1 rfl (wp_ret (b_ret (t_ret (post_ret [6] rfl (.bool false) rfl ⟨z148_0,hE44⟩)))))))
               ·
                exact q_eql false rfl rfl (decide_eq_false hc56) (zS (e := 134) rfl rfl rfl) (lw_tvn 15 rfl (c_cond_f rfl (wp_skip ⟨(),_,rfl,⟨rfl,rfl,rfl,trivial⟩,⟨hE44,hF45,hF46,z148_1⟩⟩)))
             ·
              exact c_cond_t (by first | rfl | (show Value.bool _ = _; rw [hb49])) (wp_seq (wp_plain _ [0] rfl (lw_tvn 1 rfl (wp_ret (t_ret (b_ret (t_ret (post_ret [6] rfl (.bool false) rfl ⟨z148_0,hE44⟩))))))))
           ·
            exact c_cond_t (by first | rfl | (show Value.bool _ = _; rw [hb39])) (wp_seq (wp_plain _ [0] rfl (lw_tvn 1 rfl (wp_ret (t_ret (b_ret (t_ret (post_ret [6] rfl (.bool false) rfl ⟨z148_0,hE33⟩))))))))
      ·
       refine c_cond_t (by first | rfl | (show Value.bool _ = _; rw [hb24])) (wp_seq (wp_plain _ [0,0,0,0,2,0,0,0,0,0,0] rfl ?_))
       have h5k := of_decide_eq_true (h5b.symm.trans ‹_›)
       clear h5b
       refine lw_tv 1 rfl (q_not (!pl) rfl rfl zN (lw_tv 1 rfl ?_))
       cases hb60 : (!pl)
       ·
        refine q_fldP (p := (.pointer (some ⟨w1.heap.size,0,none⟩))) (b := w1.heap.size) (o := 0) 1 fd46_1 rfl rfl (zS (e := 60) rfl rfl rfl) (q_load (p := (padd (.pointer (some ⟨w1.heap.size,0,none⟩)) 1)) (.inr rfl) (.int .i64 ex.num) one2 rfl (hL17_1.ldp (i := 1) sM) (zS (e := 60) rfl rfl rfl) ?_)
        by_cases hc61 : ex.num ≠ ((0 :Nat):Int)
        ·
         exact q_neq true rfl rfl (decide_eq_true hc61) (zS (e := 60) rfl rfl rfl) (lw_tvn 5 rfl (c_cond_t rfl (wp_seq (wp_plain _ [0] rfl (lw_tvn 1 rfl (wp_ret (b_ret (t_ret (post_ret [6] rfl (.bool false) rfl ⟨z148_0,hE17⟩)))))))))
        ·
         refine q_neq false rfl rfl (decide_eq_false hc61) (zS (e := 60) rfl rfl rfl) (lw_tv 3 rfl ?_)
         by_cases hc62 : ((ex.kids.length :Nat):Int) ≠ ((2 :Nat):Int)
         ·
          exact q_neq true rfl rfl (decide_eq_true hc62) (zS (e := 65) rfl rfl rfl) (lw_tvn 1 rfl (c_cond_t rfl (wp_seq (wp_plain _ [0] rfl (lw_tvn 1 rfl (wp_ret (b_ret (t_ret (post_ret [6] rfl (.bool false) rfl ⟨z148_0,hE17⟩)))))))))
         ·
          exact q_neq false rfl rfl (decide_eq_false hc62) (zS (e := 65) rfl rfl rfl) (lw_tvn 1 rfl (c_cond_f rfl (wp_skip ⟨(),_,rfl,⟨rfl,rfl,rfl,trivial⟩,⟨hE17,hL17_0,hL17_1,z148_1⟩⟩)))
       ·
        exact lw_tvn 8 rfl (c_cond_t rfl (wp_seq (wp_plain _ [0] rfl (lw_tvn 1 rfl (wp_ret (b_ret (t_ret (post_ret [6] rfl (.bool false) rfl ⟨z148_0,hE17⟩))))))))
  ·
   clear hL4_1 hL4_0 hE4 hzs4
   rintro u ρ8 w8 ⟨hE8,hL8_0,hL8_1,hwn⟩
   have hzs8 : w.heap.size ≤ w8.heap.size := hE8.size
   have hq63 := hL8_0.lt
   have hq64 := hL8_1.lt
   refine wp_seq (wp_seq (wp_plain _ [0,2,0,0] rfl (q_fldP (p := (.pointer (some ⟨w1.heap.size,0,none⟩))) (b := w1.heap.size) (o := 0) 4 fd46_4 rfl rfl zN (q_load (p := (padd (.pointer (some ⟨w1.heap.size,0,none⟩)) 4)) (.inr rfl) ve one44 rfl (hL8_1.ldp (i := 4) sM) zN (q_len (v := ve) u44 rfl hex.rn.isSl zN (lw_tvn 1 rfl (wp_block ?_)))))))
   refine c_loop (S := Nat) (fun (k : Nat) => ([(156,(.int .i64 ((k :Nat):Int))),(2,(.int .i64 vars)),(3,(.pointer (some ⟨w.heap.size,0,none⟩))),(4,(.pointer (some ⟨w1.heap.size,0,none⟩))),(154,ve),(155,(.int .i64 ((ex.kids.length :Nat):Int)))] : List (Nat × Value))) (fun (k : Nat) (W : World) => Ext w W ∧ BX W.heap w.heap.size [vp,(.int .i64 funcs)] ∧ BX W.heap w1.heap.size [(.int .i64 ex.kind),(.int .i64 ex.num),(.int .i64 ex.pick),(.int .i64 ex.count),ve] ∧ k ≤ ex.kids.length ∧ (∀ j,j < k → wf p funcs (ex.kids.getD j Ex.zero) (if ex.kind = 9 ∧ j = 1 then vars + 1 else vars) = true)) (fun (k : Nat) => ex.kids.length - k) 0 ⟨rfl,rfl,rfl,rfl,rfl,rfl,trivial⟩ ⟨hE8,hL8_0,hL8_1,sD,(by intro j hj; omega)⟩ ?_
   clear hL8_1 hL8_0 hE8 hzs8
   rintro k ρ65 w65 ⟨hE65,hL65_0,hL65_1,hp65_0,hall⟩
   have hzs65 : w.heap.size ≤ w65.heap.size := hE65.size
   have hq66 := hL65_0.lt
   have hq67 := hL65_1.lt
   refine wp_seq (wp_plain _ [0] rfl ?_)
   by_cases hc68 : ((k :Nat):Int) < ((ex.kids.length :Nat):Int)
   ·
    refine q_lss true rfl rfl (decide_eq_true hc68) zN (lw_nil (wp_seq (c_cond_t rfl (wp_skip (wp_seq (wp_block (wp_seq (wp_plain _ [0,0,2,3,0,4] rfl ?_))))))))
    have hkd := kd_at (l := ex.kids) (k := k) oM
    refine lw_tv 1 rfl (q_idx (v := ve) k u44 tiS46 rfl rfl hex.rn.isSl rfl sD zN ?_)
    obtain ⟨cs69,hr69,hl69⟩ := hex.rn.get (good_rEx dex) Ex.zero (k := k) sD
    obtain ⟨dd69,ve69,hd69,rfl,hx69⟩ := RX.of hr69
    have hln69 := hx69.rn.lenle
    unfold maxLen at hln69
    refine q_loadA (p := eptr ve k 5) (.inr rfl) [(.int .i64 ((ex.kids.getD k Ex.zero).kind)),(.int .i64 ((ex.kids.getD k Ex.zero).num)),(.int .i64 ((ex.kids.getD k Ex.zero).pick)),(.int .i64 ((ex.kids.getD k Ex.zero).count)),ve69] agg46 rfl (fun wq9 hw9 => hl69 wq9 (Chg.of_ext [] (hE65.trans hw9))) rfl zN ?_
    have hq71 := hL65_0.lt
    have hq72 := hL65_1.lt
    refine r_allocA (z := .agg #[.int .i64 0,.int .i64 0,.int .i64 0,.int .i64 0,.slice none 0 0]) zr46 zN fun w70 hX70 hz70 hB70 => ?_
    have hzs70:=hX70.size
    have hE70:=hE65.trans hX70
    have hL65_0x70 := hL65_0.ext hX70
    have hL65_1x70 := hL65_1.ext hX70
    replace hB70 : BX w70.heap w65.heap.size [(.int .i64 0),(.int .i64 0),(.int .i64 0),(.int .i64 0),(.slice none 0 0)] := hB70
    refine lw_tv 1 rfl (e_setA (vs := [(.int .i64 ((ex.kids.getD k Ex.zero).kind)),(.int .i64 ((ex.kids.getD k Ex.zero).num)),(.int .i64 ((ex.kids.getD k Ex.zero).pick)),(.int .i64 ((ex.kids.getD k Ex.zero).count)),ve69]) agg46 rfl rfl hx69.ones hB70 rfl rfl zN fun w73 hC73 hz73 hB73 => ?_)
    replace hB73 : BX w73.heap w65.heap.size [(.int .i64 ((ex.kids.getD k Ex.zero).kind)),(.int .i64 ((ex.kids.getD k Ex.zero).num)),(.int .i64 ((ex.kids.getD k Ex.zero).pick)),(.int .i64 ((ex.kids.getD k Ex.zero).count)),ve69] := hB73
    have hE73 : Ext w w73 := hC73.below hE70 (fun c hc => by have := List.mem_singleton.1 hc; omega) hE70.size
    have hzs73:=hC73.size
    have hF74 := hL65_0x70.chg hC73 (fun hm => by have := List.mem_singleton.1 hm; omega)
    have hF75 := hL65_1x70.chg hC73 (fun hm => by have := List.mem_singleton.1 hm; omega)
    refine lw_nil (wp_seq (wp_plain _ [0,0] rfl (lw_tvn 2 rfl (wp_seq (wp_seq (wp_plain _ [0,2,0,0,0,0,0] rfl (q_fldP (p := (.pointer (some ⟨w1.heap.size,0,none⟩))) (b := w1.heap.size) (o := 0) 0 fd46_0 rfl rfl zN (q_load (p := (padd (.pointer (some ⟨w1.heap.size,0,none⟩)) 0)) (.inr rfl) (.int .i64 ex.kind) one2 rfl (hF75.ldp (i := 0) sM) zN ?_))))))))
    by_cases hc76 : ex.kind = ((9 :Nat):Int)
    ·
     refine q_eql true rfl rfl (decide_eq_true hc76) zN (lw_tv 2 rfl ?_)
     by_cases hc77 : ((k :Nat):Int) = ((1 :Nat):Int)
     ·
      refine q_eql true rfl rfl (decide_eq_true hc77) (zS (e := 165) rfl rfl rfl) (lw_tvn 1 rfl (c_cond_t rfl (wp_plain _ [0,0,0] rfl (lw_tv 1 rfl (q_add (vars + 1) rfl rfl (w64 oM oM) zN (lw_tvn 1 rfl (wp_seq (wp_plain _ [2,2,0,3,0] rfl (q_loadA (p := (.pointer (some ⟨w.heap.size,0,none⟩))) (.inr rfl) [vp,(.int .i64 funcs)] agg182 rfl (fun wq9 hw9 => LD.of_box (BX.ext (w := w73) hF74 hw9)) rfl zN (q_loadA (p := (.pointer (some ⟨w65.heap.size,0,none⟩))) (.inr rfl) [(.int .i64 ((ex.kids.getD k Ex.zero).kind)),(.int .i64 ((ex.kids.getD k Ex.zero).num)),(.int .i64 ((ex.kids.getD k Ex.zero).pick)),(.int .i64 ((ex.kids.getD k Ex.zero).count)),ve69] agg46 rfl (fun wq9 hw9 => LD.of_box (BX.ext (w := w73) hB73 hw9)) rfl zN (lw_tv 1 rfl ?_)))))))))))
      refine lw_call 148 [] [] [(.agg #[vp,(.int .i64 funcs)]),(.agg #[(.int .i64 ((ex.kids.getD k Ex.zero).kind)),(.int .i64 ((ex.kids.getD k Ex.zero).num)),(.int .i64 ((ex.kids.getD k Ex.zero).pick)),(.int .i64 ((ex.kids.getD k Ex.zero).count)),ve69]),(.int .i64 (vars + 1))] rfl rfl cf148 zN (ih dd69 oM _ dp vp (p) (funcs) ve69 (ex.kids.getD k Ex.zero) _ (hp.ext (good_rdS (good_rFn dp)) hE73) _hfuncs (hx69.ext hE73) oM oM oM) ?_
      rintro e78 w78 ⟨rfl,hX78⟩
      refine ⟨_,rfl,hX78,?_⟩
      have hzs78:=hX78.size
      have hE78:=hE73.trans hX78
      have hF74x78 := hF74.ext hX78
      have hF75x78 := hF75.ext hX78
      have hB73x78 := hB73.ext hX78
      refine q_not (!(wf p funcs (ex.kids.getD k Ex.zero) (vars + 1))) rfl rfl zN (lw_nil ?_)
      cases hb79 : (!(wf p funcs (ex.kids.getD k Ex.zero) (vars + 1)))
      ·
       refine c_cond_f (by first | rfl | (show Value.bool _ = _; rw [hb79])) (wp_skip (wp_plain _ [0,0] rfl (q_add ((k + 1 :Nat):Int) rfl rfl (w64n oM sD) zN (lw_tvn 1 rfl ?_))))
       exact ⟨(k + 1),_,rfl,⟨rfl,rfl,rfl,rfl,rfl,rfl,trivial⟩,⟨hE78,hF74x78,hF75x78,sD,z148_2⟩,by first | omega | (dsimp only; omega)⟩
      ·
       exact c_cond_t (by first | rfl | (show Value.bool _ = _; rw [hb79])) (wp_seq (wp_plain _ [0] rfl (lw_tvn 1 rfl (wp_ret (b_ret (t_ret (t_ret (b_ret (t_ret (post_ret [6] rfl (.bool false) rfl ⟨z148_0,hE78⟩))))))))))
     ·
      refine q_eql false rfl rfl (decide_eq_false hc77) (zS (e := 165) rfl rfl rfl) (lw_tvn 1 rfl (c_cond_f rfl (wp_skip (wp_seq (wp_plain _ [2,2,0,3,0] rfl (q_loadA (p := (.pointer (some ⟨w.heap.size,0,none⟩))) (.inr rfl) [vp,(.int .i64 funcs)] agg182 rfl (fun wq9 hw9 => LD.of_box (BX.ext (w := w73) hF74 hw9)) rfl zN (q_loadA (p := (.pointer (some ⟨w65.heap.size,0,none⟩))) (.inr rfl) [(.int .i64 ((ex.kids.getD k Ex.zero).kind)),(.int .i64 ((ex.kids.getD k Ex.zero).num)),(.int .i64 ((ex.kids.getD k Ex.zero).pick)),(.int .i64 ((ex.kids.getD k Ex.zero).count)),ve69] agg46 rfl (fun wq9 hw9 => LD.of_box (BX.ext (w := w73) hB73 hw9)) rfl zN (lw_tv 1 rfl ?_))))))))
      refine lw_call 148 [] [] [(.agg #[vp,(.int .i64 funcs)]),(.agg #[(.int .i64 ((ex.kids.getD k Ex.zero).kind)),(.int .i64 ((ex.kids.getD k Ex.zero).num)),(.int .i64 ((ex.kids.getD k Ex.zero).pick)),(.int .i64 ((ex.kids.getD k Ex.zero).count)),ve69]),(.int .i64 vars)] rfl rfl cf148 zN (ih dd69 oM _ dp vp (p) (funcs) ve69 (ex.kids.getD k Ex.zero) _ (hp.ext (good_rdS (good_rFn dp)) hE73) _hfuncs (hx69.ext hE73) _hvars oM oM) ?_
      rintro e80 w80 ⟨rfl,hX80⟩
      refine ⟨_,rfl,hX80,?_⟩
      have hzs80:=hX80.size
      have hE80:=hE73.trans hX80
      have hF74x80 := hF74.ext hX80
      have hF75x80 := hF75.ext hX80
      have hB73x80 := hB73.ext hX80
      refine q_not (!(wf p funcs (ex.kids.getD k Ex.zero) vars)) rfl rfl zN (lw_nil ?_)
      cases hb81 : (!(wf p funcs (ex.kids.getD k Ex.zero) vars))
      ·
       refine c_cond_f (by first | rfl | (show Value.bool _ = _; rw [hb81])) (wp_skip (wp_plain _ [0,0] rfl (q_add ((k + 1 :Nat):Int) rfl rfl (w64n oM sD) zN (lw_tvn 1 rfl ?_))))
       exact ⟨(k + 1),_,rfl,⟨rfl,rfl,rfl,rfl,rfl,rfl,trivial⟩,⟨hE80,hF74x80,hF75x80,sD,z148_2⟩,by first | omega | (dsimp only; omega)⟩
      ·
       exact c_cond_t (by first | rfl | (show Value.bool _ = _; rw [hb81])) (wp_seq (wp_plain _ [0] rfl (lw_tvn 1 rfl (wp_ret (b_ret (t_ret (t_ret (b_ret (t_ret (post_ret [6] rfl (.bool false) rfl ⟨z148_0,hE80⟩))))))))))
    ·
     refine q_eql false rfl rfl (decide_eq_false hc76) zN (lw_tvn 4 rfl (c_cond_f rfl (wp_skip (wp_seq (wp_plain _ [2,2,0,3,0] rfl (q_loadA (p := (.pointer (some ⟨w.heap.size,0,none⟩))) (.inr rfl) [vp,(.int .i64 funcs)] agg182 rfl (fun wq9 hw9 => LD.of_box (BX.ext (w := w73) hF74 hw9)) rfl zN (q_loadA (p := (.pointer (some ⟨w65.heap.size,0,none⟩))) (.inr rfl) [(.int .i64 ((ex.kids.getD k Ex.zero).kind)),(.int .i64 ((ex.kids.getD k Ex.zero).num)),(.int .i64 ((ex.kids.getD k Ex.zero).pick)),(.int .i64 ((ex.kids.getD k Ex.zero).count)),ve69] agg46 rfl (fun wq9 hw9 => LD.of_box (BX.ext (w := w73) hB73 hw9)) rfl zN (lw_tv 1 rfl ?_))))))))
     refine lw_call 148 [] [] [(.agg #[vp,(.int .i64 funcs)]),(.agg #[(.int .i64 ((ex.kids.getD k Ex.zero).kind)),(.int .i64 ((ex.kids.getD k Ex.zero).num)),(.int .i64 ((ex.kids.getD k Ex.zero).pick)),(.int .i64 ((ex.kids.getD k Ex.zero).count)),ve69]),(.int .i64 vars)] rfl rfl cf148 zN (ih dd69 oM _ dp vp (p) (funcs) ve69 (ex.kids.getD k Ex.zero) _ (hp.ext (good_rdS (good_rFn dp)) hE73) _hfuncs (hx69.ext hE73) _hvars oM oM) ?_
     rintro e82 w82 ⟨rfl,hX82⟩
     refine ⟨_,rfl,hX82,?_⟩
     have hzs82:=hX82.size
     have hE82:=hE73.trans hX82
     have hF74x82 := hF74.ext hX82
     have hF75x82 := hF75.ext hX82
     have hB73x82 := hB73.ext hX82
     refine q_not (!(wf p funcs (ex.kids.getD k Ex.zero) vars)) rfl rfl zN (lw_nil ?_)
     cases hb83 : (!(wf p funcs (ex.kids.getD k Ex.zero) vars))
     ·
      refine c_cond_f (by first | rfl | (show Value.bool _ = _; rw [hb83])) (wp_skip (wp_plain _ [0,0] rfl (q_add ((k + 1 :Nat):Int) rfl rfl (w64n oM sD) zN (lw_tvn 1 rfl ?_))))
      exact ⟨(k + 1),_,rfl,⟨rfl,rfl,rfl,rfl,rfl,rfl,trivial⟩,⟨hE82,hF74x82,hF75x82,sD,z148_2⟩,by first | omega | (dsimp only; omega)⟩
     ·
      exact c_cond_t (by first | rfl | (show Value.bool _ = _; rw [hb83])) (wp_seq (wp_plain _ [0] rfl (lw_tvn 1 rfl (wp_ret (b_ret (t_ret (t_ret (b_ret (t_ret (post_ret [6] rfl (.bool false) rfl ⟨z148_0,hE82⟩))))))))))
   ·
    exact q_lss false rfl rfl (decide_eq_false hc68) zN (lw_nil (wp_seq (c_cond_f rfl (wp_exit (t_exit (t_exit (c_exit_here (wp_seq (wp_plain _ [0] rfl (lw_tvn 1 rfl (wp_ret (post_ret [6] rfl (.bool true) rfl ⟨z148_0,hE65⟩))))))))))))
end Go.Proofs.Ytjnbnlniafmblaa
namespace Go.Proofs.Ytjnbnlniafmblaa
open Go Go.RowKit
set_option linter.unusedVariables false
set_option linter.unusedSimpArgs false
set_option maxHeartbeats 4000000
set_option maxRecDepth 100000
attribute [local irreducible] LW
theorem nm_bad {s : ByteArray} {k : Nat} (hk : k < s.size) (h : (sAt s k < 97 ∨ 122 < sAt s k) ∧ (k = 0 ∨ sAt s k < 48 ∨ 57 < sAt s k)) : false = nmB s := by
  have hc : chB s k = false := by
    unfold chB
    rcases h with ⟨h1 | h1, h2 | h2 | h2⟩ <;> simp <;> omega
  unfold nmB
  rw [allR_fail hk hc, Bool.and_false]
theorem ch_ok {s : ByteArray} {k : Nat} (h : (97 ≤ sAt s k ∧ sAt s k ≤ 122) ∨ (k ≠ 0 ∧ 48 ≤ sAt s k ∧ sAt s k ≤ 57)) : chB s k = true := by
  unfold chB
  rcases h with h | h <;> simp <;> omega
theorem nm_end {s : ByteArray} {k : Nat} {b : Bool} (h : (List.range k).all (chB s) = true) (hk : k = s.size) (hb : b = (decide (1 ≤ s.size) && decide (s.size ≤ 12))) : b = nmB s := by
  subst hk
  unfold nmB
  rw [h, Bool.and_true, hb]
theorem z124_0 {p : Prop} (h : p := by first | exact ret_bool (nm_bad (k := k) oM oM) | exact ret_bool (nm_end hq oM (by first | (rw [decide_eq_true (show 1 ≤ s.size by omega), Bool.true_and]; exact decide_eq_decide.2 oM) | (rw [decide_eq_false (show ¬ 1 ≤ s.size by omega)]; rfl)))) : p := h
theorem c_impl_IsName (w : World) (s : ByteArray)  (hl : s.size ≤ 1000000000) :
  Calls Try.prog 124 #[.string s] w (fun e w' => e = .returned (.bool (nmB s)) ∧ w' = w) := by
 refine calls_mk [.string s] 44 Try.func124 rfl rfl sM ?_
 have hE0 : w = w := rfl
 refine wp_seq (wp_plain _ [0] rfl (lw_tvn 1 rfl (wp_seq (wp_seq (wp_plain _ [0,0,0] rfl (lw_tv 1 rfl (q_lens (s := s) u9 rfl zN (lw_tvn 1 rfl (wp_block ?_)))))))))
 refine c_loop (S := Nat) (fun (k : Nat) => ([(6,(.int .i64 ((k :Nat):Int))),(0,(.string s)),(5,(.int .i64 ((s.size :Nat):Int)))] : List (Nat × Value))) (fun (k : Nat) (W : World) => W = w ∧ k ≤ s.size ∧ (List.range k).all (chB s) = true) (fun (k : Nat) => s.size - k) 0 ⟨rfl,rfl,rfl,trivial⟩ ⟨hE0,sD,(by rfl)⟩ ?_
 clear hE0
 rintro k ρ1 w1 ⟨hE1,hp1_0,hq⟩
 refine wp_seq (wp_plain _ [0] rfl ?_)
 by_cases hc2 : ((k :Nat):Int) < ((s.size :Nat):Int)
 ·
  refine q_lss true rfl rfl (decide_eq_true hc2) zN (lw_nil (wp_seq (c_cond_t rfl (wp_skip (wp_seq (wp_block (wp_seq (wp_plain _ [0,0] rfl (lw_tvn 2 rfl (wp_seq (wp_plain _ [0,0,0,0,0,0,0,0,0,0,0,0,0,0,0,0,0,0,0,0,0,0,0,0,0,0] rfl (lw_tv 2 rfl (q_index (s := s) k u9 rfl rfl rfl sD zN ?_)))))))))))))
  by_cases hc3 : ((sAt s k :Nat):Int) < 97
  ·
   refine q_lss true rfl rfl (decide_eq_true hc3) zN (lw_tv 8 rfl ?_)
   by_cases hc4 : ((k :Nat):Int) = ((0 :Nat):Int)
   ·
    exact q_eql true rfl rfl (decide_eq_true hc4) (zS (e := 19) rfl rfl rfl) (lw_tvn 13 rfl (c_cond_t rfl (wp_seq (wp_plain _ [0] rfl (lw_tvn 1 rfl (wp_ret (b_ret (t_ret (t_ret (b_ret (t_ret (post_ret [2] rfl (.bool false) rfl ⟨z124_0,hE1⟩))))))))))))
   ·
    refine q_eql false rfl rfl (decide_eq_false hc4) (zS (e := 19) rfl rfl rfl) (lw_tv 3 rfl (q_index (s := s) k u9 rfl rfl rfl sD (zS (e := 22) rfl rfl rfl) ?_))
    by_cases hc5 : ((sAt s k :Nat):Int) < 48
    ·
     exact q_lss true rfl rfl (decide_eq_true hc5) (zS (e := 22) rfl rfl rfl) (lw_tvn 8 rfl (c_cond_t rfl (wp_seq (wp_plain _ [0] rfl (lw_tvn 1 rfl (wp_ret (b_ret (t_ret (t_ret (b_ret (t_ret (post_ret [2] rfl (.bool false) rfl ⟨z124_0,hE1⟩))))))))))))
    ·
     refine q_lss false rfl rfl (decide_eq_false hc5) (zS (e := 22) rfl rfl rfl) (lw_tv 4 rfl (q_index (s := s) k u9 rfl rfl rfl sD (zS (e := 28) rfl rfl rfl) ?_))
     by_cases hc6 : 57 < ((sAt s k :Nat):Int)
     ·
      exact q_gtr true rfl rfl (decide_eq_true hc6) (zS (e := 28) rfl rfl rfl) (lw_tvn 2 rfl (c_cond_t rfl (wp_seq (wp_plain _ [0] rfl (lw_tvn 1 rfl (wp_ret (b_ret (t_ret (t_ret (b_ret (t_ret (post_ret [2] rfl (.bool false) rfl ⟨z124_0,hE1⟩))))))))))))
     ·
      refine q_gtr false rfl rfl (decide_eq_false hc6) (zS (e := 28) rfl rfl rfl) (lw_tvn 2 rfl (c_cond_f rfl (wp_skip (wp_plain _ [0,0] rfl (q_add ((k + 1 :Nat):Int) rfl rfl (w64n oM sD) zN (lw_tvn 1 rfl ?_))))))
      exact ⟨(k + 1),_,rfl,⟨rfl,rfl,rfl,trivial⟩,⟨hE1,sD,(by exact allR_succ hq (ch_ok oM))⟩,by first | omega | (dsimp only; omega)⟩
  ·
   refine q_lss false rfl rfl (decide_eq_false hc3) zN (lw_tv 3 rfl (q_index (s := s) k u9 rfl rfl rfl sD (zS (e := 13) rfl rfl rfl) ?_))
   by_cases hc7 : 122 < ((sAt s k :Nat):Int)
   ·
    refine q_gtr true rfl rfl (decide_eq_true hc7) (zS (e := 13) rfl rfl rfl) (lw_tv 3 rfl ?_)
    by_cases hc8 : ((k :Nat):Int) = ((0 :Nat):Int)
    ·
     exact q_eql true rfl rfl (decide_eq_true hc8) (zS (e := 19) rfl rfl rfl) (lw_tvn 13 rfl (c_cond_t rfl (wp_seq (wp_plain _ [0] rfl (lw_tvn 1 rfl (wp_ret (b_ret (t_ret (t_ret (b_ret (t_ret (post_ret [2] rfl (.bool false) rfl ⟨z124_0,hE1⟩))))))))))))
    ·
     refine q_eql false rfl rfl (decide_eq_false hc8) (zS (e := 19) rfl rfl rfl) (lw_tv 3 rfl (q_index (s := s) k u9 rfl rfl rfl sD (zS (e := 22) rfl rfl rfl) ?_))
     by_cases hc9 : ((sAt s k :Nat):Int) < 48
     ·
      exact q_lss true rfl rfl (decide_eq_true hc9) (zS (e := 22) rfl rfl rfl) (lw_tvn 8 rfl (c_cond_t rfl (wp_seq (wp_plain _ [0] rfl (lw_tvn 1 rfl (wp_ret (b_ret (t_ret (t_ret (b_ret (t_ret (post_ret [2] rfl (.bool false) rfl ⟨z124_0,hE1⟩))))))))))))
     ·
      refine q_lss false rfl rfl (decide_eq_false hc9) (zS (e := 22) rfl rfl rfl) (lw_tv 4 rfl (q_index (s := s) k u9 rfl rfl rfl sD (zS (e := 28) rfl rfl rfl) ?_))
      by_cases hc10 : 57 < ((sAt s k :Nat):Int)
      ·
       exact q_gtr true rfl rfl (decide_eq_true hc10) (zS (e := 28) rfl rfl rfl) (lw_tvn 2 rfl (c_cond_t rfl (wp_seq (wp_plain _ [0] rfl (lw_tvn 1 rfl (wp_ret (b_ret (t_ret (t_ret (b_ret (t_ret (post_ret [2] rfl (.bool false) rfl ⟨z124_0,hE1⟩))))))))))))
      ·
       refine q_gtr false rfl rfl (decide_eq_false hc10) (zS (e := 28) rfl rfl rfl) (lw_tvn 2 rfl (c_cond_f rfl (wp_skip (wp_plain _ [0,0] rfl (q_add ((k + 1 :Nat):Int) rfl rfl (w64n oM sD) zN (lw_tvn 1 rfl ?_))))))
       exact ⟨(k + 1),_,rfl,⟨rfl,rfl,rfl,trivial⟩,⟨hE1,sD,(by exact allR_succ hq (ch_ok oM))⟩,by first | omega | (dsimp only; omega)⟩
   ·
    refine q_gtr false rfl rfl (decide_eq_false hc7) (zS (e := 13) rfl rfl rfl) (lw_tvn 17 rfl (c_cond_f rfl (wp_skip (wp_plain _ [0,0] rfl (q_add ((k + 1 :Nat):Int) rfl rfl (w64n oM sD) zN (lw_tvn 1 rfl ?_))))))
    exact ⟨(k + 1),_,rfl,⟨rfl,rfl,rfl,trivial⟩,⟨hE1,sD,(by exact allR_succ hq (ch_ok oM))⟩,by first | omega | (dsimp only; omega)⟩
 ·
  refine q_lss false rfl rfl (decide_eq_false hc2) zN (lw_nil (wp_seq (c_cond_f rfl (wp_exit (t_exit (t_exit (c_exit_here (wp_seq (wp_plain _ [0,0,0,0,0,0,0,0,0] rfl (lw_tv 1 rfl (q_lens (s := s) u9 rfl zN ?_)))))))))))
  by_cases hc11 : ((1 :Nat):Int) ≤ ((s.size :Nat):Int)
  ·
   exact q_geq true rfl rfl (decide_eq_true hc11) zN (lw_tv 2 rfl (q_lens (s := s) u9 rfl (zS (e := 39) rfl rfl rfl) (q_leq (decide (((s.size :Nat):Int) ≤ ((12 :Nat):Int))) rfl rfl rfl (zS (e := 39) rfl rfl rfl) (lw_tvn 2 rfl (wp_ret (post_ret [2] rfl (.bool (decide (((s.size :Nat):Int) ≤ ((12 :Nat):Int)))) rfl ⟨z124_0,hE1⟩))))))
  ·
   exact q_geq false rfl rfl (decide_eq_false hc11) zN (lw_tvn 6 rfl (wp_ret (post_ret [2] rfl (.bool false) rfl ⟨z124_0,hE1⟩)))
theorem c_impl_ValidProgram_1 (w : World) (dx : Nat) (vo : Value) (x : Fn) (bf : Nat) (vf : Value) (f : Fn) (hx : RF [] dx w.heap vo x) (hBf : BX w.heap bf [.string f.name,.int .i64 f.params,vf])  :
  Calls Try.prog 125 #[(.agg #[(.string x.name),(.int .i64 x.params),vo]),.pointer (some ⟨bf,0,none⟩)] w (fun e w' => e = .returned (.bool (strE x.name f.name)) ∧ Ext w w') := by
 refine calls_mk [(.agg #[(.string x.name),(.int .i64 x.params),vo]),.pointer (some ⟨bf,0,none⟩)] 9 Try.func125 rfl rfl sM ?_
 have hE0 : Ext w w := Ext.refl w
 have hl_vo := hx.rn.lenle
 unfold maxLen at hl_vo
 refine wp_seq (wp_plain _ [3,0] rfl ?_)
 have hq2 := hBf.lt
 refine r_boxA (cs := #[(.string x.name),(.int .i64 x.params),vo]) rfl zN fun w1 hX1 hz1 hB1 => ?_
 have hzs1:=hX1.size
 have hE1:=hE0.trans hX1
 have hBfx1 := hBf.ext hX1
 replace hB1 : BX w1.heap w.heap.size [(.string x.name),(.int .i64 x.params),vo] := hB1
 exact lw_tvn 1 rfl (wp_seq (wp_plain _ [0,2,0,2,0,0] rfl (q_fldP (p := (.pointer (some ⟨w.heap.size,0,none⟩))) (b := w.heap.size) (o := 0) 0 fd49_0 rfl rfl zN (q_load (p := (padd (.pointer (some ⟨w.heap.size,0,none⟩)) 0)) (.inr rfl) (.string x.name) one9 rfl (hB1.ldp (i := 0) sM) zN (q_fldP (p := (.pointer (some ⟨bf,0,none⟩))) (b := bf) (o := 0) 0 fd49_0 rfl rfl zN (q_load (p := (padd (.pointer (some ⟨bf,0,none⟩)) 0)) (.inr rfl) (.string f.name) one9 rfl (hBfx1.ldp (i := 0) sM) zN (q_eqls (strE x.name f.name) u9 rfl rfl rfl zN (lw_tvn 1 rfl (wp_ret (post_ret [3] rfl (.bool (strE x.name f.name)) rfl ⟨rfl,hE1⟩))))))))))
theorem c_slices_IndexFunc___impl_Func_impl_Func_ (w : World) (da : Nat) (va : Value) (a : List Fn) (q : Nat) (qf qc : List Value) (pr : Fn → Bool) (ha : RP [] da w.heap va a) (hcf_q : ((Try.prog.funcs[q]?).map fun fn => (fn.name != "runtime.NumGoroutine") && fn.body.isSome) = some true) (hpr : ∀ (d9 : Nat) (u : Value) (x : Fn) w1,RF [] d9 w1.heap u x → Ext w w1 → Calls Try.prog q (qf ++ [Value.agg #[Value.string x.name,Value.int .i64 x.params,u]] ++ qc).toArray w1 (fun e w2 => e = .returned (.bool (pr x)) ∧ Ext w1 w2))  :
  Calls Try.prog 122 #[va,.func (.func q) qf.toArray qc.toArray] w (fun e w' => e = .returned (.int .i64 (ixF pr a)) ∧ Ext w w') := by
 refine calls_mk [va,.func (.func q) qf.toArray qc.toArray] 19 Try.func122 rfl rfl sM ?_
 have hE0 : Ext w w := Ext.refl w
 have hl_va := ha.lenle
 unfold maxLen at hl_va
 refine wp_seq (wp_plain _ [0] rfl (lw_tvn 1 rfl (wp_seq (wp_seq (wp_plain _ [0,0,0] rfl (lw_tv 1 rfl (q_len (v := va) u50 rfl ha.isSl zN (lw_tvn 1 rfl (wp_block ?_)))))))))
 refine c_loop (S := Nat) (fun (k : Nat) => ([(8,(.int .i64 ((k :Nat):Int))),(0,va),(1,(.func (.func q) qf.toArray qc.toArray)),(7,(.int .i64 ((a.length :Nat):Int)))] : List (Nat × Value))) (fun (k : Nat) (W : World) => Ext w W ∧ k ≤ a.length ∧ (∀ j,j < k → pr (a.getD j Fn.zero) = false)) (fun (k : Nat) => a.length - k) 0 ⟨rfl,rfl,rfl,rfl,trivial⟩ ⟨hE0,sD,(by intro j hj; omega)⟩ ?_
 clear hE0
 rintro k ρ1 w1 ⟨hE1,hp1_0,hq⟩
 have hzs1 : w.heap.size ≤ w1.heap.size := hE1.size
 refine wp_seq (wp_plain _ [0] rfl ?_)
 by_cases hc2 : ((k :Nat):Int) < ((a.length :Nat):Int)
 ·
  refine q_lss true rfl rfl (decide_eq_true hc2) zN (lw_nil (wp_seq (c_cond_t rfl (wp_skip (wp_seq (wp_block (wp_seq (wp_plain _ [0,0] rfl (lw_tvn 2 rfl (wp_seq (wp_plain _ [0,0,0,0,2,3] rfl (lw_tv 3 rfl (q_idx (v := va) k u50 tiS49 rfl rfl ha.isSl rfl sD zN ?_)))))))))))))
  obtain ⟨cs3,hr3,hl3⟩ := ha.get (good_rFn da) Fn.zero (k := k) sD
  obtain ⟨ve3,rfl,hx3⟩ := RF.of hr3
  have hln3 := hx3.rn.lenle
  unfold maxLen at hln3
  refine q_loadA (p := eptr va k 3) (.inr rfl) [(.string ((a.getD k Fn.zero).name)),(.int .i64 ((a.getD k Fn.zero).params)),ve3] agg49 rfl (fun wq9 hw9 => hl3 wq9 (Chg.of_ext [] (hE1.trans hw9))) rfl zN ?_
  have hcall4 := hpr da ve3 (a.getD k Fn.zero) w1 ⟨hx3.rng,(hx3.rn.ext (good_rdS (good_rEx da)) hE1)⟩ hE1
  refine lw_call q qf qc _ rfl rfl hcf_q zN hcall4 ?_
  rintro e4 w4 ⟨rfl,hX4⟩
  refine ⟨_,rfl,hX4,?_⟩
  have hzs4:=hX4.size
  have hE4:=hE1.trans hX4
  cases hc4 : pr (a.getD k Fn.zero)
  ·
   refine lw_nil (c_cond_f rfl (wp_skip (wp_plain _ [0,0] rfl (q_add ((k + 1 :Nat):Int) rfl rfl (w64n oM sD) zN (lw_tvn 1 rfl ?_)))))
   exact ⟨(k + 1),_,rfl,⟨rfl,rfl,rfl,rfl,trivial⟩,⟨hE4,sD,(by exact ix_step hq (by assumption))⟩,by first | omega | (dsimp only; omega)⟩
  ·
   exact lw_nil (c_cond_t rfl (wp_seq (wp_plain _ [0,0] rfl (lw_tvn 2 rfl (wp_ret (b_ret (t_ret (t_ret (b_ret (t_ret (post_ret [4] rfl (.int .i64 ((k :Nat):Int)) rfl ⟨(ret_int (ix_yes Fn.zero hq oM (by assumption))),hE4⟩)))))))))))
 ·
  exact q_lss false rfl rfl (decide_eq_false hc2) zN (lw_nil (wp_seq (c_cond_f rfl (wp_exit (t_exit (t_exit (c_exit_here (wp_seq (wp_plain _ [0] rfl (lw_tvn 1 rfl (wp_ret (post_ret [4] rfl (.int .i64 (-1)) rfl ⟨(ret_int (ix_no Fn.zero hq oM)),hE1⟩))))))))))))
theorem c_slices_ContainsFunc___impl_Func_impl_Func_ (w : World) (da : Nat) (va : Value) (a : List Fn) (q : Nat) (qf qc : List Value) (pr : Fn → Bool) (ha : RP [] da w.heap va a) (hcf_q : ((Try.prog.funcs[q]?).map fun fn => (fn.name != "runtime.NumGoroutine") && fn.body.isSome) = some true) (hpr : ∀ (d9 : Nat) (u : Value) (x : Fn) w1,RF [] d9 w1.heap u x → Ext w w1 → Calls Try.prog q (qf ++ [Value.agg #[Value.string x.name,Value.int .i64 x.params,u]] ++ qc).toArray w1 (fun e w2 => e = .returned (.bool (pr x)) ∧ Ext w1 w2))  :
  Calls Try.prog 84 #[va,.func (.func q) qf.toArray qc.toArray] w (fun e w' => e = .returned (.bool (a.any pr)) ∧ Ext w w') := by
 refine calls_mk [va,.func (.func q) qf.toArray qc.toArray] 9 Try.func84 rfl rfl sM ?_
 have hE0 : Ext w w := Ext.refl w
 have hl_va := ha.lenle
 unfold maxLen at hl_va
 refine wp_seq (wp_plain _ [0] rfl (lw_tvn 1 rfl (wp_seq (wp_plain _ [0,0,3,0,0] rfl (lw_tv 2 rfl (lw_call 122 [] [] [va,(.func (.func q) qf.toArray qc.toArray)] rfl rfl cf122 zN (c_slices_IndexFunc___impl_Func_impl_Func_ _ da va (a) q qf qc pr (ha.ext (good_rdS (good_rFn da)) hE0) hcf_q (fun d9 u x w1 hx hw => hpr d9 u x w1 hx (hE0.trans hw))) ?_))))))
 rintro e1 w1 ⟨rfl,hX1⟩
 refine ⟨_,rfl,hX1,?_⟩
 have hzs1:=hX1.size
 have hE1:=hE0.trans hX1
 exact q_geq (decide (((0 :Nat):Int) ≤ ixF pr a)) rfl rfl rfl zN (lw_tvn 1 rfl (wp_ret (post_ret [4] rfl (.bool (decide (((0 :Nat):Int) ≤ ixF pr a))) rfl ⟨(ret_bool (ix_ge pr a)),hE1⟩)))
theorem c_impl_areVars (w : World) (vars : Int) (_hvars : -9223372036854775808 ≤ vars ∧ vars ≤ 9223372036854775807)  :
  Calls Try.prog 146 #[.int .i64 vars] w (fun e w' => e = .returned (.bool (inB vars 0 412)) ∧ w' = w) := by
 refine calls_mk [.int .i64 vars] 5 Try.func146 rfl rfl sM ?_
 have hE0 : w = w := rfl
 exact wp_seq (wp_plain _ [0] rfl (lw_tvn 1 rfl (wp_seq (wp_plain _ [0,0,0] rfl (lw_tv 1 rfl (lw_callq 83 [] [] [(.int .i64 vars),(.int .i64 ((0 :Nat):Int)),(.int .i64 ((412 :Nat):Int))] rfl rfl cf83 zN (.bool (decide (((0 :Nat):Int) ≤ vars) && decide (vars ≤ ((412 :Nat):Int)))) (fun wq => c_impl_within wq _ _ _ _hvars oM oM) (lw_tvn 1 rfl (wp_ret (post_ret [2] rfl (.bool (decide (((0 :Nat):Int) ≤ vars) && decide (vars ≤ ((412 :Nat):Int)))) rfl ⟨rfl,hE0⟩)))))))))
theorem exB_t {p : List Fn} {e : Ex} {vars funcs : Int} (h : (0 ≤ vars ∧ vars ≤ 412) ∧ (0 ≤ funcs ∧ funcs ≤ ((p.length : Nat) : Int)) ∧ e.size ≤ 400 ∧ e.deep ≤ 60) : wf p funcs e vars = exB p e vars funcs := by
  unfold exB
  rw [inB_iff.2 h.1, inB_iff.2 h.2.1, decide_eq_true h.2.2.1, decide_eq_true h.2.2.2]; rfl
theorem exB_f {p : List Fn} {e : Ex} {vars funcs : Int} (h : ¬ ((0 ≤ vars ∧ vars ≤ 412) ∧ (0 ≤ funcs ∧ funcs ≤ ((p.length : Nat) : Int)) ∧ e.size ≤ 400 ∧ e.deep ≤ 60)) : false = exB p e vars funcs := by
  cases hh : exB p e vars funcs with
  | false => rfl
  | true =>
    unfold exB at hh
    simp only [Bool.and_eq_true, decide_eq_true_eq, inB_iff] at hh
    exact absurd ⟨hh.1, hh.2.1, hh.2.2.1, hh.2.2.2.1⟩ h
theorem exB_w {p : List Fn} {e : Ex} {vars funcs : Int} (h : wf p funcs e vars = false) : false = exB p e vars funcs := by
  unfold exB; rw [h]; simp
theorem inB_f {x a b : Int} (h : inB x a b = false) : ¬ (a ≤ x ∧ x ≤ b) := fun hh => by rw [inB_iff.2 hh] at h; cases h
theorem inB_d {x a b : Int} (h : (decide (a ≤ x) && decide (x ≤ b)) = false) : ¬ (a ≤ x ∧ x ≤ b) := inB_f h
theorem inB_e {x a b : Int} (h : (decide (a ≤ x) && decide (x ≤ b)) = true) : a ≤ x ∧ x ≤ b := inB_iff.1 h
theorem z126_0 {p : Prop} (h : p := by first | exact ret_bool (exB_w (by assumption)) | exact ret_bool (exB_t ⟨inB_iff.1 (by assumption), inB_e (by assumption), by omega, by omega⟩) | exact ret_bool ((by assumption : wf p funcs ex vars = true).symm.trans (exB_t ⟨inB_iff.1 (by assumption), inB_e (by assumption), by omega, by omega⟩)) | exact ret_bool (exB_f fun hh => inB_f (by assumption) hh.1) | exact ret_bool (exB_f fun hh => inB_d (by assumption) hh.2.1) | exact ret_bool (exB_f oM)) : p := h
theorem c_impl_ValidExpr (w : World) (dp : Nat) (vp : Value) (p : List Fn) (dex : Nat) (ve : Value) (ex : Ex) (vars : Int) (funcs : Int) (hp : RP [] dp w.heap vp p) (hex : RX [] dex w.heap ve ex) (_hvars : -9223372036854775808 ≤ vars ∧ vars ≤ 9223372036854775807) (_hfuncs : -9223372036854775808 ≤ funcs ∧ funcs ≤ 9223372036854775807) (hs : ex.size ≤ 1000000000) :
  Calls Try.prog 126 #[(.agg #[vp]),(.agg #[(.int .i64 ex.kind),(.int .i64 ex.num),(.int .i64 ex.pick),(.int .i64 ex.count),ve]),.int .i64 vars,.int .i64 funcs] w (fun e w' => e = .returned (.bool (exB p ex vars funcs)) ∧ Ext w w') := by
 refine calls_mk [(.agg #[vp]),(.agg #[(.int .i64 ex.kind),(.int .i64 ex.num),(.int .i64 ex.pick),(.int .i64 ex.count),ve]),.int .i64 vars,.int .i64 funcs] 36 Try.func126 rfl rfl sM ?_
 have hE0 : Ext w w := Ext.refl w
 have hl_vp := hp.lenle
 unfold maxLen at hl_vp
 have hl_ve := hex.rn.lenle
 unfold maxLen at hl_ve
 refine wp_seq (wp_plain _ [3,3,0] rfl (r_boxA (cs := #[vp]) rfl zN fun w1 hX1 hz1 hB1 => ?_))
 have hzs1:=hX1.size
 have hE1:=hE0.trans hX1
 replace hB1 : BX w1.heap w.heap.size [vp] := hB1
 have hq3 := hB1.lt
 refine r_boxA (cs := #[(.int .i64 ex.kind),(.int .i64 ex.num),(.int .i64 ex.pick),(.int .i64 ex.count),ve]) rfl zN fun w2 hX2 hz2 hB2 => ?_
 have hzs2:=hX2.size
 have hE2:=hE1.trans hX2
 have hB1x2 := hB1.ext hX2
 replace hB2 : BX w2.heap w1.heap.size [(.int .i64 ex.kind),(.int .i64 ex.num),(.int .i64 ex.pick),(.int .i64 ex.count),ve] := hB2
 refine lw_tvn 1 rfl (wp_seq (wp_plain _ [0,0,0,0,0,2,0,0,0,0,2,3,0,0,0,2,3,0,0,0,2,0,0,2,0,3,0,0] rfl (lw_tv 1 rfl (lw_callq 146 [] [] [(.int .i64 vars)] rfl rfl cf146 zN (.bool (inB vars 0 412)) (fun wq => c_impl_areVars wq _ _hvars) (lw_tv 1 rfl ?_)))))
 cases hb5 : (inB vars 0 412)
 ·
  exact lw_tvn 25 rfl (wp_ret (post_ret [8] rfl (.bool false) rfl ⟨z126_0,hE2⟩))
 ·
  refine lw_tv 1 rfl (q_fldP (p := (.pointer (some ⟨w.heap.size,0,none⟩))) (b := w.heap.size) (o := 0) 0 fd52_0 rfl rfl (zS (e := 11) rfl rfl rfl) (q_load (p := (padd (.pointer (some ⟨w.heap.size,0,none⟩)) 0)) (.inr rfl) vp one50 rfl (hB1x2.ldp (i := 0) sM) (zS (e := 11) rfl rfl rfl) (q_len (v := vp) u50 rfl hp.isSl (zS (e := 11) rfl rfl rfl) (lw_callq 83 [] [] [(.int .i64 funcs),(.int .i64 ((0 :Nat):Int)),(.int .i64 ((p.length :Nat):Int))] rfl rfl cf83 (zS (e := 11) rfl rfl rfl) (.bool (decide (((0 :Nat):Int) ≤ funcs) && decide (funcs ≤ ((p.length :Nat):Int)))) (fun wq => c_impl_within wq _ _ _ _hfuncs oM oM) (lw_tv 2 rfl ?_)))))
  cases hb7 : (decide (((0 :Nat):Int) ≤ funcs) && decide (funcs ≤ ((p.length :Nat):Int)))
  ·
   exact lw_tvn 18 rfl (wp_ret (post_ret [8] rfl (.bool false) rfl ⟨z126_0,hE2⟩))
  ·
   refine q_loadA (p := (.pointer (some ⟨w1.heap.size,0,none⟩))) (.inr rfl) [(.int .i64 ex.kind),(.int .i64 ex.num),(.int .i64 ex.pick),(.int .i64 ex.count),ve] agg46 rfl (fun wq9 hw9 => LD.of_box (BX.ext (w := w2) hB2 hw9)) rfl (zS (e := 18) rfl rfl rfl) (lw_call 127 [] [] [(.agg #[(.int .i64 ex.kind),(.int .i64 ex.num),(.int .i64 ex.pick),(.int .i64 ex.count),ve])] rfl rfl cf127 (zS (e := 18) rfl rfl rfl) (c_impl_ExprSize _ dex ve (ex) (hex.ext hE2) oM) ?_)
   rintro e8 w8 ⟨rfl,hX8⟩
   refine ⟨_,rfl,hX8,?_⟩
   have hzs8:=hX8.size
   have hE8:=hE2.trans hX8
   have hB1x8 := hB1x2.ext hX8
   have hB2x8 := hB2.ext hX8
   by_cases hc9 : ((ex.size :Nat):Int) ≤ ((400 :Nat):Int)
   ·
    refine q_leq true rfl rfl (decide_eq_true hc9) (zS (e := 18) rfl rfl rfl) (lw_tv 2 rfl (q_loadA (p := (.pointer (some ⟨w1.heap.size,0,none⟩))) (.inr rfl) [(.int .i64 ex.kind),(.int .i64 ex.num),(.int .i64 ex.pick),(.int .i64 ex.count),ve] agg46 rfl (fun wq9 hw9 => LD.of_box (BX.ext (w := w8) hB2x8 hw9)) rfl (zS (e := 23) rfl rfl rfl) (lw_call 147 [] [] [(.agg #[(.int .i64 ex.kind),(.int .i64 ex.num),(.int .i64 ex.pick),(.int .i64 ex.count),ve])] rfl rfl cf147 (zS (e := 23) rfl rfl rfl) (c_impl_ExprDepth _ dex ve (ex) (hex.ext hE8) oM) ?_)))
    rintro e10 w10 ⟨rfl,hX10⟩
    refine ⟨_,rfl,hX10,?_⟩
    have hzs10:=hX10.size
    have hE10:=hE8.trans hX10
    have hB1x10 := hB1x8.ext hX10
    have hB2x10 := hB2x8.ext hX10
    by_cases hc11 : ((ex.deep :Nat):Int) ≤ ((60 :Nat):Int)
    ·
     refine q_leq true rfl rfl (decide_eq_true hc11) (zS (e := 23) rfl rfl rfl) (lw_tv 2 rfl (q_loadA (p := (.pointer (some ⟨w.heap.size,0,none⟩))) (.inr rfl) [vp] agg52 rfl (fun wq9 hw9 => LD.of_box (BX.ext (w := w10) hB1x10 hw9)) rfl (zS (e := 28) rfl rfl rfl) (lw_tv 1 rfl ?_)))
     have hbd12 : ∀ (vp : Value) (m12_0 : Nat) (h12_0 : isSl vp m12_0) (wq : World),(Instr.build 182 #[(0,(.agg #[vp])),(1,(.int .i64 funcs))]).run Try.prog wq = .ok (.agg #[vp,(.int .i64 funcs)]) wq := by intro vp m12_0 h12_0 wq; obtain ⟨a12_0,c12_0,rfl,_⟩ := h12_0; kernel_rfl
     refine q_build (ps := #[(0,(.agg #[vp])),(1,(.int .i64 funcs))]) (.agg #[vp,(.int .i64 funcs)]) (by simp only [List.map_toArray,List.map_cons,List.map_nil]; rfl) (fun wq => hbd12 vp _ hp.isSl wq) (zS (e := 28) rfl rfl rfl) (q_loadA (p := (.pointer (some ⟨w1.heap.size,0,none⟩))) (.inr rfl) [(.int .i64 ex.kind),(.int .i64 ex.num),(.int .i64 ex.pick),(.int .i64 ex.count),ve] agg46 rfl (fun wq9 hw9 => LD.of_box (BX.ext (w := w10) hB2x10 hw9)) rfl (zS (e := 28) rfl rfl rfl) (lw_tv 1 rfl ?_))
     refine lw_call 148 [] [] [(.agg #[vp,(.int .i64 funcs)]),(.agg #[(.int .i64 ex.kind),(.int .i64 ex.num),(.int .i64 ex.pick),(.int .i64 ex.count),ve]),(.int .i64 vars)] rfl rfl cf148 (zS (e := 28) rfl rfl rfl) (c_impl_checker_isFormed _ dp vp (p) (funcs) dex ve (ex) _ (hp.ext (good_rdS (good_rFn dp)) hE10) _hfuncs (hex.ext hE10) _hvars (by have h1 := inB_iff.1 (by assumption : inB vars 0 412 = true); omega) (by have h2 := inB_e (by assumption : (decide (((0 :Nat):Int) ≤ funcs) && decide (funcs ≤ ((p.length :Nat):Int))) = true); omega)) ?_
     rintro e13 w13 ⟨rfl,hX13⟩
     refine ⟨_,rfl,hX13,?_⟩
     have hzs13:=hX13.size
     have hE13:=hE10.trans hX13
     have hB1x13 := hB1x10.ext hX13
     have hB2x13 := hB2x10.ext hX13
     exact lw_tvn 2 rfl (wp_ret (post_ret [8] rfl (.bool (wf p funcs ex vars)) rfl ⟨z126_0,hE13⟩))
    ·
     exact q_leq false rfl rfl (decide_eq_false hc11) (zS (e := 23) rfl rfl rfl) (lw_tvn 10 rfl (wp_ret (post_ret [8] rfl (.bool false) rfl ⟨z126_0,hE10⟩)))
   ·
    exact q_leq false rfl rfl (decide_eq_false hc9) (zS (e := 18) rfl rfl rfl) (lw_tvn 15 rfl (wp_ret (post_ret [8] rfl (.bool false) rfl ⟨z126_0,hE8⟩)))
theorem ok_big {p : List Fn} (h : ¬ p.length ≤ 16) : false = okP p := by unfold okP; rw [decide_eq_false h]; rfl
theorem ok_bad {p : List Fn} {k : Nat} (hk : k < p.length) (h : fnB p k = false) : false = okP p := by unfold okP; rw [allR_fail hk h, Bool.and_false]
theorem ok_end {p : List Fn} {k : Nat} (hl : p.length ≤ 16) (hk : p.length ≤ k) (hk2 : k ≤ p.length) (h : (List.range k).all (fnB p) = true) : true = okP p := by
  have : k = p.length := by omega
  subst this; unfold okP; rw [h, decide_eq_true hl]; rfl
section
variable {p : List Fn} {k : Nat}
theorem fn_1 (h : nmB (p.getD k Fn.zero).name = false) : fnB p k = false := by unfold fnB; rw [h]; rfl
theorem fn_2 (h : (p.take k).any (fun g => strE g.name (p.getD k Fn.zero).name) = true) : fnB p k = false := by unfold fnB newB; rw [h]; simp
theorem fn_3 (h : (decide (((0 : Nat) : Int) ≤ (p.getD k Fn.zero).params) && decide ((p.getD k Fn.zero).params ≤ ((12 : Nat) : Int))) = false) : fnB p k = false := by
  have h' : inB (p.getD k Fn.zero).params 0 12 = false := h
  unfold fnB; rw [h']; simp
theorem fn_4 (h : (decide (((1 : Nat) : Int) ≤ (((p.getD k Fn.zero).outs.length : Nat) : Int)) && decide ((((p.getD k Fn.zero).outs.length : Nat) : Int) ≤ ((12 : Nat) : Int))) = false) : fnB p k = false := by
  have h' : inB (((p.getD k Fn.zero).outs.length : Nat) : Int) 1 12 = false := h
  unfold fnB; rw [h']; simp
theorem fn_5 {j : Nat} (hj : j < (p.getD k Fn.zero).outs.length) (h : exB p ((p.getD k Fn.zero).outs.getD j Ex.zero) (p.getD k Fn.zero).params ((k : Nat) : Int) = false) : fnB p k = false := by
  unfold fnB
  rw [allR_fail hj h]; simp
theorem fn_6 (h : ¬ Ex.sizes (p.getD k Fn.zero).outs ≤ 400) : fnB p k = false := by
  unfold fnB; rw [decide_eq_false h]; simp
theorem fn_ok {j : Nat} (h1 : nmB (p.getD k Fn.zero).name = true) (h2 : (p.take k).any (fun g => strE g.name (p.getD k Fn.zero).name) = false) (h3 : (decide (((0 : Nat) : Int) ≤ (p.getD k Fn.zero).params) && decide ((p.getD k Fn.zero).params ≤ ((12 : Nat) : Int))) = true) (h4 : (decide (((1 : Nat) : Int) ≤ (((p.getD k Fn.zero).outs.length : Nat) : Int)) && decide ((((p.getD k Fn.zero).outs.length : Nat) : Int) ≤ ((12 : Nat) : Int))) = true) (h5 : (List.range j).all (fun j => exB p ((p.getD k Fn.zero).outs.getD j Ex.zero) (p.getD k Fn.zero).params ((k : Nat) : Int)) = true) (hj : j = (p.getD k Fn.zero).outs.length) (h6 : Ex.sizes (p.getD k Fn.zero).outs ≤ 400) : fnB p k = true := by
  have h3' : inB (p.getD k Fn.zero).params 0 12 = true := h3
  have h4' : inB (((p.getD k Fn.zero).outs.length : Nat) : Int) 1 12 = true := h4
  subst hj
  unfold fnB newB
  rw [h1, h2, h3', h4', h5, decide_eq_true h6]; rfl
end
theorem bn_f {b : Bool} (h : (!b) = false) : b = true := by cases b <;> simp_all
theorem bn_t {b : Bool} (h : (!b) = true) : b = false := by cases b <;> simp_all
theorem z88_0 {p : Prop} (h : p := by first | exact ret_bool (ok_big oM) | exact ret_bool (ok_end oM oM oM hq) | exact ret_bool (ok_bad (k := k) oM (fn_1 (bn_t (by assumption)))) | exact ret_bool (ok_bad (k := k) oM (fn_2 (by assumption))) | exact ret_bool (ok_bad (k := k) oM (fn_3 (bn_t (by assumption)))) | exact ret_bool (ok_bad (k := k) oM (fn_4 (bn_t (by assumption)))) | exact ret_bool (ok_bad (k := k) oM (fn_5 (j := j) oM (bn_t (by assumption)))) | exact ret_bool (ok_bad (k := k) oM (fn_6 oM))) : p := h
theorem c_impl_ValidProgram (w : World) (dp : Nat) (vp : Value) (p : List Fn) (hp : RP [] dp w.heap vp p) (hz : SzP p) :
  Calls Try.prog 88 #[(.agg #[vp])] w (fun e w' => e = .returned (.bool (okP p)) ∧ Ext w w') := by
 refine calls_mk [(.agg #[vp])] 65 Try.func88 rfl rfl sM ?_
 have hE0 : Ext w w := Ext.refl w
 have hl_vp := hp.lenle
 unfold maxLen at hl_vp
 refine wp_seq (wp_plain _ [3,0] rfl (r_boxA (cs := #[vp]) rfl zN fun w1 hX1 hz1 hB1 => ?_))
 have hzs1:=hX1.size
 have hE1:=hE0.trans hX1
 replace hB1 : BX w1.heap w.heap.size [vp] := hB1
 refine lw_tvn 1 rfl (wp_seq (wp_seq (wp_plain _ [0,2,0,0] rfl (q_fldP (p := (.pointer (some ⟨w.heap.size,0,none⟩))) (b := w.heap.size) (o := 0) 0 fd52_0 rfl rfl zN (q_load (p := (padd (.pointer (some ⟨w.heap.size,0,none⟩)) 0)) (.inr rfl) vp one50 rfl (hB1.ldp (i := 0) sM) zN (q_len (v := vp) u50 rfl hp.isSl zN ?_))))))
 by_cases hc2 : ((16 :Nat):Int) < ((p.length :Nat):Int)
 ·
  exact q_gtr true rfl rfl (decide_eq_true hc2) zN (lw_nil (c_cond_t rfl (wp_seq (wp_plain _ [0] rfl (lw_tvn 1 rfl (wp_ret (t_ret (post_ret [2] rfl (.bool false) rfl ⟨z88_0,hE1⟩))))))))
 ·
  refine q_gtr false rfl rfl (decide_eq_false hc2) zN (lw_nil (c_cond_f rfl (wp_skip (wp_seq (wp_seq (wp_plain _ [0,2,0,0] rfl (q_fldP (p := (.pointer (some ⟨w.heap.size,0,none⟩))) (b := w.heap.size) (o := 0) 0 fd52_0 rfl rfl zN (q_load (p := (padd (.pointer (some ⟨w.heap.size,0,none⟩)) 0)) (.inr rfl) vp one50 rfl (hB1.ldp (i := 0) sM) zN (q_len (v := vp) u50 rfl hp.isSl zN (lw_tvn 1 rfl (wp_block ?_)))))))))))
  refine c_loop (S := Nat) (fun (k : Nat) => ([(15,(.int .i64 ((k :Nat):Int))),(1,(.pointer (some ⟨w.heap.size,0,none⟩))),(13,vp),(14,(.int .i64 ((p.length :Nat):Int)))] : List (Nat × Value))) (fun (k : Nat) (W : World) => Ext w W ∧ BX W.heap w.heap.size [vp] ∧ k ≤ p.length ∧ (List.range k).all (fnB p) = true) (fun (k : Nat) => p.length - k) 0 ⟨rfl,rfl,rfl,rfl,trivial⟩ ⟨hE1,hB1,sD,(by rfl)⟩ ?_
  clear hE0 hz1 hX1 hzs1 hE1
  rintro k ρ3 w3 ⟨hE3,hL3_0,hp3_0,hq⟩
  have hzs3 : w.heap.size ≤ w3.heap.size := hE3.size
  have hq4 := hL3_0.lt
  refine wp_seq (wp_plain _ [0] rfl ?_)
  by_cases hc5 : ((k :Nat):Int) < ((p.length :Nat):Int)
  ·
   refine q_lss true rfl rfl (decide_eq_true hc5) zN (lw_nil (wp_seq (c_cond_t rfl (wp_skip (wp_seq (wp_block (wp_seq (wp_plain _ [0,0,2,3,0,4] rfl (lw_tv 1 rfl (q_idx (v := vp) k u50 tiS49 rfl rfl hp.isSl rfl sD zN ?_))))))))))
   obtain ⟨cs6,hr6,hl6⟩ := hp.get (good_rFn dp) Fn.zero (k := k) sD
   obtain ⟨ve6,rfl,hx6⟩ := RF.of hr6
   have hln6 := hx6.rn.lenle
   unfold maxLen at hln6
   refine q_loadA (p := eptr vp k 3) (.inr rfl) [(.string ((p.getD k Fn.zero).name)),(.int .i64 ((p.getD k Fn.zero).params)),ve6] agg49 rfl (fun wq9 hw9 => hl6 wq9 (Chg.of_ext [] (hE3.trans hw9))) rfl zN ?_
   have hq8 := hL3_0.lt
   refine r_allocA (z := .agg #[.string ByteArray.empty,.int .i64 0,.slice none 0 0]) zr49 zN fun w7 hX7 hz7 hB7 => ?_
   have hzs7:=hX7.size
   have hE7:=hE3.trans hX7
   have hL3_0x7 := hL3_0.ext hX7
   replace hB7 : BX w7.heap w3.heap.size [(.string ByteArray.empty),(.int .i64 0),(.slice none 0 0)] := hB7
   refine lw_tv 1 rfl (e_setA (vs := [(.string ((p.getD k Fn.zero).name)),(.int .i64 ((p.getD k Fn.zero).params)),ve6]) agg49 rfl rfl hx6.ones hB7 rfl rfl zN fun w9 hC9 hz9 hB9 => ?_)
   replace hB9 : BX w9.heap w3.heap.size [(.string ((p.getD k Fn.zero).name)),(.int .i64 ((p.getD k Fn.zero).params)),ve6] := hB9
   have hE9 : Ext w w9 := hC9.below hE7 (fun c hc => by have := List.mem_singleton.1 hc; omega) hE7.size
   have hzs9:=hC9.size
   have hF10 := hL3_0x7.chg hC9 (fun hm => by have := List.mem_singleton.1 hm; omega)
   refine lw_nil (wp_seq (wp_seq (wp_plain _ [0,2,0,0,0,0,2,0,0,0,3,0] rfl ?_)))
   have hzk := hz k oM
   refine q_fldP (p := (.pointer (some ⟨w3.heap.size,0,none⟩))) (b := w3.heap.size) (o := 0) 0 fd49_0 rfl rfl zN (q_load (p := (padd (.pointer (some ⟨w3.heap.size,0,none⟩)) 0)) (.inr rfl) (.string ((p.getD k Fn.zero).name)) one9 rfl (hB9.ldp (i := 0) sM) zN (lw_callq 124 [] [] [(.string ((p.getD k Fn.zero).name))] rfl rfl cf124 zN (.bool (nmB ((p.getD k Fn.zero).name))) (fun wq => c_impl_IsName wq ((p.getD k Fn.zero).name) oM) (q_not (!(nmB ((p.getD k Fn.zero).name))) rfl rfl zN (lw_tv 1 rfl ?_))))
   cases hb12 : (!(nmB ((p.getD k Fn.zero).name)))
   ·
    refine q_fldP (p := (.pointer (some ⟨w.heap.size,0,none⟩))) (b := w.heap.size) (o := 0) 0 fd52_0 rfl rfl (zS (e := 24) rfl rfl rfl) (q_load (p := (padd (.pointer (some ⟨w.heap.size,0,none⟩)) 0)) (.inr rfl) vp one50 rfl (hF10.ldp (i := 0) sM) (zS (e := 24) rfl rfl rfl) (lw_tv 1 rfl (q_pref (v := vp) (k := k) u50 tiS49 rfl hp.isSl hp.capS rfl sD (zS (e := 24) rfl rfl rfl) ?_)))
    have hpf13 := RN.pref (good_rFn dp) (k := k) hp sD
    refine q_func [] [(.pointer (some ⟨w3.heap.size,0,none⟩))] rfl rfl (zS (e := 24) rfl rfl rfl) (lw_call 84 [] [] [(prefV vp k),(.func (.func 125) #[] #[(.pointer (some ⟨w3.heap.size,0,none⟩))])] rfl rfl cf84 (zS (e := 24) rfl rfl rfl) (c_slices_ContainsFunc___impl_Func_impl_Func_ _ dp (prefV vp k) (p.take k) 125 [] [(.pointer (some ⟨w3.heap.size,0,none⟩))] (fun g => strE g.name (p.getD k Fn.zero).name) (hpf13.ext (good_rdS (good_rFn dp)) hE9) cf125 (fun d9 u x w1 hx hw => c_impl_ValidProgram_1 w1 d9 u x w3.heap.size ve6 (p.getD k Fn.zero) hx (hB9.ext hw))) ?_)
    rintro e14 w14 ⟨rfl,hX14⟩
    refine ⟨_,rfl,hX14,?_⟩
    have hzs14:=hX14.size
    have hE14:=hE9.trans hX14
    have hF10x14 := hF10.ext hX14
    have hB9x14 := hB9.ext hX14
    refine lw_tvn 1 rfl ?_
    cases hb15 : ((p.take k).any (fun g => strE g.name (p.getD k Fn.zero).name))
    ·
     refine c_cond_f (by first | rfl | (show Value.bool _ = _; rw [hb15])) (wp_skip (wp_seq (wp_seq (wp_plain _ [0,2,0,0,0,0,2,0,0,0,0] rfl (q_fldP (p := (.pointer (some ⟨w3.heap.size,0,none⟩))) (b := w3.heap.size) (o := 0) 1 fd49_1 rfl rfl zN (q_load (p := (padd (.pointer (some ⟨w3.heap.size,0,none⟩)) 1)) (.inr rfl) (.int .i64 ((p.getD k Fn.zero).params)) one2 rfl (hB9x14.ldp (i := 1) sM) zN (lw_callq 83 [] [] [(.int .i64 ((p.getD k Fn.zero).params)),(.int .i64 ((0 :Nat):Int)),(.int .i64 ((12 :Nat):Int))] rfl rfl cf83 zN (.bool (decide (((0 :Nat):Int) ≤ ((p.getD k Fn.zero).params)) && decide (((p.getD k Fn.zero).params) ≤ ((12 :Nat):Int)))) (fun wq => c_impl_within wq _ _ _ hx6.rng oM oM) ?_)))))))
     refine q_not (!(decide (((0 :Nat):Int) ≤ ((p.getD k Fn.zero).params)) && decide (((p.getD k Fn.zero).params) ≤ ((12 :Nat):Int)))) rfl rfl zN (lw_tv 1 rfl ?_)
     cases hb17 : (!(decide (((0 :Nat):Int) ≤ ((p.getD k Fn.zero).params)) && decide (((p.getD k Fn.zero).params) ≤ ((12 :Nat):Int))))
     ·
      refine q_fldP (p := (.pointer (some ⟨w3.heap.size,0,none⟩))) (b := w3.heap.size) (o := 0) 2 fd49_2 rfl rfl (zS (e := 36) rfl rfl rfl) (q_load (p := (padd (.pointer (some ⟨w3.heap.size,0,none⟩)) 2)) (.inr rfl) ve6 one44 rfl (hB9x14.ldp (i := 2) sM) (zS (e := 36) rfl rfl rfl) (q_len (v := ve6) u44 rfl hx6.rn.isSl (zS (e := 36) rfl rfl rfl) (lw_callq 83 [] [] [(.int .i64 ((((p.getD k Fn.zero).outs).length :Nat):Int)),(.int .i64 ((1 :Nat):Int)),(.int .i64 ((12 :Nat):Int))] rfl rfl cf83 (zS (e := 36) rfl rfl rfl) (.bool (decide (((1 :Nat):Int) ≤ ((((p.getD k Fn.zero).outs).length :Nat):Int)) && decide (((((p.getD k Fn.zero).outs).length :Nat):Int) ≤ ((12 :Nat):Int)))) (fun wq => c_impl_within wq _ _ _ oM oM oM) ?_)))
      refine q_not (!(decide (((1 :Nat):Int) ≤ ((((p.getD k Fn.zero).outs).length :Nat):Int)) && decide (((((p.getD k Fn.zero).outs).length :Nat):Int) ≤ ((12 :Nat):Int)))) rfl rfl (zS (e := 36) rfl rfl rfl) (lw_tvn 1 rfl ?_)
      cases hb19 : (!(decide (((1 :Nat):Int) ≤ ((((p.getD k Fn.zero).outs).length :Nat):Int)) && decide (((((p.getD k Fn.zero).outs).length :Nat):Int) ≤ ((12 :Nat):Int))))
      ·
       refine c_cond_f (by first | rfl | (show Value.bool _ = _; rw [hb19])) (wp_skip (wp_seq (wp_plain _ [0] rfl (lw_tvn 1 rfl (wp_seq (wp_seq (wp_plain _ [0,2,0,0] rfl (q_fldP (p := (.pointer (some ⟨w3.heap.size,0,none⟩))) (b := w3.heap.size) (o := 0) 2 fd49_2 rfl rfl zN (q_load (p := (padd (.pointer (some ⟨w3.heap.size,0,none⟩)) 2)) (.inr rfl) ve6 one44 rfl (hB9x14.ldp (i := 2) sM) zN (q_len (v := ve6) u44 rfl hx6.rn.isSl zN (lw_tvn 1 rfl (wp_block ?_))))))))))))
       refine c_loop (S := Nat × Nat) (fun (⟨j,sz⟩ : Nat × Nat) => ([(5,(.int .i64 ((sz :Nat):Int))),(46,(.int .i64 ((j :Nat):Int))),(1,(.pointer (some ⟨w.heap.size,0,none⟩))),(3,(.int .i64 ((k :Nat):Int))),(4,(.pointer (some ⟨w3.heap.size,0,none⟩))),(13,vp),(14,(.int .i64 ((p.length :Nat):Int))),(15,(.int .i64 ((k :Nat):Int))),(44,ve6),(45,(.int .i64 ((((p.getD k Fn.zero).outs).length :Nat):Int)))] : List (Nat × Value))) (fun (⟨j,sz⟩ : Nat × Nat) (W : World) => Ext w W ∧ BX W.heap w.heap.size [vp] ∧ BX W.heap w3.heap.size [(.string ((p.getD k Fn.zero).name)),(.int .i64 ((p.getD k Fn.zero).params)),ve6] ∧ j ≤ (p.getD k Fn.zero).outs.length ∧ sz = Ex.sizes ((p.getD k Fn.zero).outs.take j) ∧ (List.range j).all (fun j => exB p ((p.getD k Fn.zero).outs.getD j Ex.zero) (p.getD k Fn.zero).params ((k :Nat):Int)) = true) (fun (⟨j,sz⟩ : Nat × Nat) => (p.getD k Fn.zero).outs.length - j) (0,0) ⟨rfl,rfl,rfl,rfl,rfl,rfl,rfl,rfl,rfl,rfl,trivial⟩ ⟨hE14,hF10x14,hB9x14,sD,(by rw [List.take_zero,sizes_nil]),(by rfl)⟩ ?_
       clear hL3_0 hE3 hzs3 hln6 hz7 hX7 hzs7 hE7 hL3_0x7 hz9 hC9 hE9 hzs9 hF10 hX14 hzs14 hE14 hF10x14
       rintro ⟨j,sz⟩ ρ20 w20 ⟨hE20,hL20_0,hL20_1,hp20_0,hsz,hqe⟩
       have hzs20 : w.heap.size ≤ w20.heap.size := hE20.size
       have hq21 := hL20_0.lt
       have hq22 := hL20_1.lt
       refine wp_seq (wp_plain _ [0] rfl ?_)
       by_cases hc23 : ((j :Nat):Int) < ((((p.getD k Fn.zero).outs).length :Nat):Int)
       ·
        refine q_lss true rfl rfl (decide_eq_true hc23) zN (lw_nil (wp_seq (c_cond_t rfl (wp_skip (wp_seq (wp_block (wp_seq (wp_plain _ [0,2,3,4] rfl (q_idx (v := ve6) j u44 tiS46 rfl rfl hx6.rn.isSl rfl sD zN ?_)))))))))
        obtain ⟨cs24,hr24,hl24⟩ := hx6.rn.get (good_rEx dp) Ex.zero (k := j) sD
        obtain ⟨dd24,ve24,hd24,rfl,hx24⟩ := RX.of hr24
        have hln24 := hx24.rn.lenle
        unfold maxLen at hln24
        refine q_loadA (p := eptr ve6 j 5) (.inr rfl) [(.int .i64 ((((p.getD k Fn.zero).outs).getD j Ex.zero).kind)),(.int .i64 ((((p.getD k Fn.zero).outs).getD j Ex.zero).num)),(.int .i64 ((((p.getD k Fn.zero).outs).getD j Ex.zero).pick)),(.int .i64 ((((p.getD k Fn.zero).outs).getD j Ex.zero).count)),ve24] agg46 rfl (fun wq9 hw9 => hl24 wq9 (Chg.of_ext [] (hE20.trans hw9))) rfl zN ?_
        have hq26 := hL20_0.lt
        have hq27 := hL20_1.lt
        refine r_allocA (z := .agg #[.int .i64 0,.int .i64 0,.int .i64 0,.int .i64 0,.slice none 0 0]) zr46 zN fun w25 hX25 hz25 hB25 => ?_
        have hzs25:=hX25.size
        have hE25:=hE20.trans hX25
        have hL20_0x25 := hL20_0.ext hX25
        have hL20_1x25 := hL20_1.ext hX25
        replace hB25 : BX w25.heap w20.heap.size [(.int .i64 0),(.int .i64 0),(.int .i64 0),(.int .i64 0),(.slice none 0 0)] := hB25
        refine e_setA (vs := [(.int .i64 ((((p.getD k Fn.zero).outs).getD j Ex.zero).kind)),(.int .i64 ((((p.getD k Fn.zero).outs).getD j Ex.zero).num)),(.int .i64 ((((p.getD k Fn.zero).outs).getD j Ex.zero).pick)),(.int .i64 ((((p.getD k Fn.zero).outs).getD j Ex.zero).count)),ve24]) agg46 rfl rfl hx24.ones hB25 rfl rfl zN fun w28 hC28 hz28 hB28 => ?_
        replace hB28 : BX w28.heap w20.heap.size [(.int .i64 ((((p.getD k Fn.zero).outs).getD j Ex.zero).kind)),(.int .i64 ((((p.getD k Fn.zero).outs).getD j Ex.zero).num)),(.int .i64 ((((p.getD k Fn.zero).outs).getD j Ex.zero).pick)),(.int .i64 ((((p.getD k Fn.zero).outs).getD j Ex.zero).count)),ve24] := hB28
        have hE28 : Ext w w28 := hC28.below hE25 (fun c hc => by have := List.mem_singleton.1 hc; omega) hE25.size
        have hzs28:=hC28.size
        have hF29 := hL20_0x25.chg hC28 (fun hm => by have := List.mem_singleton.1 hm; omega)
        have hF30 := hL20_1x25.chg hC28 (fun hm => by have := List.mem_singleton.1 hm; omega)
        refine lw_nil (wp_seq (wp_seq (wp_plain _ [2,2,0,2,0,3,0] rfl ?_)))
        have hst := sizes_step (l := (p.getD k Fn.zero).outs) (k := j) oM
        have hle := sizes_take (p.getD k Fn.zero).outs (j + 1)
        refine q_loadA (p := (.pointer (some ⟨w.heap.size,0,none⟩))) (.inr rfl) [vp] agg52 rfl (fun wq9 hw9 => LD.of_box (BX.ext (w := w28) hF29 hw9)) rfl zN (q_loadA (p := (.pointer (some ⟨w20.heap.size,0,none⟩))) (.inr rfl) [(.int .i64 ((((p.getD k Fn.zero).outs).getD j Ex.zero).kind)),(.int .i64 ((((p.getD k Fn.zero).outs).getD j Ex.zero).num)),(.int .i64 ((((p.getD k Fn.zero).outs).getD j Ex.zero).pick)),(.int .i64 ((((p.getD k Fn.zero).outs).getD j Ex.zero).count)),ve24] agg46 rfl (fun wq9 hw9 => LD.of_box (BX.ext (w := w28) hB28 hw9)) rfl zN (q_fldP (p := (.pointer (some ⟨w3.heap.size,0,none⟩))) (b := w3.heap.size) (o := 0) 1 fd49_1 rfl rfl zN (q_load (p := (padd (.pointer (some ⟨w3.heap.size,0,none⟩)) 1)) (.inr rfl) (.int .i64 ((p.getD k Fn.zero).params)) one2 rfl (hF30.ldp (i := 1) sM) zN (lw_tv 1 rfl ?_))))
        refine lw_call 126 [] [] [(.agg #[vp]),(.agg #[(.int .i64 ((((p.getD k Fn.zero).outs).getD j Ex.zero).kind)),(.int .i64 ((((p.getD k Fn.zero).outs).getD j Ex.zero).num)),(.int .i64 ((((p.getD k Fn.zero).outs).getD j Ex.zero).pick)),(.int .i64 ((((p.getD k Fn.zero).outs).getD j Ex.zero).count)),ve24]),(.int .i64 ((p.getD k Fn.zero).params)),(.int .i64 ((k :Nat):Int))] rfl rfl cf126 zN (c_impl_ValidExpr _ dp vp (p) dd24 ve24 (((p.getD k Fn.zero).outs).getD j Ex.zero) _ _ (hp.ext (good_rdS (good_rFn dp)) hE28) (hx24.ext hE28) hx6.rng oM oM) ?_
        rintro e31 w31 ⟨rfl,hX31⟩
        refine ⟨_,rfl,hX31,?_⟩
        have hzs31:=hX31.size
        have hE31:=hE28.trans hX31
        have hF29x31 := hF29.ext hX31
        have hF30x31 := hF30.ext hX31
        have hB28x31 := hB28.ext hX31
        refine q_not (!(exB p (((p.getD k Fn.zero).outs).getD j Ex.zero) ((p.getD k Fn.zero).params) ((k :Nat):Int))) rfl rfl zN (lw_nil ?_)
        cases hb32 : (!(exB p (((p.getD k Fn.zero).outs).getD j Ex.zero) ((p.getD k Fn.zero).params) ((k :Nat):Int)))
        ·
         refine c_cond_f (by first | rfl | (show Value.bool _ = _; rw [hb32])) (wp_skip (wp_plain _ [0,2,3,0,0] rfl (lw_tv 1 rfl (q_loadA (p := (.pointer (some ⟨w20.heap.size,0,none⟩))) (.inr rfl) [(.int .i64 ((((p.getD k Fn.zero).outs).getD j Ex.zero).kind)),(.int .i64 ((((p.getD k Fn.zero).outs).getD j Ex.zero).num)),(.int .i64 ((((p.getD k Fn.zero).outs).getD j Ex.zero).pick)),(.int .i64 ((((p.getD k Fn.zero).outs).getD j Ex.zero).count)),ve24] agg46 rfl (fun wq9 hw9 => LD.of_box (BX.ext (w := w31) hB28x31 hw9)) rfl zN ?_))))
         refine lw_call 127 [] [] [(.agg #[(.int .i64 ((((p.getD k Fn.zero).outs).getD j Ex.zero).kind)),(.int .i64 ((((p.getD k Fn.zero).outs).getD j Ex.zero).num)),(.int .i64 ((((p.getD k Fn.zero).outs).getD j Ex.zero).pick)),(.int .i64 ((((p.getD k Fn.zero).outs).getD j Ex.zero).count)),ve24])] rfl rfl cf127 zN (c_impl_ExprSize _ dd24 ve24 (((p.getD k Fn.zero).outs).getD j Ex.zero) (hx24.ext hE31) oM) ?_
         rintro e33 w33 ⟨rfl,hX33⟩
         refine ⟨_,rfl,hX33,?_⟩
         have hzs33:=hX33.size
         have hE33:=hE31.trans hX33
         have hF29x33 := hF29x31.ext hX33
         have hF30x33 := hF30x31.ext hX33
         have hB28x33 := hB28x31.ext hX33
         refine q_add ((sz + ((p.getD k Fn.zero).outs.getD j Ex.zero).size :Nat):Int) rfl rfl (w64n oM oM) zN (lw_tvn 1 rfl (wp_plain _ [0,0] rfl (q_add ((j + 1 :Nat):Int) rfl rfl (w64n oM sD) zN (lw_tvn 1 rfl ?_))))
         exact ⟨((j + 1),(sz + ((p.getD k Fn.zero).outs.getD j Ex.zero).size)),_,rfl,⟨rfl,rfl,rfl,rfl,rfl,rfl,rfl,rfl,rfl,rfl,trivial⟩,⟨hE33,hF29x33,hF30x33,sD,oM,(by exact allR_succ hqe (bn_f (by assumption)))⟩,by first | omega | (dsimp only; omega)⟩
        ·
         refine c_cond_t (by first | rfl | (show Value.bool _ = _; rw [hb32])) (wp_seq (wp_plain _ [0] rfl (lw_tvn 1 rfl (wp_ret (t_ret (b_ret (t_ret (t_ret (b_ret (t_ret (b_ret (t_ret (t_ret (b_ret (t_ret ?_)))))))))))))))
         exact post_ret [2] rfl (.bool false) rfl ⟨z88_0,hE31⟩
       ·
        refine q_lss false rfl rfl (decide_eq_false hc23) zN (lw_nil (wp_seq (c_cond_f rfl (wp_exit (t_exit (t_exit (c_exit_here (wp_seq (wp_plain _ [0,0] rfl ?_)))))))))
        have hal := sizes_all (l := (p.getD k Fn.zero).outs) (k := j) oM
        refine lw_tv 1 rfl ?_
        by_cases hc34 : ((400 :Nat):Int) < ((sz :Nat):Int)
        ·
         exact q_gtr true rfl rfl (decide_eq_true hc34) zN (lw_nil (c_cond_t rfl (wp_seq (wp_plain _ [0] rfl (lw_tvn 1 rfl (wp_ret (b_ret (t_ret (t_ret (b_ret (t_ret (post_ret [2] rfl (.bool false) rfl ⟨z88_0,hE20⟩))))))))))))
        ·
         refine q_gtr false rfl rfl (decide_eq_false hc34) zN (lw_nil (c_cond_f rfl (wp_skip (wp_plain _ [0,0] rfl (q_add ((k + 1 :Nat):Int) rfl rfl (w64n oM sD) zN (lw_tvn 1 rfl ?_))))))
         exact ⟨(k + 1),_,rfl,⟨rfl,rfl,rfl,rfl,trivial⟩,⟨hE20,hL20_0,sD,(by exact allR_succ hq (fn_ok (bn_f (by assumption)) (by assumption) (bn_f (by assumption)) (bn_f (by assumption)) hqe oM oM))⟩,by first | omega | (dsimp only; omega)⟩
      ·
       exact c_cond_t (by first | rfl | (show Value.bool _ = _; rw [hb19])) (wp_seq (wp_plain _ [0] rfl (lw_tvn 1 rfl (wp_ret (t_ret (b_ret (t_ret (t_ret (b_ret (t_ret (post_ret [2] rfl (.bool false) rfl ⟨z88_0,hE14⟩)))))))))))
     ·
      exact lw_tvn 6 rfl (c_cond_t rfl (wp_seq (wp_plain _ [0] rfl (lw_tvn 1 rfl (wp_ret (t_ret (b_ret (t_ret (t_ret (b_ret (t_ret (post_ret [2] rfl (.bool false) rfl ⟨z88_0,hE14⟩))))))))))))
    ·
     exact c_cond_t (by first | rfl | (show Value.bool _ = _; rw [hb15])) (wp_seq (wp_plain _ [0] rfl (lw_tvn 1 rfl (wp_ret (t_ret (b_ret (t_ret (t_ret (b_ret (t_ret (post_ret [2] rfl (.bool false) rfl ⟨z88_0,hE14⟩)))))))))))
   ·
    exact lw_tvn 7 rfl (c_cond_t rfl (wp_seq (wp_plain _ [0] rfl (lw_tvn 1 rfl (wp_ret (t_ret (b_ret (t_ret (t_ret (b_ret (t_ret (post_ret [2] rfl (.bool false) rfl ⟨z88_0,hE9⟩))))))))))))
  ·
   exact q_lss false rfl rfl (decide_eq_false hc5) zN (lw_nil (wp_seq (c_cond_f rfl (wp_exit (t_exit (t_exit (c_exit_here (wp_seq (wp_plain _ [0] rfl (lw_tvn 1 rfl (wp_ret (post_ret [2] rfl (.bool true) rfl ⟨z88_0,hE3⟩))))))))))))
end Go.Proofs.Ytjnbnlniafmblaa
namespace Go.Proofs.Ytjnbnlniafmblaa
open Go Go.RowKit
set_option linter.unusedVariables false
set_option linter.unusedSimpArgs false
set_option maxHeartbeats 4000000
set_option maxRecDepth 100000
attribute [local irreducible] LW
theorem isF_1 {p : List Fn} {f : Int} (h : okP p = false) : 1 = isF p f := by unfold isF; rw [h]; rfl
theorem isF_2 {p : List Fn} {f : Int} (h : okP p = true) (h2 : ¬ (0 ≤ f ∧ f ≤ ((p.length : Nat) : Int) - 1)) : 2 = isF p f := by unfold isF; rw [if_pos h, if_neg h2]
theorem isF_3 {p : List Fn} {f : Int} (h : okP p = true) (h2 : 0 ≤ f ∧ f ≤ ((p.length : Nat) : Int) - 1) : 0 = isF p f := by unfold isF; rw [if_pos h, if_pos h2]
theorem z145_0 {p : Prop} (h : p := by first | exact ret_int (isF_1 (bn_t (by assumption))) | exact ret_int (isF_2 (bn_f (by assumption)) (inB_d (bn_t (by assumption)))) | exact ret_int (isF_3 (bn_f (by assumption)) (inB_e (bn_f (by assumption))))) : p := h
theorem c_impl_isFunc (w : World) (dp : Nat) (vp : Value) (p : List Fn) (f : Int) (hp : RP [] dp w.heap vp p) (_hf : -9223372036854775808 ≤ f ∧ f ≤ 9223372036854775807) (hz : SzP p) :
  Calls Try.prog 145 #[(.agg #[vp]),.int .i64 f] w (fun e w' => e = .returned (.int .i64 (isF p f)) ∧ Ext w w') := by
 refine calls_mk [(.agg #[vp]),.int .i64 f] 17 Try.func145 rfl rfl sM ?_
 have hE0 : Ext w w := Ext.refl w
 have hl_vp := hp.lenle
 unfold maxLen at hl_vp
 refine wp_seq (wp_plain _ [3,0] rfl (r_boxA (cs := #[vp]) rfl zN fun w1 hX1 hz1 hB1 => ?_))
 have hzs1:=hX1.size
 have hE1:=hE0.trans hX1
 replace hB1 : BX w1.heap w.heap.size [vp] := hB1
 refine lw_tvn 1 rfl (wp_seq (wp_block (wp_seq (wp_plain _ [2,3,0,0] rfl (q_loadA (p := (.pointer (some ⟨w.heap.size,0,none⟩))) (.inr rfl) [vp] agg52 rfl (fun wq9 hw9 => LD.of_box (BX.ext (w := w1) hB1 hw9)) rfl zN (lw_call 88 [] [] [(.agg #[vp])] rfl rfl cf88 zN (c_impl_ValidProgram _ dp vp (p) (hp.ext (good_rdS (good_rFn dp)) hE1) (by exact hz)) ?_))))))
 rintro e2 w2 ⟨rfl,hX2⟩
 refine ⟨_,rfl,hX2,?_⟩
 have hzs2:=hX2.size
 have hE2:=hE1.trans hX2
 have hB1x2 := hB1.ext hX2
 refine q_not (!(okP p)) rfl rfl zN (lw_tvn 1 rfl ?_)
 cases hb3 : (!(okP p))
 ·
  refine c_cond_f (by first | rfl | (show Value.bool _ = _; rw [hb3])) (wp_seq (wp_plain _ [0,0,2,0,0,0,0,0] rfl (lw_tv 1 rfl (q_fldP (p := (.pointer (some ⟨w.heap.size,0,none⟩))) (b := w.heap.size) (o := 0) 0 fd52_0 rfl rfl zN (q_load (p := (padd (.pointer (some ⟨w.heap.size,0,none⟩)) 0)) (.inr rfl) vp one50 rfl (hB1x2.ldp (i := 0) sM) zN (q_len (v := vp) u50 rfl hp.isSl zN (q_sub (((p.length :Nat):Int) - 1) rfl rfl (w64 oM oM) zN (lw_callq 83 [] [] [(.int .i64 f),(.int .i64 ((0 :Nat):Int)),(.int .i64 (((p.length :Nat):Int) - 1))] rfl rfl cf83 zN (.bool (decide (((0 :Nat):Int) ≤ f) && decide (f ≤ (((p.length :Nat):Int) - 1)))) (fun wq => c_impl_within wq _ _ _ _hf oM oM) ?_))))))))
  refine q_not (!(decide (((0 :Nat):Int) ≤ f) && decide (f ≤ (((p.length :Nat):Int) - 1)))) rfl rfl zN (lw_tvn 1 rfl ?_)
  cases hb5 : (!(decide (((0 :Nat):Int) ≤ f) && decide (f ≤ (((p.length :Nat):Int) - 1))))
  ·
   exact c_cond_f (by first | rfl | (show Value.bool _ = _; rw [hb5])) (wp_skip (wp_seq (wp_plain _ [0] rfl (lw_tvn 1 rfl (wp_ret (post_ret [4] rfl (.int .i64 ((0 :Nat):Int)) rfl ⟨z145_0,hE2⟩))))))
  ·
   exact c_cond_t (by first | rfl | (show Value.bool _ = _; rw [hb5])) (wp_seq (wp_plain _ [0] rfl (lw_tvn 1 rfl (wp_ret (b_ret (t_ret (post_ret [4] rfl (.int .i64 ((2 :Nat):Int)) rfl ⟨z145_0,hE2⟩)))))))
 ·
  exact c_cond_t (by first | rfl | (show Value.bool _ = _; rw [hb3])) (wp_seq (wp_plain _ [0] rfl (lw_tvn 1 rfl (wp_ret (b_ret (t_ret (post_ret [4] rfl (.int .i64 ((1 :Nat):Int)) rfl ⟨z145_0,hE2⟩)))))))
end Go.Proofs.Ytjnbnlniafmblaa
namespace Go.Proofs.Ytjnbnlniafmblaa
open Go Go.RowKit
set_option linter.unusedVariables false
set_option linter.unusedSimpArgs false
set_option maxHeartbeats 4000000
set_option maxRecDepth 100000
attribute [local irreducible] LW
theorem c_spec_l00Max (w : World) (a : Int) (b : Int) (_ha : -9223372036854775808 ≤ a ∧ a ≤ 9223372036854775807) (_hb : -9223372036854775808 ≤ b ∧ b ≤ 9223372036854775807)  :
  Calls Try.prog 158 #[.int .i64 a,.int .i64 b] w (fun e w' => e = .returned (.int .i64 (max a b)) ∧ w' = w) := by
 refine calls_mk [.int .i64 a,.int .i64 b] 10 Try.func158 rfl rfl sM ?_
 have hE0 : w = w := rfl
 refine wp_seq (wp_plain _ [0] rfl (lw_tvn 1 rfl (wp_seq (wp_seq (wp_plain _ [0,0,0] rfl (lw_tv 2 rfl ?_))))))
 by_cases hc1 : b < a
 ·
  exact q_gtr true rfl rfl (decide_eq_true hc1) zN (lw_nil (c_cond_t rfl (wp_seq (wp_plain _ [0,0] rfl (lw_tvn 2 rfl (wp_ret (t_ret (post_ret [4] rfl (.int .i64 a) rfl ⟨(ret_int oM),hE0⟩))))))))
 ·
  exact q_gtr false rfl rfl (decide_eq_false hc1) zN (lw_nil (c_cond_f rfl (wp_skip (wp_seq (wp_plain _ [0,0] rfl (lw_tvn 2 rfl (wp_ret (post_ret [4] rfl (.int .i64 b) rfl ⟨(ret_int oM),hE0⟩))))))))
theorem z142_0 {p : Prop} (h : p := by rw [lftE_eq, hx]; first | rw [List.take_of_length_le oM] | exact (lfts_stop oM).symm) : p := h
theorem c_spec_l02Left (w : World) (dex : Nat) (ve : Value) (ex : Ex) (left : Int) (hex : RN [] (rP (rEx dex)) w.heap ve ex) (_hleft : -9223372036854775808 ≤ left ∧ left ≤ 9223372036854775807) (hl0 : 0 ≤ left ∧ left ≤ 100000) (hs : ex.size ≤ 1000000000) :
  Calls Try.prog 142 #[ve,.int .i64 left] w (fun e w' => e = .returned (.int .i64 (lftE ex left)) ∧ Ext w w') := by
 induction dex using Nat.strongRecOn generalizing w ve ex left
 rename_i dex ih
 refine calls_mk [ve,.int .i64 left] 30 Try.func142 rfl rfl sM ?_
 have hE0 : Ext w w := Ext.refl w
 have hsk := size_kids ex
 refine wp_seq (wp_plain _ [0] rfl (lw_tvn 1 rfl (wp_seq (wp_plain _ [0,0,0] rfl (lw_tv 1 rfl (q_sub (left - 1) rfl rfl (w64 oM oM) zN (lw_tvn 1 rfl (wp_seq (wp_seq (wp_plain _ [0] rfl (lw_tvn 1 rfl (wp_block ?_))))))))))))
 refine c_loop (S := Nat × Int) (fun (⟨k,x⟩ : Nat × Int) => ([(1,(.int .i64 x)),(5,(.int .i64 ((k :Nat):Int))),(0,ve)] : List (Nat × Value))) (fun (⟨k,x⟩ : Nat × Int) (W : World) => Ext w W ∧ k ≤ ex.kids.length ∧ x = lfts (ex.kids.take k) (left - 1) ∧ (-1 ≤ x ∧ x ≤ left)) (fun (⟨k,x⟩ : Nat × Int) => ex.kids.length - k) (0,(left - 1)) ⟨rfl,rfl,rfl,trivial⟩ ⟨hE0,sD,(by rw [List.take_zero,lfts]),oM⟩ ?_
 clear hE0
 rintro ⟨k,x⟩ ρ1 w1 ⟨hE1,hp1_0,hx,hp1_2⟩
 have hzs1 : w.heap.size ≤ w1.heap.size := hE1.size
 refine wp_seq (wp_seq (wp_plain _ [0,0,0,0,2,0,0,0,0,0,0] rfl (lw_tv 2 rfl (q_nilP (hex.isPtr) rfl zN ?_))))
 obtain ⟨cs2,hr2,hl2⟩ := RN.at (good_rEx _) hex
 obtain ⟨dd2,ve2,hd2,rfl,hx2⟩ := RX.of hr2
 have hln2 := hx2.rn.lenle
 unfold maxLen at hln2
 refine q_fldL (p := ve) 4 fd46_4 rfl (hl2 _ (Chg.of_ext [] hE1)) zN (q_load (p := (padd ve 4)) (.inr rfl) ve2 one44 rfl ((hl2 _ (Chg.of_ext [] hE1)).ld (i := 4) (by simp [exC,fnC])) zN (q_len (v := ve2) u44 rfl hx2.rn.isSl zN ?_))
 by_cases hc3 : ((k :Nat):Int) < ((ex.kids.length :Nat):Int)
 ·
  refine q_lss true rfl rfl (decide_eq_true hc3) zN (lw_tv 2 rfl ?_)
  by_cases hc4 : ((0 :Nat):Int) ≤ x
  ·
   refine q_geq true rfl rfl (decide_eq_true hc4) (zS (e := 15) rfl rfl rfl) (lw_tvn 1 rfl (c_cond_t rfl (wp_skip (wp_seq (wp_block (wp_plain _ [0,0,0,2,0,0,0,3,0] rfl ?_))))))
   have hst := sizes_step (l := ex.kids) (k := k) oM
   have hle := sizes_take ex.kids (k + 1)
   have hnx := lfts_step (l := ex.kids) (k := k) (x := left - 1) oM oM
   have hnr := lftE_rng (e := ex.kids.getD k Ex.zero) (x := x) oM
   refine lw_tv 1 rfl (q_nilP (hex.isPtr) rfl zN (q_fldL (p := ve) 4 fd46_4 rfl (hl2 _ (Chg.of_ext [] hE1)) zN (q_load (p := (padd ve 4)) (.inr rfl) ve2 one44 rfl ((hl2 _ (Chg.of_ext [] hE1)).ld (i := 4) (by simp [exC,fnC])) zN (lw_tv 1 rfl (q_idx (v := ve2) k u44 tiS46 rfl rfl hx2.rn.isSl rfl sD zN (lw_tv 1 rfl ?_))))))
   refine lw_call 142 [] [] [(eptr ve2 k 5),(.int .i64 x)] rfl rfl cf142 zN (ih dd2 oM _ (eptr ve2 k 5) (ex.kids.getD k Ex.zero) _ (RN.ptr (good_rEx dd2) (by decide) Ex.zero (hx2.rn.ext (good_rdS (good_rEx dd2)) hE1) sD) oM oM oM) ?_
   rintro e5 w5 ⟨rfl,hX5⟩
   refine ⟨_,rfl,hX5,?_⟩
   have hzs5:=hX5.size
   have hE5:=hE1.trans hX5
   refine lw_tvn 1 rfl (wp_plain _ [0,0,0] rfl (lw_tv 1 rfl (q_add ((k + 1 :Nat):Int) rfl rfl (w64n oM sD) zN (lw_tvn 1 rfl ?_))))
   exact ⟨((k + 1),(lftE (ex.kids.getD k Ex.zero) x)),_,rfl,⟨rfl,rfl,rfl,trivial⟩,⟨hE5,sD,(by rw [hnx,hx]),oM⟩,by first | omega | (dsimp only; omega)⟩
  ·
   exact q_geq false rfl rfl (decide_eq_false hc4) (zS (e := 15) rfl rfl rfl) (lw_tvn 1 rfl (c_cond_f rfl (wp_exit (t_exit (t_exit (c_exit_here (wp_seq (wp_plain _ [0,0] rfl (lw_tvn 2 rfl (wp_ret (post_ret [4] rfl (.int .i64 x) rfl ⟨(ret_int z142_0),hE1⟩)))))))))))
 ·
  exact q_lss false rfl rfl (decide_eq_false hc3) zN (lw_tvn 4 rfl (c_cond_f rfl (wp_exit (t_exit (t_exit (c_exit_here (wp_seq (wp_plain _ [0,0] rfl (lw_tvn 2 rfl (wp_ret (post_ret [4] rfl (.int .i64 x) rfl ⟨(ret_int z142_0),hE1⟩)))))))))))
theorem c_spec_l02Depth (w : World) (dex : Nat) (ve : Value) (ex : Ex) (hex : RN [] (rP (rEx dex)) w.heap ve ex) (hs : ex.size ≤ 1000000000) :
  Calls Try.prog 153 #[ve] w (fun e w' => e = .returned (.int .i64 ((ex.deep :Nat):Int)) ∧ Ext w w') := by
 induction dex using Nat.strongRecOn generalizing w ve ex
 rename_i dex ih
 refine calls_mk [ve] 25 Try.func153 rfl rfl sM ?_
 have hE0 : Ext w w := Ext.refl w
 have hsk := size_kids ex
 have hdk := deep_kids ex
 refine wp_seq (wp_plain _ [0] rfl (lw_tvn 1 rfl (wp_seq (wp_plain _ [0] rfl (lw_tvn 1 rfl (wp_seq (wp_seq (wp_plain _ [0] rfl (lw_tvn 1 rfl (wp_block ?_))))))))))
 refine c_loop (S := Nat × Int) (fun (⟨k,sz⟩ : Nat × Int) => ([(3,(.int .i64 sz)),(4,(.int .i64 ((k :Nat):Int))),(0,ve)] : List (Nat × Value))) (fun (⟨k,sz⟩ : Nat × Int) (W : World) => Ext w W ∧ k ≤ ex.kids.length ∧ sz = ((Ex.deeps (ex.kids.take k) :Nat):Int) ∧ (0 ≤ sz ∧ sz ≤ 1000000000)) (fun (⟨k,sz⟩ : Nat × Int) => ex.kids.length - k) (0,((0 :Nat):Int)) ⟨rfl,rfl,rfl,trivial⟩ ⟨hE0,sD,(by rw [List.take_zero,deeps_nil] <;> rfl),oM⟩ ?_
 clear hE0
 rintro ⟨k,sz⟩ ρ1 w1 ⟨hE1,hp1_0,hsz,hp1_2⟩
 have hzs1 : w.heap.size ≤ w1.heap.size := hE1.size
 refine wp_seq (wp_seq (wp_plain _ [0,0,0,0,2,0,0] rfl (lw_tv 2 rfl (q_nilP (hex.isPtr) rfl zN ?_))))
 obtain ⟨cs2,hr2,hl2⟩ := RN.at (good_rEx _) hex
 obtain ⟨dd2,ve2,hd2,rfl,hx2⟩ := RX.of hr2
 have hln2 := hx2.rn.lenle
 unfold maxLen at hln2
 refine q_fldL (p := ve) 4 fd46_4 rfl (hl2 _ (Chg.of_ext [] hE1)) zN (q_load (p := (padd ve 4)) (.inr rfl) ve2 one44 rfl ((hl2 _ (Chg.of_ext [] hE1)).ld (i := 4) (by simp [exC,fnC])) zN (q_len (v := ve2) u44 rfl hx2.rn.isSl zN ?_))
 by_cases hc3 : ((k :Nat):Int) < ((ex.kids.length :Nat):Int)
 ·
  refine q_lss true rfl rfl (decide_eq_true hc3) zN (lw_nil (c_cond_t rfl (wp_skip (wp_seq (wp_block (wp_plain _ [0,0,0,0,2,0,0,3,0,0] rfl ?_))))))
  have hst := sizes_step (l := ex.kids) (k := k) oM
  have hle := sizes_take ex.kids (k + 1)
  have hdt := deeps_step (l := ex.kids) (k := k) oM
  have hda := deep_size (ex.kids.getD k Ex.zero)
  have hdz := deeps_size (ex.kids.take k)
  refine lw_tv 2 rfl (q_nilP (hex.isPtr) rfl zN (q_fldL (p := ve) 4 fd46_4 rfl (hl2 _ (Chg.of_ext [] hE1)) zN (q_load (p := (padd ve 4)) (.inr rfl) ve2 one44 rfl ((hl2 _ (Chg.of_ext [] hE1)).ld (i := 4) (by simp [exC,fnC])) zN (lw_tv 1 rfl (q_idx (v := ve2) k u44 tiS46 rfl rfl hx2.rn.isSl rfl sD zN ?_)))))
  refine lw_call 153 [] [] [(eptr ve2 k 5)] rfl rfl cf153 zN (ih dd2 oM _ (eptr ve2 k 5) (ex.kids.getD k Ex.zero) (RN.ptr (good_rEx dd2) (by decide) Ex.zero (hx2.rn.ext (good_rdS (good_rEx dd2)) hE1) sD) oM) ?_
  rintro e4 w4 ⟨rfl,hX4⟩
  refine ⟨_,rfl,hX4,?_⟩
  have hzs4:=hX4.size
  have hE4:=hE1.trans hX4
  refine lw_callq 158 [] [] [(.int .i64 sz),(.int .i64 (((ex.kids.getD k Ex.zero).deep :Nat):Int))] rfl rfl cf158 zN (.int .i64 (max sz (((ex.kids.getD k Ex.zero).deep :Nat):Int))) (fun wq => c_spec_l00Max wq _ _ oM (by have := deep_size (ex.kids.getD k Ex.zero); omega)) (lw_tvn 1 rfl (wp_plain _ [0,0,0] rfl (lw_tv 1 rfl (q_add ((k + 1 :Nat):Int) rfl rfl (w64n oM sD) zN (lw_tvn 1 rfl ?_)))))
  exact ⟨((k + 1),(max sz (((ex.kids.getD k Ex.zero).deep :Nat):Int))),_,rfl,⟨rfl,rfl,rfl,trivial⟩,⟨hE4,sD,oM,oM⟩,by first | omega | (dsimp only; omega)⟩
 ·
  refine q_lss false rfl rfl (decide_eq_false hc3) zN (lw_nil (c_cond_f rfl (wp_exit (t_exit (t_exit (c_exit_here (wp_seq (wp_plain _ [0,0,0] rfl ?_))))))))
  have h8 := deeps_all (l := ex.kids) (k := k) oM
  have h9 := deep_size ex
  exact lw_tv 1 rfl (q_add (sz + 1) rfl rfl (w64 oM oM) zN (lw_tvn 1 rfl (wp_ret (post_ret [2] rfl (.int .i64 (sz + 1)) rfl ⟨(ret_int oM),hE1⟩))))
theorem z167_0 {p : Prop} (h : p := by unfold kdN; repeat (first | rfl | (rw [if_pos oM]) | (rw [if_neg oM]))) : p := h
theorem c_spec_l02Kids (w : World) (kind : Int) (_hkind : -9223372036854775808 ≤ kind ∧ kind ≤ 9223372036854775807)  :
  Calls Try.prog 167 #[.int .i64 kind] w (fun e w' => e = .returned (.int .i64 (kdN kind)) ∧ w' = w) := by
 refine calls_mk [.int .i64 kind] 17 Try.func167 rfl rfl sM ?_
 have hE0 : w = w := rfl
 refine wp_seq (wp_plain _ [0] rfl (lw_tvn 1 rfl (wp_seq (wp_seq (wp_plain _ [0] rfl (lw_tvn 1 rfl (wp_block (wp_seq (wp_seq (wp_plain _ [0,0] rfl ?_))))))))))
 by_cases hc1 : kind = ((1 :Nat):Int)
 ·
  exact q_eql true rfl rfl (decide_eq_true hc1) zN (lw_tvn 1 rfl (c_cond_t rfl (wp_skip (c_cond_t rfl (wp_seq (wp_plain _ [0] rfl (lw_tvn 1 rfl (wp_ret (b_ret (t_ret (post_ret [2] rfl (.int .i64 ((0 :Nat):Int)) rfl ⟨(ret_int z167_0),hE0⟩)))))))))))
 ·
  refine q_eql false rfl rfl (decide_eq_false hc1) zN (lw_tvn 1 rfl (c_cond_f rfl (wp_plain _ [0,0] rfl ?_)))
  by_cases hc2 : kind = ((2 :Nat):Int)
  ·
   exact q_eql true rfl rfl (decide_eq_true hc2) zN (lw_tvn 1 rfl (c_cond_t rfl (wp_seq (wp_plain _ [0] rfl (lw_tvn 1 rfl (wp_ret (b_ret (t_ret (post_ret [2] rfl (.int .i64 ((0 :Nat):Int)) rfl ⟨(ret_int z167_0),hE0⟩)))))))))
  ·
   refine q_eql false rfl rfl (decide_eq_false hc2) zN (lw_tvn 1 rfl (c_cond_f rfl (wp_seq (wp_seq (wp_plain _ [0,0] rfl ?_)))))
   by_cases hc3 : kind = ((3 :Nat):Int)
   ·
    exact q_eql true rfl rfl (decide_eq_true hc3) zN (lw_tvn 1 rfl (c_cond_t rfl (wp_skip (c_cond_t rfl (wp_seq (wp_plain _ [0] rfl (lw_tvn 1 rfl (wp_ret (b_ret (t_ret (post_ret [2] rfl (.int .i64 ((2 :Nat):Int)) rfl ⟨(ret_int z167_0),hE0⟩)))))))))))
   ·
    refine q_eql false rfl rfl (decide_eq_false hc3) zN (lw_tvn 1 rfl (c_cond_f rfl (wp_seq (wp_plain _ [0,0] rfl ?_))))
    by_cases hc4 : kind = ((4 :Nat):Int)
    ·
     exact q_eql true rfl rfl (decide_eq_true hc4) zN (lw_tvn 1 rfl (c_cond_t rfl (wp_skip (c_cond_t rfl (wp_seq (wp_plain _ [0] rfl (lw_tvn 1 rfl (wp_ret (b_ret (t_ret (post_ret [2] rfl (.int .i64 ((2 :Nat):Int)) rfl ⟨(ret_int z167_0),hE0⟩)))))))))))
    ·
     refine q_eql false rfl rfl (decide_eq_false hc4) zN (lw_tvn 1 rfl (c_cond_f rfl (wp_seq (wp_plain _ [0,0] rfl ?_))))
     by_cases hc5 : kind = ((5 :Nat):Int)
     ·
      exact q_eql true rfl rfl (decide_eq_true hc5) zN (lw_tvn 1 rfl (c_cond_t rfl (wp_skip (c_cond_t rfl (wp_seq (wp_plain _ [0] rfl (lw_tvn 1 rfl (wp_ret (b_ret (t_ret (post_ret [2] rfl (.int .i64 ((2 :Nat):Int)) rfl ⟨(ret_int z167_0),hE0⟩)))))))))))
     ·
      refine q_eql false rfl rfl (decide_eq_false hc5) zN (lw_tvn 1 rfl (c_cond_f rfl (wp_seq (wp_plain _ [0,0] rfl ?_))))
      by_cases hc6 : kind = ((6 :Nat):Int)
      ·
       exact q_eql true rfl rfl (decide_eq_true hc6) zN (lw_tvn 1 rfl (c_cond_t rfl (wp_skip (c_cond_t rfl (wp_seq (wp_plain _ [0] rfl (lw_tvn 1 rfl (wp_ret (b_ret (t_ret (post_ret [2] rfl (.int .i64 ((2 :Nat):Int)) rfl ⟨(ret_int z167_0),hE0⟩)))))))))))
      ·
       refine q_eql false rfl rfl (decide_eq_false hc6) zN (lw_tvn 1 rfl (c_cond_f rfl (wp_plain _ [0,0] rfl ?_)))
       by_cases hc7 : kind = ((9 :Nat):Int)
       ·
        exact q_eql true rfl rfl (decide_eq_true hc7) zN (lw_tvn 1 rfl (c_cond_t rfl (wp_seq (wp_plain _ [0] rfl (lw_tvn 1 rfl (wp_ret (b_ret (t_ret (post_ret [2] rfl (.int .i64 ((2 :Nat):Int)) rfl ⟨(ret_int z167_0),hE0⟩)))))))))
       ·
        refine q_eql false rfl rfl (decide_eq_false hc7) zN (lw_tvn 1 rfl (c_cond_f rfl (wp_seq (wp_plain _ [0,0] rfl ?_))))
        by_cases hc8 : kind = ((7 :Nat):Int)
        ·
         exact q_eql true rfl rfl (decide_eq_true hc8) zN (lw_tvn 1 rfl (c_cond_t rfl (wp_seq (wp_plain _ [0] rfl (lw_tvn 1 rfl (wp_ret (b_ret (t_ret (post_ret [2] rfl (.int .i64 ((1 :Nat):Int)) rfl ⟨(ret_int z167_0),hE0⟩)))))))))
        ·
         refine q_eql false rfl rfl (decide_eq_false hc8) zN (lw_tvn 1 rfl (c_cond_f rfl (wp_seq (wp_plain _ [0,0] rfl ?_))))
         by_cases hc9 : kind = ((8 :Nat):Int)
         ·
          exact q_eql true rfl rfl (decide_eq_true hc9) zN (lw_tvn 1 rfl (c_cond_t rfl (wp_seq (wp_plain _ [0] rfl (lw_tvn 1 rfl (wp_ret (b_ret (t_ret (post_ret [2] rfl (.int .i64 ((3 :Nat):Int)) rfl ⟨(ret_int z167_0),hE0⟩)))))))))
         ·
          exact q_eql false rfl rfl (decide_eq_false hc9) zN (lw_tvn 1 rfl (c_cond_f rfl (wp_skip (wp_seq (wp_plain _ [0] rfl (lw_tvn 1 rfl (wp_ret (post_ret [2] rfl (.int .i64 (-1)) rfl ⟨(ret_int z167_0),hE0⟩))))))))
theorem z159_0 {p : Prop} (h : p := by first | exact ret_bool (nd_bad oM oM oM) | exact ret_bool (nd_1 oM oM oM oM) | exact ret_bool (nd_2 oM oM oM oM) | exact ret_bool ((decide_congr oM).trans (nd_o oM oM oM oM oM oM oM)) | exact ret_bool (by unfold wfN plainB inB; first | (simp [*]; done) | (simp [*]; omega) | (simp [*] <;> intros <;> omega) | (simp_all; done) | (simp_all <;> omega))) : p := h
theorem z159_1 {p : Prop} (h : p := by simp [exC, fnC]) : p := h
theorem c_spec_l02Node (w : World) (dp : Nat) (vp : Value) (p : List Fn) (dex : Nat) (ve : Value) (ex : Ex) (vars : Int) (funcs : Int) (hp : RN [] (rP (rPr dp)) w.heap vp p) (hex : RN [] (rP (rEx dex)) w.heap ve ex) (_hvars : -9223372036854775808 ≤ vars ∧ vars ≤ 9223372036854775807) (_hfuncs : -9223372036854775808 ≤ funcs ∧ funcs ≤ 9223372036854775807) (hv : 0 ≤ vars ∧ vars ≤ 2000000000) (hf : 0 ≤ funcs ∧ funcs ≤ ((p.length :Nat):Int)) :
  Calls Try.prog 159 #[vp,ve,.int .i64 vars,.int .i64 funcs] w (fun e w' => e = .returned (.bool (wfN p funcs vars ex)) ∧ Ext w w') := by
 refine calls_mk [vp,ve,.int .i64 vars,.int .i64 funcs] 140 Try.func159 rfl rfl sM ?_
 have hE0 : Ext w w := Ext.refl w
 refine wp_seq (wp_plain _ [0] rfl (lw_tvn 1 rfl (wp_seq (wp_seq (wp_plain _ [0,0,0,2,0,0,0,0,0,2,0,0] rfl (lw_tv 1 rfl (q_nilP (hex.isPtr) rfl zN ?_)))))))
 obtain ⟨cs1,hr1,hl1⟩ := RN.at (good_rEx _) hex
 obtain ⟨dd1,ve1,hd1,rfl,hx1⟩ := RX.of hr1
 have hln1 := hx1.rn.lenle
 unfold maxLen at hln1
 refine q_fldL (p := ve) 0 fd46_0 rfl (hl1 _ (Chg.of_ext [] hE0)) zN (q_load (p := (padd ve 0)) (.inr rfl) (.int .i64 ex.kind) one2 rfl ((hl1 _ (Chg.of_ext [] hE0)).ld (i := 0) z159_1) zN ?_)
 by_cases hc2 : ex.kind = ((10 :Nat):Int)
 ·
  refine q_eql true rfl rfl (decide_eq_true hc2) zN (lw_tvn 7 rfl (c_cond_t rfl (wp_seq (wp_seq (wp_plain _ [0,0,0,2,0,0,0,0] rfl (lw_tv 1 rfl (q_nilP (hex.isPtr) rfl zN (q_fldL (p := ve) 1 fd46_1 rfl (hl1 _ (Chg.of_ext [] hE0)) zN (q_load (p := (padd ve 1)) (.inr rfl) (.int .i64 ex.num) one2 rfl ((hl1 _ (Chg.of_ext [] hE0)).ld (i := 1) z159_1) zN (lw_tv 1 rfl (q_sub (funcs - 1) rfl rfl (w64 oM oM) zN (lw_callq 79 [] [] [(.int .i64 ex.num),(.int .i64 ((0 :Nat):Int)),(.int .i64 (funcs - 1))] rfl rfl cf79 zN (.bool (decide (((0 :Nat):Int) ≤ ex.num) && decide (ex.num ≤ (funcs - 1)))) (fun wq => c_spec_l00In wq _ _ _ hx1.rng.num oM oM) ?_))))))))))))
  refine q_not (!(decide (((0 :Nat):Int) ≤ ex.num) && decide (ex.num ≤ (funcs - 1)))) rfl rfl zN (lw_nil ?_)
  cases hb4 : (!(decide (((0 :Nat):Int) ≤ ex.num) && decide (ex.num ≤ (funcs - 1))))
  ·
   refine c_cond_f (by first | rfl | (show Value.bool _ = _; rw [hb4])) (wp_skip (wp_seq (wp_draw _ [0,0,0,1,0,0,0,1,0,0] mixed (by kernel_rfl) ?_)))
   have hnr := inB_e (bn_f (by assumption) : (decide (((0 :Nat):Int) ≤ ex.num) && decide (ex.num ≤ funcs - 1)) = true)
   refine lw_tv 1 rfl (q_nilP (hp.isPtr) rfl zN ?_)
   obtain ⟨cs5,hr5,hl5⟩ := RN.at (good_rPr _) hp
   obtain ⟨ve5,rfl,hx5⟩ := RPr.of hr5
   have hln5 := hx5.lenle
   unfold maxLen at hln5
   refine q_fldL (p := vp) 0 fd52_0 rfl (hl5 _ (Chg.of_ext [] hE0.drew)) zN (q_load (p := (padd vp 0)) (.inl rfl) ve5 one50 rfl ((hl5 _ (Chg.of_ext [] hE0.drew)).ld (i := 0) z159_1) zN (lw_tv 1 rfl (q_nilP (hex.isPtr) rfl zN (q_fldL (p := ve) 1 fd46_1 rfl (hl1 _ (Chg.of_ext [] hE0.drew)) zN (q_load (p := (padd ve 1)) (.inl rfl) (.int .i64 ex.num) one2 rfl ((hl1 _ (Chg.of_ext [] hE0.drew)).ld (i := 1) z159_1) zN ?_)))))
   refine q_idx (v := ve5) ((ex.num).toNat) u50 tiS49 rfl rfl hx5.isSl oM sD zN (lw_tvn 1 rfl (wp_seq (wp_seq (wp_draw _ [0,0,0,1,0,0,0,1,0,0,0,0,0,0,0,0,1,0,0,0,0,1,0,0] mixed (by kernel_rfl) (lw_tv 1 rfl (q_nilP (hex.isPtr) rfl zN (q_fldL (p := ve) 2 fd46_2 rfl (hl1 _ (Chg.of_ext [] hE0.drew.drew)) zN ?_)))))))
   refine q_load (p := (padd ve 2)) (.inl rfl) (.int .i64 ex.pick) one2 rfl ((hl1 _ (Chg.of_ext [] hE0.drew.drew)).ld (i := 2) z159_1) zN (lw_tv 1 rfl (q_nilP (RN.isPtr (RN.ptr (good_rFn dp) (by decide) Fn.zero hx5 sD)) rfl zN ?_))
   obtain ⟨cs6,hr6,hl6⟩ := hx5.get (good_rFn dp) Fn.zero (k := ((ex.num).toNat)) sD
   obtain ⟨ve6,rfl,hx6⟩ := RF.of hr6
   have hln6 := hx6.rn.lenle
   unfold maxLen at hln6
   refine q_fldL (p := eptr ve5 ((ex.num).toNat) 3) 2 fd49_2 rfl (hl6 _ (Chg.of_ext [] hE0.drew.drew)) zN (q_load (p := (padd (eptr ve5 ((ex.num).toNat) 3) 2)) (.inl rfl) ve6 one44 rfl ((hl6 _ (Chg.of_ext [] hE0.drew.drew)).ld (i := 2) z159_1) zN (q_len (v := ve6) u44 rfl hx6.rn.isSl zN (q_sub ((((p.getD (ex.num).toNat Fn.zero).outs.length :Nat):Int) - 1) rfl rfl (w64 oM oM) zN (lw_callq 79 [] [] [(.int .i64 ex.pick),(.int .i64 ((0 :Nat):Int)),(.int .i64 ((((p.getD (ex.num).toNat Fn.zero).outs.length :Nat):Int) - 1))] rfl rfl cf79 zN (.bool (decide (((0 :Nat):Int) ≤ ex.pick) && decide (ex.pick ≤ ((((p.getD (ex.num).toNat Fn.zero).outs.length :Nat):Int) - 1)))) (fun wq => c_spec_l00In wq _ _ _ hx1.rng.pick oM oM) ?_))))
   refine q_not (!(decide (((0 :Nat):Int) ≤ ex.pick) && decide (ex.pick ≤ ((((p.getD (ex.num).toNat Fn.zero).outs.length :Nat):Int) - 1)))) rfl rfl zN (lw_tv 1 rfl ?_)
   cases hb8 : (!(decide (((0 :Nat):Int) ≤ ex.pick) && decide (ex.pick ≤ ((((p.getD (ex.num).toNat Fn.zero).outs.length :Nat):Int) - 1))))
   ·
    refine lw_tv 1 rfl (q_nilP (hex.isPtr) rfl (zS (e := 51) rfl rfl rfl) (q_fldL (p := ve) 4 fd46_4 rfl (hl1 _ (Chg.of_ext [] hE0.drew.drew)) (zS (e := 51) rfl rfl rfl) (q_load (p := (padd ve 4)) (.inl rfl) ve1 one44 rfl ((hl1 _ (Chg.of_ext [] hE0.drew.drew)).ld (i := 4) z159_1) (zS (e := 51) rfl rfl rfl) (q_len (v := ve1) u44 rfl hx1.rn.isSl (zS (e := 51) rfl rfl rfl) (lw_tv 1 rfl ?_)))))
    refine q_nilP (RN.isPtr (RN.ptr (good_rFn dp) (by decide) Fn.zero hx5 sD)) rfl (zS (e := 51) rfl rfl rfl) (q_fldL (p := eptr ve5 ((ex.num).toNat) 3) 1 fd49_1 rfl (hl6 _ (Chg.of_ext [] hE0.drew.drew)) (zS (e := 51) rfl rfl rfl) (q_load (p := (padd (eptr ve5 ((ex.num).toNat) 3) 1)) (.inl rfl) (.int .i64 ((p.getD ((ex.num).toNat) Fn.zero).params)) one2 rfl ((hl6 _ (Chg.of_ext [] hE0.drew.drew)).ld (i := 1) z159_1) (zS (e := 51) rfl rfl rfl) ?_))
    by_cases hc9 : ((ex.kids.length :Nat):Int) ≠ (p.getD ((ex.num).toNat) Fn.zero).params
    ·
     exact q_neq true rfl rfl (decide_eq_true hc9) (zS (e := 51) rfl rfl rfl) (lw_tvn 1 rfl (c_cond_t rfl (wp_seq (wp_plain _ [0] rfl (lw_tvn 1 rfl (wp_ret (t_ret (t_ret (post_ret [8] rfl (.bool false) rfl ⟨z159_0,hE0.drew.drew⟩)))))))))
    ·
     refine q_neq false rfl rfl (decide_eq_false hc9) (zS (e := 51) rfl rfl rfl) (lw_tvn 1 rfl (c_cond_f rfl (wp_skip (wp_seq (wp_seq (wp_plain _ [0,0,0,2,0] rfl (lw_tv 1 rfl (q_nilP (hex.isPtr) rfl zN (q_fldL (p := ve) 0 fd46_0 rfl (hl1 _ (Chg.of_ext [] hE0.drew.drew)) zN (q_load (p := (padd ve 0)) (.inr rfl) (.int .i64 ex.kind) one2 rfl ((hl1 _ (Chg.of_ext [] hE0.drew.drew)).ld (i := 0) z159_1) zN ?_))))))))))
     by_cases hc10 : ex.kind = ((10 :Nat):Int)
     ·
      refine q_eql true rfl rfl (decide_eq_true hc10) zN (lw_nil (c_cond_t rfl (wp_seq (wp_plain _ [0,0,0,2,0,0] rfl (lw_tv 1 rfl (q_nilP (hex.isPtr) rfl zN (q_fldL (p := ve) 3 fd46_3 rfl (hl1 _ (Chg.of_ext [] hE0.drew.drew)) zN (q_load (p := (padd ve 3)) (.inr rfl) (.int .i64 ex.count) one2 rfl ((hl1 _ (Chg.of_ext [] hE0.drew.drew)).ld (i := 3) z159_1) zN (q_eql (decide (ex.count = ((0 :Nat):Int))) rfl rfl rfl zN (lw_tvn 1 rfl (wp_ret (t_ret (t_ret ?_)))))))))))))
      exact post_ret [8] rfl (.bool (decide (ex.count = ((0 :Nat):Int)))) rfl ⟨z159_0,hE0.drew.drew⟩
     ·
      refine q_eql false rfl rfl (decide_eq_false hc10) zN (lw_nil (c_cond_f rfl (wp_skip (wp_seq (wp_draw _ [0,0,0,1,0,0,0,0,0,1,0,0,0,0,1,0,0,0] mixed (by kernel_rfl) (lw_tv 1 rfl (q_nilP (hex.isPtr) rfl zN (q_fldL (p := ve) 3 fd46_3 rfl (hl1 _ (Chg.of_ext [] hE0.drew.drew.drew)) zN (q_load (p := (padd ve 3)) (.inl rfl) (.int .i64 ex.count) one2 rfl ((hl1 _ (Chg.of_ext [] hE0.drew.drew.drew)).ld (i := 3) z159_1) zN (lw_callq 79 [] [] [(.int .i64 ex.count),(.int .i64 ((0 :Nat):Int)),(.int .i64 ((8 :Nat):Int))] rfl rfl cf79 zN (.bool (decide (((0 :Nat):Int) ≤ ex.count) && decide (ex.count ≤ ((8 :Nat):Int)))) (fun wq => c_spec_l00In wq _ _ _ hx1.rng.count oM oM) (lw_tv 1 rfl ?_)))))))))))
      cases hb12 : (decide (((0 :Nat):Int) ≤ ex.count) && decide (ex.count ≤ ((8 :Nat):Int)))
      ·
       exact lw_tvn 12 rfl (wp_ret (t_ret (post_ret [8] rfl (.bool false) rfl ⟨z159_0,hE0.drew.drew.drew⟩)))
      ·
       refine lw_tv 1 rfl (q_nilP (RN.isPtr (RN.ptr (good_rFn dp) (by decide) Fn.zero hx5 sD)) rfl (zS (e := 78) rfl rfl rfl) (q_fldL (p := eptr ve5 ((ex.num).toNat) 3) 2 fd49_2 rfl (hl6 _ (Chg.of_ext [] hE0.drew.drew.drew)) (zS (e := 78) rfl rfl rfl) (q_load (p := (padd (eptr ve5 ((ex.num).toNat) 3) 2)) (.inl rfl) ve6 one44 rfl ((hl6 _ (Chg.of_ext [] hE0.drew.drew.drew)).ld (i := 2) z159_1) (zS (e := 78) rfl rfl rfl) ?_)))
       refine q_len (v := ve6) u44 rfl hx6.rn.isSl (zS (e := 78) rfl rfl rfl) (lw_tv 1 rfl (q_nilP (RN.isPtr (RN.ptr (good_rFn dp) (by decide) Fn.zero hx5 sD)) rfl (zS (e := 78) rfl rfl rfl) (q_fldL (p := eptr ve5 ((ex.num).toNat) 3) 1 fd49_1 rfl (hl6 _ (Chg.of_ext [] hE0.drew.drew.drew)) (zS (e := 78) rfl rfl rfl) ?_)))
       refine q_load (p := (padd (eptr ve5 ((ex.num).toNat) 3) 1)) (.inl rfl) (.int .i64 ((p.getD ((ex.num).toNat) Fn.zero).params)) one2 rfl ((hl6 _ (Chg.of_ext [] hE0.drew.drew.drew)).ld (i := 1) z159_1) (zS (e := 78) rfl rfl rfl) (q_eql (decide (((((p.getD ((ex.num).toNat) Fn.zero).outs).length :Nat):Int) = (p.getD ((ex.num).toNat) Fn.zero).params)) rfl rfl rfl (zS (e := 78) rfl rfl rfl) (lw_tvn 2 rfl (wp_ret (t_ret ?_))))
       exact post_ret [8] rfl (.bool (decide (((((p.getD ((ex.num).toNat) Fn.zero).outs).length :Nat):Int) = (p.getD ((ex.num).toNat) Fn.zero).params))) rfl ⟨z159_0,hE0.drew.drew.drew⟩
   ·
    exact lw_tvn 11 rfl (c_cond_t rfl (wp_seq (wp_plain _ [0] rfl (lw_tvn 1 rfl (wp_ret (t_ret (t_ret (post_ret [8] rfl (.bool false) rfl ⟨z159_0,hE0.drew.drew⟩))))))))
  ·
   exact c_cond_t (by first | rfl | (show Value.bool _ = _; rw [hb4])) (wp_seq (wp_plain _ [0] rfl (lw_tvn 1 rfl (wp_ret (t_ret (t_ret (post_ret [8] rfl (.bool false) rfl ⟨z159_0,hE0⟩)))))))
 ·
  refine q_eql false rfl rfl (decide_eq_false hc2) zN (lw_tv 2 rfl (q_nilP (hex.isPtr) rfl (zS (e := 15) rfl rfl rfl) (q_fldL (p := ve) 0 fd46_0 rfl (hl1 _ (Chg.of_ext [] hE0)) (zS (e := 15) rfl rfl rfl) (q_load (p := (padd ve 0)) (.inr rfl) (.int .i64 ex.kind) one2 rfl ((hl1 _ (Chg.of_ext [] hE0)).ld (i := 0) z159_1) (zS (e := 15) rfl rfl rfl) ?_))))
  by_cases hc13 : ex.kind = ((11 :Nat):Int)
  ·
   refine q_eql true rfl rfl (decide_eq_true hc13) (zS (e := 15) rfl rfl rfl) (lw_tvn 1 rfl (c_cond_t rfl (wp_seq (wp_seq (wp_plain _ [0,0,0,2,0,0,0,0] rfl (lw_tv 1 rfl (q_nilP (hex.isPtr) rfl zN (q_fldL (p := ve) 1 fd46_1 rfl (hl1 _ (Chg.of_ext [] hE0)) zN (q_load (p := (padd ve 1)) (.inr rfl) (.int .i64 ex.num) one2 rfl ((hl1 _ (Chg.of_ext [] hE0)).ld (i := 1) z159_1) zN (lw_tv 1 rfl (q_sub (funcs - 1) rfl rfl (w64 oM oM) zN (lw_callq 79 [] [] [(.int .i64 ex.num),(.int .i64 ((0 :Nat):Int)),(.int .i64 (funcs - 1))] rfl rfl cf79 zN (.bool (decide (((0 :Nat):Int) ≤ ex.num) && decide (ex.num ≤ (funcs - 1)))) (fun wq => c_spec_l00In wq _ _ _ hx1.rng.num oM oM) ?_))))))))))))
   refine q_not (!(decide (((0 :Nat):Int) ≤ ex.num) && decide (ex.num ≤ (funcs - 1)))) rfl rfl zN (lw_nil ?_)
   cases hb15 : (!(decide (((0 :Nat):Int) ≤ ex.num) && decide (ex.num ≤ (funcs - 1))))
   ·
    refine c_cond_f (by first | rfl | (show Value.bool _ = _; rw [hb15])) (wp_skip (wp_seq (wp_draw _ [0,0,0,1,0,0,0,1,0,0] mixed (by kernel_rfl) ?_)))
    have hnr := inB_e (bn_f (by assumption) : (decide (((0 :Nat):Int) ≤ ex.num) && decide (ex.num ≤ funcs - 1)) = true)
    refine lw_tv 1 rfl (q_nilP (hp.isPtr) rfl zN ?_)
    obtain ⟨cs16,hr16,hl16⟩ := RN.at (good_rPr _) hp
    obtain ⟨ve16,rfl,hx16⟩ := RPr.of hr16
    have hln16 := hx16.lenle
    unfold maxLen at hln16
    refine q_fldL (p := vp) 0 fd52_0 rfl (hl16 _ (Chg.of_ext [] hE0.drew)) zN (q_load (p := (padd vp 0)) (.inl rfl) ve16 one50 rfl ((hl16 _ (Chg.of_ext [] hE0.drew)).ld (i := 0) z159_1) zN (lw_tv 1 rfl (q_nilP (hex.isPtr) rfl zN (q_fldL (p := ve) 1 fd46_1 rfl (hl1 _ (Chg.of_ext [] hE0.drew)) zN (q_load (p := (padd ve 1)) (.inl rfl) (.int .i64 ex.num) one2 rfl ((hl1 _ (Chg.of_ext [] hE0.drew)).ld (i := 1) z159_1) zN ?_)))))
    refine q_idx (v := ve16) ((ex.num).toNat) u50 tiS49 rfl rfl hx16.isSl oM sD zN (lw_tvn 1 rfl (wp_seq (wp_seq (wp_draw _ [0,0,0,1,0,0,0,1,0,0,0,0,0,0,0,0,1,0,0,0,0,1,0,0] mixed (by kernel_rfl) (lw_tv 1 rfl (q_nilP (hex.isPtr) rfl zN (q_fldL (p := ve) 2 fd46_2 rfl (hl1 _ (Chg.of_ext [] hE0.drew.drew)) zN ?_)))))))
    refine q_load (p := (padd ve 2)) (.inl rfl) (.int .i64 ex.pick) one2 rfl ((hl1 _ (Chg.of_ext [] hE0.drew.drew)).ld (i := 2) z159_1) zN (lw_tv 1 rfl (q_nilP (RN.isPtr (RN.ptr (good_rFn dp) (by decide) Fn.zero hx16 sD)) rfl zN ?_))
    obtain ⟨cs17,hr17,hl17⟩ := hx16.get (good_rFn dp) Fn.zero (k := ((ex.num).toNat)) sD
    obtain ⟨ve17,rfl,hx17⟩ := RF.of hr17
    have hln17 := hx17.rn.lenle
    unfold maxLen at hln17
    refine q_fldL (p := eptr ve16 ((ex.num).toNat) 3) 2 fd49_2 rfl (hl17 _ (Chg.of_ext [] hE0.drew.drew)) zN (q_load (p := (padd (eptr ve16 ((ex.num).toNat) 3) 2)) (.inl rfl) ve17 one44 rfl ((hl17 _ (Chg.of_ext [] hE0.drew.drew)).ld (i := 2) z159_1) zN (q_len (v := ve17) u44 rfl hx17.rn.isSl zN (q_sub ((((p.getD (ex.num).toNat Fn.zero).outs.length :Nat):Int) - 1) rfl rfl (w64 oM oM) zN (lw_callq 79 [] [] [(.int .i64 ex.pick),(.int .i64 ((0 :Nat):Int)),(.int .i64 ((((p.getD (ex.num).toNat Fn.zero).outs.length :Nat):Int) - 1))] rfl rfl cf79 zN (.bool (decide (((0 :Nat):Int) ≤ ex.pick) && decide (ex.pick ≤ ((((p.getD (ex.num).toNat Fn.zero).outs.length :Nat):Int) - 1)))) (fun wq => c_spec_l00In wq _ _ _ hx1.rng.pick oM oM) ?_))))
    refine q_not (!(decide (((0 :Nat):Int) ≤ ex.pick) && decide (ex.pick ≤ ((((p.getD (ex.num).toNat Fn.zero).outs.length :Nat):Int) - 1)))) rfl rfl zN (lw_tv 1 rfl ?_)
    cases hb19 : (!(decide (((0 :Nat):Int) ≤ ex.pick) && decide (ex.pick ≤ ((((p.getD (ex.num).toNat Fn.zero).outs.length :Nat):Int) - 1))))
    ·
     refine lw_tv 1 rfl (q_nilP (hex.isPtr) rfl (zS (e := 51) rfl rfl rfl) (q_fldL (p := ve) 4 fd46_4 rfl (hl1 _ (Chg.of_ext [] hE0.drew.drew)) (zS (e := 51) rfl rfl rfl) (q_load (p := (padd ve 4)) (.inl rfl) ve1 one44 rfl ((hl1 _ (Chg.of_ext [] hE0.drew.drew)).ld (i := 4) z159_1) (zS (e := 51) rfl rfl rfl) (q_len (v := ve1) u44 rfl hx1.rn.isSl (zS (e := 51) rfl rfl rfl) (lw_tv 1 rfl ?_)))))
     refine q_nilP (RN.isPtr (RN.ptr (good_rFn dp) (by decide) Fn.zero hx16 sD)) rfl (zS (e := 51) rfl rfl rfl) (q_fldL (p := eptr ve16 ((ex.num).toNat) 3) 1 fd49_1 rfl (hl17 _ (Chg.of_ext [] hE0.drew.drew)) (zS (e := 51) rfl rfl rfl) (q_load (p := (padd (eptr ve16 ((ex.num).toNat) 3) 1)) (.inl rfl) (.int .i64 ((p.getD ((ex.num).toNat) Fn.zero).params)) one2 rfl ((hl17 _ (Chg.of_ext [] hE0.drew.drew)).ld (i := 1) z159_1) (zS (e := 51) rfl rfl rfl) ?_))
     by_cases hc20 : ((ex.kids.length :Nat):Int) ≠ (p.getD ((ex.num).toNat) Fn.zero).params
     ·
      exact q_neq true rfl rfl (decide_eq_true hc20) (zS (e := 51) rfl rfl rfl) (lw_tvn 1 rfl (c_cond_t rfl (wp_seq (wp_plain _ [0] rfl (lw_tvn 1 rfl (wp_ret (t_ret (t_ret (post_ret [8] rfl (.bool false) rfl ⟨z159_0,hE0.drew.drew⟩)))))))))
     ·
      refine q_neq false rfl rfl (decide_eq_false hc20) (zS (e := 51) rfl rfl rfl) (lw_tvn 1 rfl (c_cond_f rfl (wp_skip (wp_seq (wp_seq (wp_plain _ [0,0,0,2,0] rfl (lw_tv 1 rfl (q_nilP (hex.isPtr) rfl zN (q_fldL (p := ve) 0 fd46_0 rfl (hl1 _ (Chg.of_ext [] hE0.drew.drew)) zN (q_load (p := (padd ve 0)) (.inr rfl) (.int .i64 ex.kind) one2 rfl ((hl1 _ (Chg.of_ext [] hE0.drew.drew)).ld (i := 0) z159_1) zN ?_))))))))))
      by_cases hc21 : ex.kind = ((10 :Nat):Int)
      ·
       refine q_eql true rfl rfl (decide_eq_true hc21) zN (lw_nil (c_cond_t rfl (wp_seq (wp_plain _ [0,0,0,2,0,0] rfl (lw_tv 1 rfl (q_nilP (hex.isPtr) rfl zN (q_fldL (p := ve) 3 fd46_3 rfl (hl1 _ (Chg.of_ext [] hE0.drew.drew)) zN (q_load (p := (padd ve 3)) (.inr rfl) (.int .i64 ex.count) one2 rfl ((hl1 _ (Chg.of_ext [] hE0.drew.drew)).ld (i := 3) z159_1) zN (q_eql (decide (ex.count = ((0 :Nat):Int))) rfl rfl rfl zN (lw_tvn 1 rfl (wp_ret (t_ret (t_ret ?_)))))))))))))
       exact post_ret [8] rfl (.bool (decide (ex.count = ((0 :Nat):Int)))) rfl ⟨z159_0,hE0.drew.drew⟩
      ·
       refine q_eql false rfl rfl (decide_eq_false hc21) zN (lw_nil (c_cond_f rfl (wp_skip (wp_seq (wp_draw _ [0,0,0,1,0,0,0,0,0,1,0,0,0,0,1,0,0,0] mixed (by kernel_rfl) (lw_tv 1 rfl (q_nilP (hex.isPtr) rfl zN (q_fldL (p := ve) 3 fd46_3 rfl (hl1 _ (Chg.of_ext [] hE0.drew.drew.drew)) zN (q_load (p := (padd ve 3)) (.inl rfl) (.int .i64 ex.count) one2 rfl ((hl1 _ (Chg.of_ext [] hE0.drew.drew.drew)).ld (i := 3) z159_1) zN (lw_callq 79 [] [] [(.int .i64 ex.count),(.int .i64 ((0 :Nat):Int)),(.int .i64 ((8 :Nat):Int))] rfl rfl cf79 zN (.bool (decide (((0 :Nat):Int) ≤ ex.count) && decide (ex.count ≤ ((8 :Nat):Int)))) (fun wq => c_spec_l00In wq _ _ _ hx1.rng.count oM oM) (lw_tv 1 rfl ?_)))))))))))
       cases hb23 : (decide (((0 :Nat):Int) ≤ ex.count) && decide (ex.count ≤ ((8 :Nat):Int)))
       ·
        exact lw_tvn 12 rfl (wp_ret (t_ret (post_ret [8] rfl (.bool false) rfl ⟨z159_0,hE0.drew.drew.drew⟩)))
       ·
        refine lw_tv 1 rfl (q_nilP (RN.isPtr (RN.ptr (good_rFn dp) (by decide) Fn.zero hx16 sD)) rfl (zS (e := 78) rfl rfl rfl) (q_fldL (p := eptr ve16 ((ex.num).toNat) 3) 2 fd49_2 rfl (hl17 _ (Chg.of_ext [] hE0.drew.drew.drew)) (zS (e := 78) rfl rfl rfl) (q_load (p := (padd (eptr ve16 ((ex.num).toNat) 3) 2)) (.inl rfl) ve17 one44 rfl ((hl17 _ (Chg.of_ext [] hE0.drew.drew.drew)).ld (i := 2) z159_1) (zS (e := 78) rfl rfl rfl) ?_)))
        refine q_len (v := ve17) u44 rfl hx17.rn.isSl (zS (e := 78) rfl rfl rfl) (lw_tv 1 rfl (q_nilP (RN.isPtr (RN.ptr (good_rFn dp) (by decide) Fn.zero hx16 sD)) rfl (zS (e := 78) rfl rfl rfl) (q_fldL (p := eptr ve16 ((ex.num).toNat) 3) 1 fd49_1 rfl (hl17 _ (Chg.of_ext [] hE0.drew.drew.drew)) (zS (e := 78) rfl rfl rfl) ?_)))
        refine q_load (p := (padd (eptr ve16 ((ex.num).toNat) 3) 1)) (.inl rfl) (.int .i64 ((p.getD ((ex.num).toNat) Fn.zero).params)) one2 rfl ((hl17 _ (Chg.of_ext [] hE0.drew.drew.drew)).ld (i := 1) z159_1) (zS (e := 78) rfl rfl rfl) (q_eql (decide (((((p.getD ((ex.num).toNat) Fn.zero).outs).length :Nat):Int) = (p.getD ((ex.num).toNat) Fn.zero).params)) rfl rfl rfl (zS (e := 78) rfl rfl rfl) (lw_tvn 2 rfl (wp_ret (t_ret ?_))))
        exact post_ret [8] rfl (.bool (decide (((((p.getD ((ex.num).toNat) Fn.zero).outs).length :Nat):Int) = (p.getD ((ex.num).toNat) Fn.zero).params))) rfl ⟨z159_0,hE0.drew.drew.drew⟩
    ·
     exact lw_tvn 11 rfl (c_cond_t rfl (wp_seq (wp_plain _ [0] rfl (lw_tvn 1 rfl (wp_ret (t_ret (t_ret (post_ret [8] rfl (.bool false) rfl ⟨z159_0,hE0.drew.drew⟩))))))))
   ·
    exact c_cond_t (by first | rfl | (show Value.bool _ = _; rw [hb15])) (wp_seq (wp_plain _ [0] rfl (lw_tvn 1 rfl (wp_ret (t_ret (t_ret (post_ret [8] rfl (.bool false) rfl ⟨z159_0,hE0⟩)))))))
  ·
   refine q_eql false rfl rfl (decide_eq_false hc13) (zS (e := 15) rfl rfl rfl) (lw_tvn 1 rfl (c_cond_f rfl (wp_skip (wp_seq (wp_seq (wp_draw _ [0,0,0,1,0,0,0,0,1,0,0,0,0,0,0,1,0,0,0,0,0,0,1,0,0] mixed (by kernel_rfl) (lw_tv 1 rfl (q_nilP (hex.isPtr) rfl zN (q_fldL (p := ve) 0 fd46_0 rfl (hl1 _ (Chg.of_ext [] hE0.drew)) zN (q_load (p := (padd ve 0)) (.inl rfl) (.int .i64 ex.kind) one2 rfl ((hl1 _ (Chg.of_ext [] hE0.drew)).ld (i := 0) z159_1) zN (lw_callq 167 [] [] [(.int .i64 ex.kind)] rfl rfl cf167 zN (.int .i64 (kdN ex.kind)) (fun wq => c_spec_l02Kids wq _ hx1.rng.kind) (lw_tv 1 rfl (q_nilP (hex.isPtr) rfl zN (q_fldL (p := ve) 4 fd46_4 rfl (hl1 _ (Chg.of_ext [] hE0.drew)) zN ?_))))))))))))))
   refine q_load (p := (padd ve 4)) (.inl rfl) ve1 one44 rfl ((hl1 _ (Chg.of_ext [] hE0.drew)).ld (i := 4) z159_1) zN (q_len (v := ve1) u44 rfl hx1.rn.isSl zN ?_)
   by_cases hc25 : kdN ex.kind ≠ ((ex.kids.length :Nat):Int)
   ·
    exact q_neq true rfl rfl (decide_eq_true hc25) zN (lw_tvn 14 rfl (c_cond_t rfl (wp_seq (wp_plain _ [0] rfl (lw_tvn 1 rfl (wp_ret (t_ret (post_ret [8] rfl (.bool false) rfl ⟨z159_0,hE0.drew⟩))))))))
   ·
    refine q_neq false rfl rfl (decide_eq_false hc25) zN (lw_tv 2 rfl (q_nilP (hex.isPtr) rfl (zS (e := 101) rfl rfl rfl) (q_fldL (p := ve) 2 fd46_2 rfl (hl1 _ (Chg.of_ext [] hE0.drew)) (zS (e := 101) rfl rfl rfl) (q_load (p := (padd ve 2)) (.inl rfl) (.int .i64 ex.pick) one2 rfl ((hl1 _ (Chg.of_ext [] hE0.drew)).ld (i := 2) z159_1) (zS (e := 101) rfl rfl rfl) ?_))))
    by_cases hc26 : ex.pick ≠ ((0 :Nat):Int)
    ·
     exact q_neq true rfl rfl (decide_eq_true hc26) (zS (e := 101) rfl rfl rfl) (lw_tvn 8 rfl (c_cond_t rfl (wp_seq (wp_plain _ [0] rfl (lw_tvn 1 rfl (wp_ret (t_ret (post_ret [8] rfl (.bool false) rfl ⟨z159_0,hE0.drew⟩))))))))
    ·
     refine q_neq false rfl rfl (decide_eq_false hc26) (zS (e := 101) rfl rfl rfl) (lw_tv 3 rfl (q_nilP (hex.isPtr) rfl (zS (e := 108) rfl rfl rfl) (q_fldL (p := ve) 3 fd46_3 rfl (hl1 _ (Chg.of_ext [] hE0.drew)) (zS (e := 108) rfl rfl rfl) (q_load (p := (padd ve 3)) (.inl rfl) (.int .i64 ex.count) one2 rfl ((hl1 _ (Chg.of_ext [] hE0.drew)).ld (i := 3) z159_1) (zS (e := 108) rfl rfl rfl) ?_))))
     by_cases hc27 : ex.count ≠ ((0 :Nat):Int)
     ·
      exact q_neq true rfl rfl (decide_eq_true hc27) (zS (e := 108) rfl rfl rfl) (lw_tvn 1 rfl (c_cond_t rfl (wp_seq (wp_plain _ [0] rfl (lw_tvn 1 rfl (wp_ret (t_ret (post_ret [8] rfl (.bool false) rfl ⟨z159_0,hE0.drew⟩))))))))
     ·
      refine q_neq false rfl rfl (decide_eq_false hc27) (zS (e := 108) rfl rfl rfl) (lw_tvn 1 rfl (c_cond_f rfl (wp_skip (wp_seq (wp_seq (wp_plain _ [0,0,0,2] rfl (lw_tv 1 rfl (q_nilP (hex.isPtr) rfl zN (q_fldL (p := ve) 0 fd46_0 rfl (hl1 _ (Chg.of_ext [] hE0.drew)) zN (q_load (p := (padd ve 0)) (.inr rfl) (.int .i64 ex.kind) one2 rfl ((hl1 _ (Chg.of_ext [] hE0.drew)).ld (i := 0) z159_1) zN (lw_nil (wp_block (wp_seq (wp_plain _ [0,0] rfl ?_))))))))))))))
      by_cases hc28 : ex.kind = ((1 :Nat):Int)
      ·
       refine q_eql true rfl rfl (decide_eq_true hc28) zN (lw_tvn 1 rfl (c_cond_t rfl (wp_seq (wp_plain _ [0,0,0,2,0,0] rfl (lw_tv 1 rfl (q_nilP (hex.isPtr) rfl zN (q_fldL (p := ve) 1 fd46_1 rfl (hl1 _ (Chg.of_ext [] hE0.drew)) zN (q_load (p := (padd ve 1)) (.inr rfl) (.int .i64 ex.num) one2 rfl ((hl1 _ (Chg.of_ext [] hE0.drew)).ld (i := 1) z159_1) zN (lw_callq 168 [] [] [(.int .i64 ex.num)] rfl rfl cf168 zN (.bool (isN ex.num)) (fun wq => c_spec_l01Number wq _ hx1.rng.num) (lw_tvn 1 rfl (wp_ret (b_ret (t_ret ?_)))))))))))))
       exact post_ret [8] rfl (.bool (isN ex.num)) rfl ⟨z159_0,hE0.drew⟩
      ·
       refine q_eql false rfl rfl (decide_eq_false hc28) zN (lw_tvn 1 rfl (c_cond_f rfl (wp_seq (wp_plain _ [0,0] rfl ?_))))
       by_cases hc30 : ex.kind = ((2 :Nat):Int)
       ·
        refine q_eql true rfl rfl (decide_eq_true hc30) zN (lw_tvn 1 rfl (c_cond_t rfl (wp_seq (wp_plain _ [0,0,0,2,0,0,0,0] rfl (lw_tv 1 rfl (q_nilP (hex.isPtr) rfl zN (q_fldL (p := ve) 1 fd46_1 rfl (hl1 _ (Chg.of_ext [] hE0.drew)) zN (q_load (p := (padd ve 1)) (.inr rfl) (.int .i64 ex.num) one2 rfl ((hl1 _ (Chg.of_ext [] hE0.drew)).ld (i := 1) z159_1) zN (lw_tv 1 rfl (q_sub (vars - 1) rfl rfl (w64 oM oM) zN (lw_callq 79 [] [] [(.int .i64 ex.num),(.int .i64 ((0 :Nat):Int)),(.int .i64 (vars - 1))] rfl rfl cf79 zN (.bool (decide (((0 :Nat):Int) ≤ ex.num) && decide (ex.num ≤ (vars - 1)))) (fun wq => c_spec_l00In wq _ _ _ hx1.rng.num oM oM) (lw_tvn 1 rfl (wp_ret (b_ret (t_ret ?_)))))))))))))))
        exact post_ret [8] rfl (.bool (decide (((0 :Nat):Int) ≤ ex.num) && decide (ex.num ≤ (vars - 1)))) rfl ⟨z159_0,hE0.drew⟩
       ·
        refine q_eql false rfl rfl (decide_eq_false hc30) zN (lw_tvn 1 rfl (c_cond_f rfl (wp_skip (wp_seq (wp_plain _ [0,0,0,2,0,0] rfl (lw_tv 1 rfl (q_nilP (hex.isPtr) rfl zN (q_fldL (p := ve) 1 fd46_1 rfl (hl1 _ (Chg.of_ext [] hE0.drew)) zN (q_load (p := (padd ve 1)) (.inr rfl) (.int .i64 ex.num) one2 rfl ((hl1 _ (Chg.of_ext [] hE0.drew)).ld (i := 1) z159_1) zN (q_eql (decide (ex.num = ((0 :Nat):Int))) rfl rfl rfl zN (lw_tvn 1 rfl (wp_ret ?_))))))))))))
        exact post_ret [8] rfl (.bool (decide (ex.num = ((0 :Nat):Int)))) rfl ⟨z159_0,hE0.drew⟩
theorem z154_0 {p : Prop} (h : p := by first | exact ret_bool (wf_bad (bn_t (by assumption))) | exact ret_bool (wf_good (bn_f (by assumption)) fun j hj => hall j oM) | exact ret_bool (wf_kid (k := k) oM (by first | (rw [if_pos oM]) | (rw [if_neg oM])) (bn_t (by assumption)))) : p := h
theorem z154_1 {p : Prop} (h : p := by intro j hj; by_cases e9 : j = k; (rw [e9]; first | (rw [if_pos oM]; exact bn_f (by assumption)) | (rw [if_neg oM]; exact bn_f (by assumption))); exact hall j oM) : p := h
theorem c_spec_l02Tree (w : World) (dp : Nat) (vp : Value) (p : List Fn) (dex : Nat) (ve : Value) (ex : Ex) (vars : Int) (funcs : Int) (hp : RN [] (rP (rPr dp)) w.heap vp p) (hex : RN [] (rP (rEx dex)) w.heap ve ex) (_hvars : -9223372036854775808 ≤ vars ∧ vars ≤ 9223372036854775807) (_hfuncs : -9223372036854775808 ≤ funcs ∧ funcs ≤ 9223372036854775807) (hs : 0 ≤ vars ∧ vars + (ex.deep : Int) ≤ 2000000000) (hf : 0 ≤ funcs ∧ funcs ≤ ((p.length :Nat):Int)) :
  Calls Try.prog 154 #[vp,ve,.int .i64 vars,.int .i64 funcs] w (fun e w' => e = .returned (.bool (wf p funcs ex vars)) ∧ Ext w w') := by
 induction dex using Nat.strongRecOn generalizing w dp vp p ve ex vars funcs
 rename_i dex ih
 refine calls_mk [vp,ve,.int .i64 vars,.int .i64 funcs] 49 Try.func154 rfl rfl sM ?_
 have hE0 : Ext w w := Ext.refl w
 have hdk := deep_kids ex
 refine wp_seq (wp_plain _ [0] rfl (lw_tvn 1 rfl (wp_seq (wp_seq (wp_plain _ [0,0,0,0,3,0] rfl (lw_tv 4 rfl (lw_call 159 [] [] [vp,ve,(.int .i64 vars),(.int .i64 funcs)] rfl rfl cf159 zN (c_spec_l02Node _ dp vp (p) dex ve (ex) _ _ (hp.ext (good_rP (good_rPr dp)) hE0) (hex.ext (good_rP (good_rEx dex)) hE0) _hvars _hfuncs oM oM) ?_)))))))
 rintro e1 w1 ⟨rfl,hX1⟩
 refine ⟨_,rfl,hX1,?_⟩
 have hzs1:=hX1.size
 have hE1:=hE0.trans hX1
 refine q_not (!(wfN p funcs vars ex)) rfl rfl zN (lw_nil ?_)
 cases hb2 : (!(wfN p funcs vars ex))
 ·
  refine c_cond_f (by first | rfl | (show Value.bool _ = _; rw [hb2])) (wp_skip (wp_seq (wp_seq (wp_plain _ [0] rfl (lw_tvn 1 rfl (wp_block ?_))))))
  refine c_loop (S := Nat) (fun (k : Nat) => ([(9,(.int .i64 ((k :Nat):Int))),(0,vp),(1,ve),(2,(.int .i64 vars)),(3,(.int .i64 funcs))] : List (Nat × Value))) (fun (k : Nat) (W : World) => Ext w W ∧ k ≤ ex.kids.length ∧ (∀ j,j < k → wf p funcs (ex.kids.getD j Ex.zero) (if ex.kind = 9 ∧ j = 1 then vars + 1 else vars) = true)) (fun (k : Nat) => ex.kids.length - k) 0 ⟨rfl,rfl,rfl,rfl,rfl,trivial⟩ ⟨hE1,sD,(by intro j hj; omega)⟩ ?_
  clear hE0 hX1 hzs1 hE1
  rintro k ρ3 w3 ⟨hE3,hp3_0,hall⟩
  have hzs3 : w.heap.size ≤ w3.heap.size := hE3.size
  refine wp_seq (wp_seq (wp_plain _ [0,0,0,0,2,0,0] rfl (lw_tv 2 rfl (q_nilP (hex.isPtr) rfl zN ?_))))
  obtain ⟨cs4,hr4,hl4⟩ := RN.at (good_rEx _) hex
  obtain ⟨dd4,ve4,hd4,rfl,hx4⟩ := RX.of hr4
  have hln4 := hx4.rn.lenle
  unfold maxLen at hln4
  refine q_fldL (p := ve) 4 fd46_4 rfl (hl4 _ (Chg.of_ext [] hE3)) zN (q_load (p := (padd ve 4)) (.inr rfl) ve4 one44 rfl ((hl4 _ (Chg.of_ext [] hE3)).ld (i := 4) (by simp [exC,fnC])) zN (q_len (v := ve4) u44 rfl hx4.rn.isSl zN ?_))
  by_cases hc5 : ((k :Nat):Int) < ((ex.kids.length :Nat):Int)
  ·
   refine q_lss true rfl rfl (decide_eq_true hc5) zN (lw_nil (c_cond_t rfl (wp_skip (wp_seq (wp_block (wp_seq (wp_plain _ [0,0] rfl ?_)))))))
   have hkd := kd_at (l := ex.kids) (k := k) oM
   refine lw_tvn 2 rfl (wp_seq (wp_seq (wp_plain _ [0,0,0,2,0,0,0,0,0] rfl (lw_tv 1 rfl (q_nilP (hex.isPtr) rfl zN (q_fldL (p := ve) 0 fd46_0 rfl (hl4 _ (Chg.of_ext [] hE3)) zN (q_load (p := (padd ve 0)) (.inr rfl) (.int .i64 ex.kind) one2 rfl ((hl4 _ (Chg.of_ext [] hE3)).ld (i := 0) (by simp [exC,fnC])) zN ?_)))))))
   by_cases hc6 : ex.kind = ((9 :Nat):Int)
   ·
    refine q_eql true rfl rfl (decide_eq_true hc6) zN (lw_tv 2 rfl ?_)
    by_cases hc7 : ((k :Nat):Int) = ((1 :Nat):Int)
    ·
     refine q_eql true rfl rfl (decide_eq_true hc7) (zS (e := 32) rfl rfl rfl) (lw_tvn 1 rfl (c_cond_t rfl (wp_plain _ [0,0,0] rfl (lw_tv 1 rfl (q_add (vars + 1) rfl rfl (w64 oM oM) zN (lw_tvn 1 rfl (wp_seq (wp_plain _ [0,0,0,0,2,0,0,0,0,3,0] rfl (lw_tv 2 rfl (q_nilP (hex.isPtr) rfl zN (q_fldL (p := ve) 4 fd46_4 rfl (hl4 _ (Chg.of_ext [] hE3)) zN (q_load (p := (padd ve 4)) (.inr rfl) ve4 one44 rfl ((hl4 _ (Chg.of_ext [] hE3)).ld (i := 4) (by simp [exC,fnC])) zN (lw_tv 1 rfl ?_)))))))))))))
     refine q_idx (v := ve4) k u44 tiS46 rfl rfl hx4.rn.isSl rfl sD zN (lw_tv 2 rfl ?_)
     refine lw_call 154 [] [] [vp,(eptr ve4 k 5),(.int .i64 (vars + 1)),(.int .i64 funcs)] rfl rfl cf154 zN (ih dd4 oM _ dp vp (p) (eptr ve4 k 5) (ex.kids.getD k Ex.zero) _ _ (hp.ext (good_rP (good_rPr dp)) hE3) (RN.ptr (good_rEx dd4) (by decide) Ex.zero (hx4.rn.ext (good_rdS (good_rEx dd4)) hE3) sD) oM _hfuncs oM oM) ?_
     rintro e8 w8 ⟨rfl,hX8⟩
     refine ⟨_,rfl,hX8,?_⟩
     have hzs8:=hX8.size
     have hE8:=hE3.trans hX8
     refine q_not (!(wf p funcs (ex.kids.getD k Ex.zero) (vars + 1))) rfl rfl zN (lw_nil ?_)
     cases hb9 : (!(wf p funcs (ex.kids.getD k Ex.zero) (vars + 1)))
     ·
      refine c_cond_f (by first | rfl | (show Value.bool _ = _; rw [hb9])) (wp_skip (wp_plain _ [0,0,0] rfl (lw_tv 1 rfl (q_add ((k + 1 :Nat):Int) rfl rfl (w64n oM sD) zN (lw_tvn 1 rfl ?_)))))
      exact ⟨(k + 1),_,rfl,⟨rfl,rfl,rfl,rfl,rfl,trivial⟩,⟨hE8,sD,z154_1⟩,by first | omega | (dsimp only; omega)⟩
     ·
      exact c_cond_t (by first | rfl | (show Value.bool _ = _; rw [hb9])) (wp_seq (wp_plain _ [0] rfl (lw_tvn 1 rfl (wp_ret (b_ret (t_ret (t_ret (b_ret (t_ret (post_ret [8] rfl (.bool false) rfl ⟨z154_0,hE8⟩))))))))))
    ·
     refine q_eql false rfl rfl (decide_eq_false hc7) (zS (e := 32) rfl rfl rfl) (lw_tvn 1 rfl (c_cond_f rfl (wp_skip (wp_seq (wp_plain _ [0,0,0,0,2,0,0,0,0,3,0] rfl (lw_tv 2 rfl (q_nilP (hex.isPtr) rfl zN (q_fldL (p := ve) 4 fd46_4 rfl (hl4 _ (Chg.of_ext [] hE3)) zN (q_load (p := (padd ve 4)) (.inr rfl) ve4 one44 rfl ((hl4 _ (Chg.of_ext [] hE3)).ld (i := 4) (by simp [exC,fnC])) zN (lw_tv 1 rfl ?_))))))))))
     refine q_idx (v := ve4) k u44 tiS46 rfl rfl hx4.rn.isSl rfl sD zN (lw_tv 2 rfl ?_)
     refine lw_call 154 [] [] [vp,(eptr ve4 k 5),(.int .i64 vars),(.int .i64 funcs)] rfl rfl cf154 zN (ih dd4 oM _ dp vp (p) (eptr ve4 k 5) (ex.kids.getD k Ex.zero) _ _ (hp.ext (good_rP (good_rPr dp)) hE3) (RN.ptr (good_rEx dd4) (by decide) Ex.zero (hx4.rn.ext (good_rdS (good_rEx dd4)) hE3) sD) _hvars _hfuncs oM oM) ?_
     rintro e10 w10 ⟨rfl,hX10⟩
     refine ⟨_,rfl,hX10,?_⟩
     have hzs10:=hX10.size
     have hE10:=hE3.trans hX10
     refine q_not (!(wf p funcs (ex.kids.getD k Ex.zero) vars)) rfl rfl zN (lw_nil ?_)
     cases hb11 : (!(wf p funcs (ex.kids.getD k Ex.zero) vars))
     ·
      refine c_cond_f (by first | rfl | (show Value.bool _ = _; rw [hb11])) (wp_skip (wp_plain _ [0,0,0] rfl (lw_tv 1 rfl (q_add ((k + 1 :Nat):Int) rfl rfl (w64n oM sD) zN (lw_tvn 1 rfl ?_)))))
      exact ⟨(k + 1),_,rfl,⟨rfl,rfl,rfl,rfl,rfl,trivial⟩,⟨hE10,sD,z154_1⟩,by first | omega | (dsimp only; omega)⟩
     ·
      exact c_cond_t (by first | rfl | (show Value.bool _ = _; rw [hb11])) (wp_seq (wp_plain _ [0] rfl (lw_tvn 1 rfl (wp_ret (b_ret (t_ret (t_ret (b_ret (t_ret (post_ret [8] rfl (.bool false) rfl ⟨z154_0,hE10⟩))))))))))
   ·
    refine q_eql false rfl rfl (decide_eq_false hc6) zN (lw_tvn 4 rfl (c_cond_f rfl (wp_skip (wp_seq (wp_plain _ [0,0,0,0,2,0,0,0,0,3,0] rfl (lw_tv 2 rfl (q_nilP (hex.isPtr) rfl zN (q_fldL (p := ve) 4 fd46_4 rfl (hl4 _ (Chg.of_ext [] hE3)) zN (q_load (p := (padd ve 4)) (.inr rfl) ve4 one44 rfl ((hl4 _ (Chg.of_ext [] hE3)).ld (i := 4) (by simp [exC,fnC])) zN (lw_tv 1 rfl ?_))))))))))
    refine q_idx (v := ve4) k u44 tiS46 rfl rfl hx4.rn.isSl rfl sD zN (lw_tv 2 rfl ?_)
    refine lw_call 154 [] [] [vp,(eptr ve4 k 5),(.int .i64 vars),(.int .i64 funcs)] rfl rfl cf154 zN (ih dd4 oM _ dp vp (p) (eptr ve4 k 5) (ex.kids.getD k Ex.zero) _ _ (hp.ext (good_rP (good_rPr dp)) hE3) (RN.ptr (good_rEx dd4) (by decide) Ex.zero (hx4.rn.ext (good_rdS (good_rEx dd4)) hE3) sD) _hvars _hfuncs oM oM) ?_
    rintro e12 w12 ⟨rfl,hX12⟩
    refine ⟨_,rfl,hX12,?_⟩
    have hzs12:=hX12.size
    have hE12:=hE3.trans hX12
    refine q_not (!(wf p funcs (ex.kids.getD k Ex.zero) vars)) rfl rfl zN (lw_nil ?_)
    cases hb13 : (!(wf p funcs (ex.kids.getD k Ex.zero) vars))
    ·
     refine c_cond_f (by first | rfl | (show Value.bool _ = _; rw [hb13])) (wp_skip (wp_plain _ [0,0,0] rfl (lw_tv 1 rfl (q_add ((k + 1 :Nat):Int) rfl rfl (w64n oM sD) zN (lw_tvn 1 rfl ?_)))))
     exact ⟨(k + 1),_,rfl,⟨rfl,rfl,rfl,rfl,rfl,trivial⟩,⟨hE12,sD,z154_1⟩,by first | omega | (dsimp only; omega)⟩
    ·
     exact c_cond_t (by first | rfl | (show Value.bool _ = _; rw [hb13])) (wp_seq (wp_plain _ [0] rfl (lw_tvn 1 rfl (wp_ret (b_ret (t_ret (t_ret (b_ret (t_ret (post_ret [8] rfl (.bool false) rfl ⟨z154_0,hE12⟩))))))))))
  ·
   exact q_lss false rfl rfl (decide_eq_false hc5) zN (lw_nil (c_cond_f rfl (wp_exit (t_exit (t_exit (c_exit_here (wp_seq (wp_plain _ [0] rfl (lw_tvn 1 rfl (wp_ret (post_ret [8] rfl (.bool true) rfl ⟨z154_0,hE3⟩)))))))))))
 ·
  exact c_cond_t (by first | rfl | (show Value.bool _ = _; rw [hb2])) (wp_seq (wp_plain _ [0] rfl (lw_tvn 1 rfl (wp_ret (t_ret (post_ret [8] rfl (.bool false) rfl ⟨z154_0,hE1⟩))))))
theorem c_spec_l02Vars (w : World) (vars : Int) (_hvars : -9223372036854775808 ≤ vars ∧ vars ≤ 9223372036854775807)  :
  Calls Try.prog 152 #[.int .i64 vars] w (fun e w' => e = .returned (.bool (inB vars 0 412)) ∧ w' = w) := by
 refine calls_mk [.int .i64 vars] 5 Try.func152 rfl rfl sM ?_
 have hE0 : w = w := rfl
 exact wp_seq (wp_plain _ [0] rfl (lw_tvn 1 rfl (wp_seq (wp_plain _ [0,0,0] rfl (lw_tv 1 rfl (lw_callq 79 [] [] [(.int .i64 vars),(.int .i64 ((0 :Nat):Int)),(.int .i64 ((412 :Nat):Int))] rfl rfl cf79 zN (.bool (decide (((0 :Nat):Int) ≤ vars) && decide (vars ≤ ((412 :Nat):Int)))) (fun wq => c_spec_l00In wq _ _ _ _hvars oM oM) (lw_tvn 1 rfl (wp_ret (post_ret [2] rfl (.bool (decide (((0 :Nat):Int) ≤ vars) && decide (vars ≤ ((412 :Nat):Int)))) rfl ⟨rfl,hE0⟩)))))))))
theorem z143_0 {p : Prop} (h : p := by first | exact ret_bool (exB_w (by assumption)) | exact ret_bool (exB_t ⟨inB_iff.1 (by assumption), inB_e (by assumption), by omega, by omega⟩) | exact ret_bool ((by assumption : wf p funcs ex vars = true).symm.trans (exB_t ⟨inB_iff.1 (by assumption), inB_e (by assumption), by omega, by omega⟩)) | exact ret_bool (exB_f fun hh => inB_f (by assumption) hh.1) | exact ret_bool (exB_f fun hh => inB_d (by assumption) hh.2.1) | exact ret_bool (exB_f oM)) : p := h
theorem c_spec_l02Expr (w : World) (dp : Nat) (vp : Value) (p : List Fn) (dex : Nat) (ve : Value) (ex : Ex) (vars : Int) (funcs : Int) (hp : RN [] (rP (rPr dp)) w.heap vp p) (hex : RN [] (rP (rEx dex)) w.heap ve ex) (_hvars : -9223372036854775808 ≤ vars ∧ vars ≤ 9223372036854775807) (_hfuncs : -9223372036854775808 ≤ funcs ∧ funcs ≤ 9223372036854775807) (hs : ex.size ≤ 1000000000) :
  Calls Try.prog 143 #[vp,ve,.int .i64 vars,.int .i64 funcs] w (fun e w' => e = .returned (.bool (exB p ex vars funcs)) ∧ Ext w w') := by
 refine calls_mk [vp,ve,.int .i64 vars,.int .i64 funcs] 37 Try.func143 rfl rfl sM ?_
 have hE0 : Ext w w := Ext.refl w
 have hlp := lftE_pos (e := ex) (x := ((400 :Nat):Int)) oM
 refine wp_seq (wp_plain _ [0] rfl (lw_tvn 1 rfl (wp_seq (wp_plain _ [0,0,0,0,0,0,0,2,0,0,0,0,0,3,0,0,0,0,3,0,0,0,0,0,0,0,3,0,0] rfl (lw_tv 1 rfl (lw_callq 152 [] [] [(.int .i64 vars)] rfl rfl cf152 zN (.bool (inB vars 0 412)) (fun wq => c_spec_l02Vars wq _ _hvars) (lw_tv 1 rfl ?_)))))))
 cases hb2 : (inB vars 0 412)
 ·
  exact lw_tvn 26 rfl (wp_ret (post_ret [8] rfl (.bool false) rfl ⟨z143_0,hE0⟩))
 ·
  refine lw_tv 2 rfl (q_nilP (hp.isPtr) rfl (zS (e := 11) rfl rfl rfl) ?_)
  obtain ⟨cs3,hr3,hl3⟩ := RN.at (good_rPr _) hp
  obtain ⟨ve3,rfl,hx3⟩ := RPr.of hr3
  have hln3 := hx3.lenle
  unfold maxLen at hln3
  refine q_fldL (p := vp) 0 fd52_0 rfl (hl3 _ (Chg.of_ext [] hE0)) (zS (e := 11) rfl rfl rfl) (q_load (p := (padd vp 0)) (.inr rfl) ve3 one50 rfl ((hl3 _ (Chg.of_ext [] hE0)).ld (i := 0) (by simp [exC,fnC])) (zS (e := 11) rfl rfl rfl) (q_len (v := ve3) u50 rfl hx3.isSl (zS (e := 11) rfl rfl rfl) (lw_callq 79 [] [] [(.int .i64 funcs),(.int .i64 ((0 :Nat):Int)),(.int .i64 ((p.length :Nat):Int))] rfl rfl cf79 (zS (e := 11) rfl rfl rfl) (.bool (decide (((0 :Nat):Int) ≤ funcs) && decide (funcs ≤ ((p.length :Nat):Int)))) (fun wq => c_spec_l00In wq _ _ _ _hfuncs oM oM) (lw_tv 2 rfl ?_))))
  cases hb5 : (decide (((0 :Nat):Int) ≤ funcs) && decide (funcs ≤ ((p.length :Nat):Int)))
  ·
   exact lw_tvn 17 rfl (wp_ret (post_ret [8] rfl (.bool false) rfl ⟨z143_0,hE0⟩))
  ·
   refine lw_tv 1 rfl (lw_call 142 [] [] [ve,(.int .i64 ((400 :Nat):Int))] rfl rfl cf142 (zS (e := 20) rfl rfl rfl) (c_spec_l02Left _ dex ve (ex) _ (hex.ext (good_rP (good_rEx dex)) hE0) oM oM oM) ?_)
   rintro e6 w6 ⟨rfl,hX6⟩
   refine ⟨_,rfl,hX6,?_⟩
   have hzs6:=hX6.size
   have hE6:=hE0.trans hX6
   by_cases hc7 : ((0 :Nat):Int) ≤ lftE ex ((400 :Nat):Int)
   ·
    refine q_geq true rfl rfl (decide_eq_true hc7) (zS (e := 20) rfl rfl rfl) (lw_tv 3 rfl (lw_call 153 [] [] [ve] rfl rfl cf153 (zS (e := 25) rfl rfl rfl) (c_spec_l02Depth _ dex ve (ex) (hex.ext (good_rP (good_rEx dex)) hE6) oM) ?_))
    rintro e8 w8 ⟨rfl,hX8⟩
    refine ⟨_,rfl,hX8,?_⟩
    have hzs8:=hX8.size
    have hE8:=hE6.trans hX8
    by_cases hc9 : ((ex.deep :Nat):Int) ≤ ((60 :Nat):Int)
    ·
     refine q_leq true rfl rfl (decide_eq_true hc9) (zS (e := 25) rfl rfl rfl) (lw_tv 6 rfl (lw_call 154 [] [] [vp,ve,(.int .i64 vars),(.int .i64 funcs)] rfl rfl cf154 (zS (e := 30) rfl rfl rfl) (c_spec_l02Tree _ dp vp (p) dex ve (ex) _ _ (hp.ext (good_rP (good_rPr dp)) hE8) (hex.ext (good_rP (good_rEx dex)) hE8) _hvars _hfuncs (by have h1 := inB_iff.1 (by assumption : inB vars 0 412 = true); omega) (by have h2 := inB_e (by assumption : (decide (((0 :Nat):Int) ≤ funcs) && decide (funcs ≤ ((p.length :Nat):Int))) = true); omega)) ?_))
     rintro e10 w10 ⟨rfl,hX10⟩
     refine ⟨_,rfl,hX10,?_⟩
     have hzs10:=hX10.size
     have hE10:=hE8.trans hX10
     exact lw_tvn 2 rfl (wp_ret (post_ret [8] rfl (.bool (wf p funcs ex vars)) rfl ⟨z143_0,hE10⟩))
    ·
     exact q_leq false rfl rfl (decide_eq_false hc9) (zS (e := 25) rfl rfl rfl) (lw_tvn 9 rfl (wp_ret (post_ret [8] rfl (.bool false) rfl ⟨z143_0,hE8⟩)))
   ·
    exact q_geq false rfl rfl (decide_eq_false hc7) (zS (e := 20) rfl rfl rfl) (lw_tvn 14 rfl (wp_ret (post_ret [8] rfl (.bool false) rfl ⟨z143_0,hE6⟩)))
theorem nm_len {s : ByteArray} (h : ¬ (1 ≤ s.size ∧ s.size ≤ 12)) : false = nmB s := by
  cases hh : nmB s with
  | false => rfl
  | true => unfold nmB at hh; simp only [Bool.and_eq_true, decide_eq_true_eq] at hh; exact absurd hh.1 h
theorem z141_0 {p : Prop} (h : p := by first | exact ret_bool (nm_len (fun hh => inB_d (bn_t (by assumption)) ⟨by omega, by omega⟩)) | exact ret_bool (nm_bad (k := 0) oM oM) | exact ret_bool (nm_bad (k := k) oM oM) | exact ret_bool (nm_end hq oM (by rw [decide_eq_true (show 1 ≤ s.size by omega), decide_eq_true (show s.size ≤ 12 by omega)]; rfl))) : p := h
theorem z141_1 {p : Prop} (h : p := by exact allR_succ hq (ch_ok (by (by_cases h0 : k = 0; (rw [h0]; left; omega); omega)))) : p := h
theorem c_spec_IsName (w : World) (s : ByteArray)  (hl : s.size ≤ 1000000000) :
  Calls Try.prog 141 #[.string s] w (fun e w' => e = .returned (.bool (nmB s)) ∧ w' = w) := by
 refine calls_mk [.string s] 46 Try.func141 rfl rfl sM ?_
 have hE0 : w = w := rfl
 refine wp_seq (wp_plain _ [0] rfl (lw_tvn 1 rfl (wp_seq (wp_seq (wp_plain _ [0,0,0,0,0,0,0,0,0,0,0,0,0,0] rfl (lw_tv 1 rfl (q_lens (s := s) u9 rfl zN (lw_callq 79 [] [] [(.int .i64 ((s.size :Nat):Int)),(.int .i64 ((1 :Nat):Int)),(.int .i64 ((12 :Nat):Int))] rfl rfl cf79 zN (.bool (decide (((1 :Nat):Int) ≤ ((s.size :Nat):Int)) && decide (((s.size :Nat):Int) ≤ ((12 :Nat):Int)))) (fun wq => c_spec_l00In wq _ _ _ oM oM oM) (q_not (!(decide (((1 :Nat):Int) ≤ ((s.size :Nat):Int)) && decide (((s.size :Nat):Int) ≤ ((12 :Nat):Int)))) rfl rfl zN (lw_tv 1 rfl ?_))))))))))
 cases hb2 : (!(decide (((1 :Nat):Int) ≤ ((s.size :Nat):Int)) && decide (((s.size :Nat):Int) ≤ ((12 :Nat):Int))))
 ·
  refine lw_tv 1 rfl ?_
  have hsz := inB_e (bn_f (by assumption) : (decide (((1 :Nat):Int) ≤ ((s.size :Nat):Int)) && decide (((s.size :Nat):Int) ≤ ((12 :Nat):Int))) = true)
  refine q_index (s := s) 0 u9 rfl rfl rfl sD (zS (e := 8) rfl rfl rfl) ?_
  by_cases hc3 : ((sAt s 0 :Nat):Int) < 97
  ·
   exact q_lss true rfl rfl (decide_eq_true hc3) (zS (e := 8) rfl rfl rfl) (lw_tvn 6 rfl (c_cond_t rfl (wp_seq (wp_plain _ [0] rfl (lw_tvn 1 rfl (wp_ret (t_ret (post_ret [2] rfl (.bool false) rfl ⟨z141_0,hE0⟩))))))))
  ·
   refine q_lss false rfl rfl (decide_eq_false hc3) (zS (e := 8) rfl rfl rfl) (lw_tv 3 rfl (q_index (s := s) 0 u9 rfl rfl rfl sD (zS (e := 13) rfl rfl rfl) ?_))
   by_cases hc4 : 122 < ((sAt s 0 :Nat):Int)
   ·
    exact q_gtr true rfl rfl (decide_eq_true hc4) (zS (e := 13) rfl rfl rfl) (lw_tvn 1 rfl (c_cond_t rfl (wp_seq (wp_plain _ [0] rfl (lw_tvn 1 rfl (wp_ret (t_ret (post_ret [2] rfl (.bool false) rfl ⟨z141_0,hE0⟩))))))))
   ·
    refine q_gtr false rfl rfl (decide_eq_false hc4) (zS (e := 13) rfl rfl rfl) (lw_tvn 1 rfl (c_cond_f rfl (wp_skip (wp_seq (wp_seq (wp_plain _ [0] rfl (lw_tvn 1 rfl (wp_block (c_loop (S := Nat) (fun (k : Nat) => ([(3,(.int .i64 ((k :Nat):Int))),(0,(.string s))] : List (Nat × Value))) (fun (k : Nat) (W : World) => W = w ∧ k ≤ s.size ∧ (List.range k).all (chB s) = true) (fun (k : Nat) => s.size - k) 0 ⟨rfl,rfl,trivial⟩ ⟨hE0,sD,(by rfl)⟩ ?_)))))))))
    clear hE0
    rintro k ρ5 w5 ⟨hE5,hp5_0,hq⟩
    refine wp_seq (wp_seq (wp_plain _ [0,0,0,0] rfl (lw_tv 2 rfl (q_lens (s := s) u9 rfl zN ?_))))
    by_cases hc6 : ((k :Nat):Int) < ((s.size :Nat):Int)
    ·
     refine q_lss true rfl rfl (decide_eq_true hc6) zN (lw_nil (c_cond_t rfl (wp_skip (wp_seq (wp_block (wp_seq (wp_plain _ [0,0,0,0,0,0,0,0,0,0,0,0,0,0,0,0,0,0,0,0,0,0] rfl (lw_tv 2 rfl (q_index (s := s) k u9 rfl rfl rfl sD zN ?_)))))))))
     by_cases hc7 : ((sAt s k :Nat):Int) < 97
     ·
      refine q_lss true rfl rfl (decide_eq_true hc7) zN (lw_tv 9 rfl (q_index (s := s) k u9 rfl rfl rfl sD (zS (e := 34) rfl rfl rfl) ?_))
      by_cases hc8 : ((sAt s k :Nat):Int) < 48
      ·
       exact q_lss true rfl rfl (decide_eq_true hc8) (zS (e := 34) rfl rfl rfl) (lw_tvn 7 rfl (c_cond_t rfl (wp_seq (wp_plain _ [0] rfl (lw_tvn 1 rfl (wp_ret (b_ret (t_ret (t_ret (b_ret (t_ret (post_ret [2] rfl (.bool false) rfl ⟨z141_0,hE5⟩))))))))))))
      ·
       refine q_lss false rfl rfl (decide_eq_false hc8) (zS (e := 34) rfl rfl rfl) (lw_tv 3 rfl (q_index (s := s) k u9 rfl rfl rfl sD (zS (e := 39) rfl rfl rfl) ?_))
       by_cases hc9 : 57 < ((sAt s k :Nat):Int)
       ·
        exact q_gtr true rfl rfl (decide_eq_true hc9) (zS (e := 39) rfl rfl rfl) (lw_tvn 2 rfl (c_cond_t rfl (wp_seq (wp_plain _ [0] rfl (lw_tvn 1 rfl (wp_ret (b_ret (t_ret (t_ret (b_ret (t_ret (post_ret [2] rfl (.bool false) rfl ⟨z141_0,hE5⟩))))))))))))
       ·
        refine q_gtr false rfl rfl (decide_eq_false hc9) (zS (e := 39) rfl rfl rfl) (lw_tvn 2 rfl (c_cond_f rfl (wp_skip (wp_plain _ [0,0,0] rfl (lw_tv 1 rfl (q_add ((k + 1 :Nat):Int) rfl rfl (w64n oM sD) zN (lw_tvn 1 rfl ?_)))))))
        exact ⟨(k + 1),_,rfl,⟨rfl,rfl,trivial⟩,⟨hE5,sD,z141_1⟩,by first | omega | (dsimp only; omega)⟩
     ·
      refine q_lss false rfl rfl (decide_eq_false hc7) zN (lw_tv 3 rfl (q_index (s := s) k u9 rfl rfl rfl sD (zS (e := 28) rfl rfl rfl) ?_))
      by_cases hc10 : 122 < ((sAt s k :Nat):Int)
      ·
       refine q_gtr true rfl rfl (decide_eq_true hc10) (zS (e := 28) rfl rfl rfl) (lw_tv 4 rfl (q_index (s := s) k u9 rfl rfl rfl sD (zS (e := 34) rfl rfl rfl) ?_))
       by_cases hc11 : ((sAt s k :Nat):Int) < 48
       ·
        exact q_lss true rfl rfl (decide_eq_true hc11) (zS (e := 34) rfl rfl rfl) (lw_tvn 7 rfl (c_cond_t rfl (wp_seq (wp_plain _ [0] rfl (lw_tvn 1 rfl (wp_ret (b_ret (t_ret (t_ret (b_ret (t_ret (post_ret [2] rfl (.bool false) rfl ⟨z141_0,hE5⟩))))))))))))
       ·
        refine q_lss false rfl rfl (decide_eq_false hc11) (zS (e := 34) rfl rfl rfl) (lw_tv 3 rfl (q_index (s := s) k u9 rfl rfl rfl sD (zS (e := 39) rfl rfl rfl) ?_))
        by_cases hc12 : 57 < ((sAt s k :Nat):Int)
        ·
         exact q_gtr true rfl rfl (decide_eq_true hc12) (zS (e := 39) rfl rfl rfl) (lw_tvn 2 rfl (c_cond_t rfl (wp_seq (wp_plain _ [0] rfl (lw_tvn 1 rfl (wp_ret (b_ret (t_ret (t_ret (b_ret (t_ret (post_ret [2] rfl (.bool false) rfl ⟨z141_0,hE5⟩))))))))))))
        ·
         refine q_gtr false rfl rfl (decide_eq_false hc12) (zS (e := 39) rfl rfl rfl) (lw_tvn 2 rfl (c_cond_f rfl (wp_skip (wp_plain _ [0,0,0] rfl (lw_tv 1 rfl (q_add ((k + 1 :Nat):Int) rfl rfl (w64n oM sD) zN (lw_tvn 1 rfl ?_)))))))
         exact ⟨(k + 1),_,rfl,⟨rfl,rfl,trivial⟩,⟨hE5,sD,z141_1⟩,by first | omega | (dsimp only; omega)⟩
      ·
       refine q_gtr false rfl rfl (decide_eq_false hc10) (zS (e := 28) rfl rfl rfl) (lw_tvn 13 rfl (c_cond_f rfl (wp_skip (wp_plain _ [0,0,0] rfl (lw_tv 1 rfl (q_add ((k + 1 :Nat):Int) rfl rfl (w64n oM sD) zN (lw_tvn 1 rfl ?_)))))))
       exact ⟨(k + 1),_,rfl,⟨rfl,rfl,trivial⟩,⟨hE5,sD,z141_1⟩,by first | omega | (dsimp only; omega)⟩
    ·
     exact q_lss false rfl rfl (decide_eq_false hc6) zN (lw_nil (c_cond_f rfl (wp_exit (t_exit (t_exit (c_exit_here (wp_seq (wp_plain _ [0] rfl (lw_tvn 1 rfl (wp_ret (post_ret [2] rfl (.bool true) rfl ⟨z141_0,hE5⟩)))))))))))
 ·
  exact lw_tvn 9 rfl (c_cond_t rfl (wp_seq (wp_plain _ [0] rfl (lw_tvn 1 rfl (wp_ret (t_ret (post_ret [2] rfl (.bool false) rfl ⟨z141_0,hE0⟩)))))))
end Go.Proofs.Ytjnbnlniafmblaa
