/- Ra: texts of this claim, joined; what the claim does not come to is left out. -/
import Derived.Test.YtjnbnlniafmblaaQA4
import Derived.Test.YtjnbnlniafmblaaRows
import Derived.Test.YtjnbnlniafmblaaProg
set_option linter.unusedVariables false
set_option linter.unusedSimpArgs false
namespace Go.Proofs.Ytjnbnlniafmblaa
open Go.ChangeShapes Go.WideShapes Go.ChangeAt Go.RowKit
namespace PFnExactWithLoop
theorem own : ownKnob Try.prog.godebug = none := by kernel_rfl
theorem laid : laidOutB Try.prog = true := by kernel_rfl
theorem rec2 : Try.prog.readableRec 2 = true ∧ (2 : TypeId) < Try.prog.types.size := ⟨by kernel_rfl, of_decide_eq_true (by kernel_rfl)⟩
theorem rec65 : Try.prog.readableRec 65 = true ∧ (65 : TypeId) < Try.prog.types.size := ⟨by kernel_rfl, of_decide_eq_true (by kernel_rfl)⟩
set_option maxRecDepth 100000 in
theorem lifted (os : Os) (started : os.Started) (H : Type) (enc : TypeId × Value → H) :
    ReturnsInHanded {} Try.checked os 6 .any (Rows.fnExactWithLoopSpec.pre6 enc Try.prog Try.f6 Rows.fnExactWithLoopRow.domain false) (Rows.fnExactWithLoopSpec.post enc Try.prog Try.f6 false true false false) := by
  refine returnsInHanded_of_change (C := Try.checked) own started (by kernel_rfl) Try.func6
    (ChangeSpec.witness6 (enc := enc) (C := Try.checked) false ⟨#[], #[.agg #[.slice none 0 0], .int .i64 0, .int .i64 0], []⟩ 8 (by kernel_rfl) (by kernel_rfl) (by kernel_rfl) (by kernel_rfl)) ?_
  intro W base args ds gs before hval0 hW0 hcnd _
  have hval : ∀ (j : Nat) t v, Try.f6.params[j]? = some t → args[j]? = some v → Value.okWide Try.prog W .any base t v := hval0
  have hW : DataW.Whole enc Try.prog Try.f6.params.toList Rows.fnExactWithLoopSpec.vars false W args.toList ds gs before := hW0
  have hW' := hW
  obtain ⟨p, q, hA0, hV, _, _, _⟩ := hW
  have hA : DataW.TrodAll enc Try.prog W 0 (fun _ => true) true Try.f6.params.toList args.toList ds p := hA0
  rw [Try.params6] at hA hval
  obtain ⟨v0, v1, v2, d0, d1, d2, p0, p1, p2, rfl, rfl, rfl, h0, h1, h2⟩ := trodAll_three hA
  obtain ⟨rfl, rfl⟩ := trodVars_none hV
  obtain ⟨u0, dp0, a0, rfl, ha0, hn0⟩ := open_prog (by kernel_rfl) u63 (by kernel_rfl) u151 (by kernel_rfl) u2 u9 (by kernel_rfl) (by kernel_rfl) (by kernel_rfl) (by kernel_rfl) (by kernel_rfl) (by kernel_rfl) (by kernel_rfl) (hval 0 65 v0 rfl rfl) h0
  obtain ⟨a1, rfl, rfl, _, wa1⟩ := open_int u2 (hval 1 2 v1 rfl rfl) h1
  obtain ⟨a2, rfl, rfl, _, wa2⟩ := open_int u2 (hval 2 2 v2 rfl rfl) h2
  refine (c_laws_FnExactWithLoop W dp0 u0 a0 a1 a2 ha0 (wf_i64 wa1) (wf_i64 wa2) hn0).mono fun e W2 ⟨he, hx⟩ => ?_
  subst he
  refine ⟨_, rfl, law_post laid ?_ rfl rfl u4 hW' rfl hx⟩
  rw [Try.params6]
  intro t ht
  simp only [List.mem_cons, List.not_mem_nil, or_false] at ht
  rcases ht with rfl | rfl | rfl <;> first | exact rec2 | exact rec65
end PFnExactWithLoop
theorem fnExactWithLoop_holds : Rows.FnExactWithLoopSaid :=
  OpenClaim.holds_of_wide 6 Try.f6 rfl rfl rfl rfl rfl rfl rfl ⟨rfl, rfl, rfl, rfl, rfl⟩ rfl rfl rfl rfl rfl (by kernel_rfl) Try.func6 (by kernel_rfl)
    (of_decide_eq_true (by kernel_rfl)) (by unfold Func.isWrapper; first | (rw [if_pos (by decide +kernel)]; kernel_rfl) | (rw [if_neg (by decide +kernel)]; exact ⟨rfl, rfl⟩))
    (fun os started H enc _ => PFnExactWithLoop.lifted os started H enc)
end Go.Proofs.Ytjnbnlniafmblaa
