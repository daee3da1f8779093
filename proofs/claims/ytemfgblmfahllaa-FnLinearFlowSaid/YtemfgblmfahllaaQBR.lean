/- Rb: texts of this claim, joined; what the claim does not come to is left out. -/
import Derived.Test.YtemfgblmfahllaaQB4
import Derived.Test.YtemfgblmfahllaaRows
import Derived.Test.YtemfgblmfahllaaProg
set_option linter.unusedVariables false
set_option linter.unusedSimpArgs false
namespace Go.Proofs.Ytemfgblmfahllaa
open Go.ChangeShapes Go.WideShapes Go.ChangeAt Go.RowKit
namespace PFnLinearFlow
theorem own:ownKnob Try.prog.godebug = none:=by kernel_rfl
theorem laid:laidOutB Try.prog = true:=by kernel_rfl
theorem rec22:Try.prog.readableRec 22 = true∧(22:TypeId) < Try.prog.types.size:=⟨by kernel_rfl,of_decide_eq_true (by kernel_rfl)⟩
set_option maxRecDepth 100000 in
theorem lifted (os:Os) (started:os.Started) (H:Type) (enc:TypeId × Value→H) :
    ReturnsInHanded {} Try.checked os 4 .any (Rows.fnLinearFlowSpec.pre6 enc Try.prog Try.f4 Rows.fnLinearFlowRow.domain false) (Rows.fnLinearFlowSpec.post enc Try.prog Try.f4 false true false false):=by
  refine returnsInHanded_of_change (C:=Try.checked) own started (by kernel_rfl) Try.func4
    (ChangeSpec.witness6 (enc:=enc) (C:=Try.checked) false ⟨#[],#[.slice none 0 0,.slice none 0 0],[]⟩ 8 (by kernel_rfl) (by kernel_rfl) (by kernel_rfl) (by kernel_rfl)) ?_
  intro W base args ds gs before hval0 hW0 hcnd _
  have hval:∀ (j:Nat) t v,Try.f4.params[j]? = some t→args[j]? = some v→Value.okWide Try.prog W .any base t v:=hval0
  have hW:DataW.Whole enc Try.prog Try.f4.params.toList Rows.fnLinearFlowSpec.vars false W args.toList ds gs before:=hW0
  have hW':=hW
  obtain ⟨p,q,hA0,hV,_,_,_⟩:=hW
  have hA:DataW.TrodAll enc Try.prog W 0 (fun _=>true) true Try.f4.params.toList args.toList ds p:=hA0
  rw [Try.params4] at hA hval
  obtain ⟨v0,v1,d0,d1,p0,p1,rfl,rfl,rfl,h0,h1⟩:=trodAll_two hA
  obtain ⟨rfl,rfl⟩:=trodVars_none hV
  obtain ⟨a0,ha0⟩:=open_rdU u22 u5 (by kernel_rfl) (okWide_slice u22 (hval 0 22 v0 rfl rfl)) h0
  obtain ⟨a1,ha1⟩:=open_rdU u22 u5 (by kernel_rfl) (okWide_slice u22 (hval 1 22 v1 rfl rfl)) h1
  refine (c_laws_FnLinearFlow W v0 a0 v1 a1 ha0 ha1).mono fun e W2 ⟨he,hx⟩=>?_
  subst he
  refine ⟨_,rfl,law_post laid ?_ rfl rfl u4 hW' rfl hx⟩
  rw [Try.params4]
  intro t ht
  simp only [List.mem_cons,List.not_mem_nil,or_false] at ht
  rcases ht with rfl | rfl <;> first | exact rec22
end PFnLinearFlow
theorem fnLinearFlow_holds:Rows.FnLinearFlowSaid :=
  OpenClaim.holds_of_wide 4 Try.f4 rfl rfl rfl rfl rfl rfl rfl ⟨rfl,rfl,rfl,rfl,rfl⟩ rfl rfl rfl rfl rfl (by kernel_rfl) Try.func4 (by kernel_rfl)
    (of_decide_eq_true (by kernel_rfl)) (by unfold Func.isWrapper; first | (rw [if_pos (by decide +kernel)]; kernel_rfl) | (rw [if_neg (by decide +kernel)]; exact ⟨rfl,rfl⟩))
    (fun os started H enc _=>PFnLinearFlow.lifted os started H enc)
end Go.Proofs.Ytemfgblmfahllaa
