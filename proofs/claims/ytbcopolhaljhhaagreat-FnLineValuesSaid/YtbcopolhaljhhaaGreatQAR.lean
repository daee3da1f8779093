/- Ra: texts of this claim, joined; what the claim does not come to is left out. -/
import Derived.Test.YtbcopolhaljhhaaGreatQA5
import Derived.Test.YtbcopolhaljhhaaGreatRows
import Derived.Test.YtbcopolhaljhhaaGreatProg
set_option linter.unusedVariables false
set_option linter.unusedSimpArgs false
namespace Go.Proofs.YtbcopolhaljhhaaGreat
open Go Go.RowKit
section
open Go.ChangeShapes Go.WideShapes Go.ChangeAt Go.RowKit
namespace PFnLineValues
theorem own:ownKnob Tryz.prog.godebug = none:=by kernel_rfl
theorem laid:laidOutB Tryz.prog = true:=by kernel_rfl
theorem rec22:Tryz.prog.readableRec 22 = true∧(22:TypeId) < Tryz.prog.types.size:=⟨by kernel_rfl,of_decide_eq_true (by kernel_rfl)⟩
set_option maxRecDepth 100000 in
theorem lifted (os:Os) (started:os.Started) (H:Type) (enc:TypeId × Value→H) :
  ReturnsInHanded {} Tryz.checked os 3 .any (Rows.fnLineValuesSpec.pre6 enc Tryz.prog Tryz.f3 Rows.fnLineValuesRow.domain false) (Rows.fnLineValuesSpec.post enc Tryz.prog Tryz.f3 false true false false):=by
 refine returnsInHanded_of_change (C:=Tryz.checked) own started (by kernel_rfl) Tryz.func3
  (ChangeSpec.witness6 (enc:=enc) (C:=Tryz.checked) false ⟨#[],#[.slice none 0 0,.slice none 0 0],[]⟩ 8 (by kernel_rfl) (by kernel_rfl) (by kernel_rfl) (by kernel_rfl)) ?_
 intro W base args ds gs before hval0 hW0 hcnd _
 have hval:∀ (j:Nat) t v,Tryz.f3.params[j]? = some t→args[j]? = some v→Value.okWide Tryz.prog W .any base t v:=hval0
 have hW:DataW.Whole enc Tryz.prog Tryz.f3.params.toList Rows.fnLineValuesSpec.vars false W args.toList ds gs before:=hW0
 have hW':=hW
 obtain ⟨p,q,hA0,hV,_,_,_⟩:=hW
 have hA:DataW.TrodAll enc Tryz.prog W 0 (fun _=>true) true Tryz.f3.params.toList args.toList ds p:=hA0
 rw [Tryz.params3] at hA hval
 obtain ⟨v0,v1,d0,d1,p0,p1,rfl,rfl,rfl,h0,h1⟩:=trodAll_two hA
 obtain ⟨rfl,rfl⟩:=trodVars_none hV
 obtain ⟨a0,ha0⟩:=Na Qt u5 (by kernel_rfl) (okWide_slice Qt (hval 0 22 v0 rfl rfl)) h0
 obtain ⟨a1,ha1⟩:=Na Qt u5 (by kernel_rfl) (okWide_slice Qt (hval 1 22 v1 rfl rfl)) h1
 refine (HB W v0 a0 v1 a1 ha0 ha1).mono fun e W2 ⟨he,hx⟩=>?_
 subst he
 refine ⟨_,rfl,R8 laid ?_ rfl rfl u4 hW' rfl hx⟩
 rw [Tryz.params3]
 intro t ht
 simp only [List.mem_cons,List.not_mem_nil,or_false] at ht
 rcases ht with rfl | rfl <;> first | exact rec22
end PFnLineValues
theorem fnLineValues_holds:Rows.FnLineValuesSaid :=
 OpenClaim.holds_of_wide 3 Tryz.f3 rfl rfl rfl rfl rfl rfl rfl ⟨rfl,rfl,rfl,rfl,rfl⟩ rfl rfl rfl rfl rfl (by kernel_rfl) Tryz.func3 (by kernel_rfl)
  (of_decide_eq_true (by kernel_rfl)) (by unfold Func.isWrapper; first | (rw [if_pos (by decide +kernel)]; kernel_rfl) | (rw [if_neg (by decide +kernel)]; exact ⟨rfl,rfl⟩))
  (fun os started H enc _=>PFnLineValues.lifted os started H enc)
end
end Go.Proofs.YtbcopolhaljhhaaGreat
