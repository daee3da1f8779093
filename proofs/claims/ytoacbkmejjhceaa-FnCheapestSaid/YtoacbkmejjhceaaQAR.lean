/- Ra: texts of this claim, joined; what the claim does not come to is left out. -/
import Derived.Test.YtoacbkmejjhceaaQA4
import Derived.Test.YtoacbkmejjhceaaRows
import Derived.Test.YtoacbkmejjhceaaProg
set_option linter.unusedVariables false
set_option linter.unusedSimpArgs false
namespace Go.Proofs.Ytoacbkmejjhceaa
open Go.ChangeShapes Go.WideShapes Go.ChangeAt Go.RowKit
namespace PFnCheapest
theorem own:ownKnob Try.prog.godebug = none:=by kernel_rfl
theorem laid:laidOutB Try.prog = true:=by kernel_rfl
theorem rec22:Try.prog.readableRec 22 = true∧(22:TypeId) < Try.prog.types.size:=⟨by kernel_rfl,of_decide_eq_true (by kernel_rfl)⟩
set_option maxRecDepth 100000 in
theorem lifted (os:Os) (started:os.Started) (H:Type) (enc:TypeId × Value→H) :
    ReturnsInHanded {} Try.checked os 3 .any (Rows.fnCheapestSpec.pre6 enc Try.prog Try.f3 Rows.fnCheapestRow.domain false) (Rows.fnCheapestSpec.post enc Try.prog Try.f3 false true false false):=by
  refine returnsInHanded_of_change (C:=Try.checked) own started (by kernel_rfl) Try.func3
    (ChangeSpec.witness6 (enc:=enc) (C:=Try.checked) false ⟨#[],#[.slice none 0 0],[]⟩ 8 (by kernel_rfl) (by kernel_rfl) (by kernel_rfl) (by kernel_rfl)) ?_
  intro W base args ds gs before hval0 hW0 hcnd _
  have hval:∀ (j:Nat) t v,Try.f3.params[j]? = some t→args[j]? = some v→Value.okWide Try.prog W .any base t v:=hval0
  have hW:DataW.Whole enc Try.prog Try.f3.params.toList Rows.fnCheapestSpec.vars false W args.toList ds gs before:=hW0
  have hW':=hW
  obtain ⟨p,q,hA0,hV,_,_,_⟩:=hW
  have hA:DataW.TrodAll enc Try.prog W 0 (fun _=>true) true Try.f3.params.toList args.toList ds p:=hA0
  rw [Try.params3] at hA hval
  obtain ⟨v0,d0,rfl,rfl,h0⟩:=trodAll_one hA
  obtain ⟨rfl,rfl⟩:=trodVars_none hV
  obtain ⟨a0,ha0⟩:=open_rdU u22 u5 (by kernel_rfl) (okWide_slice u22 (hval 0 22 v0 rfl rfl)) h0
  refine (c_laws_FnCheapest W v0 a0 ha0).mono fun e W2 ⟨he,hx⟩=>?_
  subst he
  refine ⟨_,rfl,law_post laid ?_ rfl rfl u4 hW' rfl hx⟩
  rw [Try.params3]
  intro t ht
  simp only [List.mem_cons,List.not_mem_nil,or_false] at ht
  subst ht; exact rec22
end PFnCheapest
theorem fnCheapest_holds:Rows.FnCheapestSaid :=
  OpenClaim.holds_of_wide 3 Try.f3 rfl rfl rfl rfl rfl rfl rfl ⟨rfl,rfl,rfl,rfl,rfl⟩ rfl rfl rfl rfl rfl (by kernel_rfl) Try.func3 (by kernel_rfl)
    (of_decide_eq_true (by kernel_rfl)) (by unfold Func.isWrapper; first | (rw [if_pos (by decide +kernel)]; kernel_rfl) | (rw [if_neg (by decide +kernel)]; exact ⟨rfl,rfl⟩))
    (fun os started H enc _=>PFnCheapest.lifted os started H enc)
end Go.Proofs.Ytoacbkmejjhceaa
