/- Ra: texts of this claim, joined; what the claim does not come to is left out. -/
import Derived.Test.YtjnbnlniafmblaaGreatQA5
import Derived.Test.YtjnbnlniafmblaaGreatRows
import Derived.Test.YtjnbnlniafmblaaGreatProg
set_option linter.unusedVariables false
set_option linter.unusedSimpArgs false
namespace Go.Proofs.YtjnbnlniafmblaaGreat
open Go Go.RowKit
section
open Go.ChangeShapes Go.WideShapes Go.ChangeAt Go.RowKit
namespace PFnExactRoundGradient
theorem own:ownKnob Tryz.prog.godebug = none:=by kernel_rfl
theorem laid:laidOutB Tryz.prog = true:=by kernel_rfl
theorem rec2:Tryz.prog.readableRec 2 = true∧(2:TypeId) < Tryz.prog.types.size:=⟨by kernel_rfl,of_decide_eq_true (by kernel_rfl)⟩
theorem rec27:Tryz.prog.readableRec 27 = true∧(27:TypeId) < Tryz.prog.types.size:=⟨by kernel_rfl,of_decide_eq_true (by kernel_rfl)⟩
theorem rec65:Tryz.prog.readableRec 65 = true∧(65:TypeId) < Tryz.prog.types.size:=⟨by kernel_rfl,of_decide_eq_true (by kernel_rfl)⟩
set_option maxRecDepth 100000 in
theorem lifted (os:Os) (started:os.Started) (H:Type) (enc:TypeId × Value→H) :
  ReturnsInHanded {} Tryz.checked os 5 .any (Rows.fnExactRoundGradientSpec.pre6 enc Tryz.prog Tryz.f5 Rows.fnExactRoundGradientRow.domain false) (Rows.fnExactRoundGradientSpec.post enc Tryz.prog Tryz.f5 false true false false):=by
 refine returnsInHanded_of_change (C:=Tryz.checked) own started (by kernel_rfl) Tryz.func5
  (ChangeSpec.witness6 (enc:=enc) (C:=Tryz.checked) false ⟨#[],#[.agg #[.slice none 0 0],.int .i64 0,.slice none 0 0,.slice none 0 0,.int .i64 0],[]⟩ 8 (by kernel_rfl) (by kernel_rfl) (by kernel_rfl) (by kernel_rfl)) ?_
 intro W base args ds gs before hval0 hW0 hcnd _
 have hval:∀ (j:Nat) t v,Tryz.f5.params[j]? = some t→args[j]? = some v→Value.okWide Tryz.prog W .any base t v:=hval0
 have hW:DataW.Whole enc Tryz.prog Tryz.f5.params.toList Rows.fnExactRoundGradientSpec.vars false W args.toList ds gs before:=hW0
 have hW':=hW
 obtain ⟨p,q,hA0,hV,_,_,_⟩:=hW
 have hA:DataW.TrodAll enc Tryz.prog W 0 (fun _=>true) true Tryz.f5.params.toList args.toList ds p:=hA0
 rw [Tryz.params5] at hA hval
 obtain ⟨v0,v1,v2,v3,v4,d0,d1,d2,d3,d4,p0,p1,p2,p3,p4,rfl,rfl,rfl,h0,h1,h2,h3,h4⟩:=Nu hA
 obtain ⟨rfl,rfl⟩:=trodVars_none hV
 obtain ⟨u0,dp0,a0,rfl,ha0,hn0⟩:=Qr (by kernel_rfl) VO (by kernel_rfl) OR (by kernel_rfl) u2 u9 (by kernel_rfl) (by kernel_rfl) (by kernel_rfl) (by kernel_rfl) (by kernel_rfl) (by kernel_rfl) (by kernel_rfl) (hval 0 65 v0 rfl rfl) h0
 obtain ⟨a1,rfl,rfl,_,wa1⟩:=open_int u2 (hval 1 2 v1 rfl rfl) h1
 obtain ⟨a2,ha2⟩:=NG Bl u2 (by kernel_rfl) (okWide_slice Bl (hval 2 27 v2 rfl rfl)) h2
 obtain ⟨a3,ha3⟩:=NG Bl u2 (by kernel_rfl) (okWide_slice Bl (hval 3 27 v3 rfl rfl)) h3
 obtain ⟨a4,rfl,rfl,_,wa4⟩:=open_int u2 (hval 4 2 v4 rfl rfl) h4
 refine (Fm W dp0 u0 a0 a1 v2 a2 v3 a3 a4 ha0 (KE wa1) ha2 ha3 (KE wa4) hn0).mono fun e W2 ⟨he,hx⟩=>?_
 subst he
 refine ⟨_,rfl,QI laid ?_ rfl rfl u4 hW' rfl hx⟩
 rw [Tryz.params5]
 intro t ht
 simp only [List.mem_cons,List.not_mem_nil,or_false] at ht
 rcases ht with rfl | rfl | rfl | rfl | rfl <;> first | exact rec2 | exact rec27 | exact rec65
end PFnExactRoundGradient
theorem fnExactRoundGradient_holds:Rows.FnExactRoundGradientSaid :=
 OpenClaim.holds_of_wide 5 Tryz.f5 rfl rfl rfl rfl rfl rfl rfl ⟨rfl,rfl,rfl,rfl,rfl⟩ rfl rfl rfl rfl rfl (by kernel_rfl) Tryz.func5 (by kernel_rfl)
  (of_decide_eq_true (by kernel_rfl)) (by unfold Func.isWrapper; first | (rw [if_pos (by decide +kernel)]; kernel_rfl) | (rw [if_neg (by decide +kernel)]; exact ⟨rfl,rfl⟩))
  (fun os started H enc _=>PFnExactRoundGradient.lifted os started H enc)
end
end Go.Proofs.YtjnbnlniafmblaaGreat
