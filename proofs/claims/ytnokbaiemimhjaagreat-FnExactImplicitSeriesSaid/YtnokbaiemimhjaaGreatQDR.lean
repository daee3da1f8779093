/- Rs: texts of this claim, joined; what the claim does not come to is left out. -/
import Derived.Test.YtnokbaiemimhjaaGreatQD6
import Derived.Test.YtnokbaiemimhjaaGreatRows
import Derived.Test.YtnokbaiemimhjaaGreatProg
set_option linter.unusedVariables false
set_option linter.unusedSimpArgs false
namespace Go.Proofs.YtnokbaiemimhjaaGreat
open Go Go.RowKit
section
open Go.ChangeShapes Go.WideShapes Go.ChangeAt Go.RowKit
namespace PFnExactImplicitSeries
theorem own:ownKnob Tryz.prog.godebug = none:=by kernel_rfl
theorem laid:laidOutB Tryz.prog = true:=by kernel_rfl
theorem rec2:Tryz.prog.readableRec 2 = true∧(2:TypeId) < Tryz.prog.types.size:=⟨by kernel_rfl,of_decide_eq_true (by kernel_rfl)⟩
theorem rec27:Tryz.prog.readableRec 27 = true∧(27:TypeId) < Tryz.prog.types.size:=⟨by kernel_rfl,of_decide_eq_true (by kernel_rfl)⟩
theorem rec68:Tryz.prog.readableRec 68 = true∧(68:TypeId) < Tryz.prog.types.size:=⟨by kernel_rfl,of_decide_eq_true (by kernel_rfl)⟩
set_option maxRecDepth 100000 in
theorem lifted (os:Os) (started:os.Started) (H:Type) (enc:TypeId × Value→H) :
  ReturnsInHanded {} Tryz.checked os 8 .any (Rows.fnExactImplicitSeriesSpec.pre6 enc Tryz.prog Tryz.f8 Rows.fnExactImplicitSeriesRow.domain false) (Rows.fnExactImplicitSeriesSpec.post enc Tryz.prog Tryz.f8 false true false false):=by
 refine returnsInHanded_of_change (C:=Tryz.checked) own started (by kernel_rfl) Tryz.func8
  (ChangeSpec.witness6 (enc:=enc) (C:=Tryz.checked) false ⟨#[],#[.agg #[.slice none 0 0],.int .i64 0,.slice none 0 0,.int .i64 0],[]⟩ 8 (by kernel_rfl) (by kernel_rfl) (by kernel_rfl) (by kernel_rfl)) ?_
 intro W base args ds gs before hval0 hW0 hcnd _
 have hval:∀ (j:Nat) t v,Tryz.f8.params[j]? = some t→args[j]? = some v→Value.okWide Tryz.prog W .any base t v:=hval0
 have hW:DataW.Whole enc Tryz.prog Tryz.f8.params.toList Rows.fnExactImplicitSeriesSpec.vars false W args.toList ds gs before:=hW0
 have hW':=hW
 obtain ⟨p,q,hA0,hV,_,_,_⟩:=hW
 have hA:DataW.TrodAll enc Tryz.prog W 0 (fun _=>true) true Tryz.f8.params.toList args.toList ds p:=hA0
 rw [Tryz.params8] at hA hval
 obtain ⟨v0,v1,v2,v3,d0,d1,d2,d3,p0,p1,p2,p3,rfl,rfl,rfl,h0,h1,h2,h3⟩:=trodAll_four hA
 obtain ⟨rfl,rfl⟩:=trodVars_none hV
 obtain ⟨u0,dp0,a0,rfl,ha0,hn0⟩:=TP (by kernel_rfl) f0 (by kernel_rfl) R9 (by kernel_rfl) u2 u9 (by kernel_rfl) (by kernel_rfl) (by kernel_rfl) (by kernel_rfl) (by kernel_rfl) (by kernel_rfl) (by kernel_rfl) (hval 0 68 v0 rfl rfl) h0
 obtain ⟨a1,rfl,rfl,_,wa1⟩:=open_int u2 (hval 1 2 v1 rfl rfl) h1
 obtain ⟨a2,ha2⟩:=Uc Bh u2 (by kernel_rfl) (okWide_slice Bh (hval 2 27 v2 rfl rfl)) h2
 obtain ⟨a3,rfl,rfl,_,wa3⟩:=open_int u2 (hval 3 2 v3 rfl rfl) h3
 refine (Fx W dp0 u0 a0 a1 v2 a2 a3 ha0 (M8 wa1) ha2 (M8 wa3) hn0).mono fun e W2 ⟨he,hx⟩=>?_
 subst he
 refine ⟨_,rfl,Ud laid ?_ rfl rfl u4 hW' rfl hx⟩
 rw [Tryz.params8]
 intro t ht
 simp only [List.mem_cons,List.not_mem_nil,or_false] at ht
 rcases ht with rfl | rfl | rfl | rfl <;> first | exact rec2 | exact rec27 | exact rec68
end PFnExactImplicitSeries
theorem fnExactImplicitSeries_holds:Rows.FnExactImplicitSeriesSaid :=
 OpenClaim.holds_of_wide 8 Tryz.f8 rfl rfl rfl rfl rfl rfl rfl ⟨rfl,rfl,rfl,rfl,rfl⟩ rfl rfl rfl rfl rfl (by kernel_rfl) Tryz.func8 (by kernel_rfl)
  (of_decide_eq_true (by kernel_rfl)) (by unfold Func.isWrapper; first | (rw [if_pos (by decide +kernel)]; kernel_rfl) | (rw [if_neg (by decide +kernel)]; exact ⟨rfl,rfl⟩))
  (fun os started H enc _=>PFnExactImplicitSeries.lifted os started H enc)
end
end Go.Proofs.YtnokbaiemimhjaaGreat
