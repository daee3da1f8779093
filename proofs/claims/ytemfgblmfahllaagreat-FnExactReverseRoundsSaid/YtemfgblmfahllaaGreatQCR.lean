/- Rc: texts of this claim, joined; what the claim does not come to is left out. -/
import Derived.Test.YtemfgblmfahllaaGreatQC6
import Derived.Test.YtemfgblmfahllaaGreatRows
import Derived.Test.YtemfgblmfahllaaGreatProg
set_option linter.unusedVariables false
set_option linter.unusedSimpArgs false
namespace Go.Proofs.YtemfgblmfahllaaGreat
open Go Go.RowKit
section
open Go.ChangeShapes Go.WideShapes Go.ChangeAt Go.RowKit
namespace PFnExactReverseRounds
theorem own:ownKnob Tryz.prog.godebug = none:=by kernel_rfl
theorem laid:laidOutB Tryz.prog = true:=by kernel_rfl
theorem rec2:Tryz.prog.readableRec 2 = true∧(2:TypeId) < Tryz.prog.types.size:=⟨by kernel_rfl,of_decide_eq_true (by kernel_rfl)⟩
theorem rec27:Tryz.prog.readableRec 27 = true∧(27:TypeId) < Tryz.prog.types.size:=⟨by kernel_rfl,of_decide_eq_true (by kernel_rfl)⟩
theorem rec58:Tryz.prog.readableRec 58 = true∧(58:TypeId) < Tryz.prog.types.size:=⟨by kernel_rfl,of_decide_eq_true (by kernel_rfl)⟩
theorem rec59:Tryz.prog.readableRec 59 = true∧(59:TypeId) < Tryz.prog.types.size:=⟨by kernel_rfl,of_decide_eq_true (by kernel_rfl)⟩
set_option maxRecDepth 100000 in
theorem lifted (os:Os) (started:os.Started) (H:Type) (enc:TypeId × Value→H) :
  ReturnsInHanded {} Tryz.checked os 5 .any (Rows.fnExactReverseRoundsSpec.pre6 enc Tryz.prog Tryz.f5 Rows.fnExactReverseRoundsRow.domain false) (Rows.fnExactReverseRoundsSpec.post enc Tryz.prog Tryz.f5 false true false false):=by
 refine returnsInHanded_of_change (C:=Tryz.checked) own started (by kernel_rfl) Tryz.func5
  (ChangeSpec.witness6 (enc:=enc) (C:=Tryz.checked) false ⟨#[],#[.agg #[.slice none 0 0],.int .i64 0,.slice none 0 0,.slice none 0 0,.slice none 0 0,.int .i64 0],[]⟩ 8 (by kernel_rfl) (by kernel_rfl) (by kernel_rfl) (by kernel_rfl)) ?_
 intro W base args ds gs before hval0 hW0 hcnd _
 have hval:∀ (j:Nat) t v,Tryz.f5.params[j]? = some t→args[j]? = some v→Value.okWide Tryz.prog W .any base t v:=hval0
 have hW:DataW.Whole enc Tryz.prog Tryz.f5.params.toList Rows.fnExactReverseRoundsSpec.vars false W args.toList ds gs before:=hW0
 have hW':=hW
 obtain ⟨p,q,hA0,hV,_,_,_⟩:=hW
 have hA:DataW.TrodAll enc Tryz.prog W 0 (fun _=>true) true Tryz.f5.params.toList args.toList ds p:=hA0
 rw [Tryz.params5] at hA hval
 obtain ⟨v0,v1,v2,v3,v4,v5,d0,d1,d2,d3,d4,d5,p0,p1,p2,p3,p4,p5,rfl,rfl,rfl,h0,h1,h2,h3,h4,h5⟩:=Rr hA
 obtain ⟨rfl,rfl⟩:=trodVars_none hV
 obtain ⟨u0,dp0,a0,rfl,ha0,hn0⟩:=Ui (by kernel_rfl) dS (by kernel_rfl) Sb (by kernel_rfl) u2 u9 (by kernel_rfl) (by kernel_rfl) (by kernel_rfl) (by kernel_rfl) (by kernel_rfl) (by kernel_rfl) (by kernel_rfl) (hval 0 58 v0 rfl rfl) h0
 obtain ⟨a1,rfl,rfl,_,wa1⟩:=open_int u2 (hval 1 2 v1 rfl rfl) h1
 obtain ⟨a2,ha2⟩:=Qd Bf u2 (by kernel_rfl) (okWide_slice Bf (hval 2 27 v2 rfl rfl)) h2
 obtain ⟨a3,ha3⟩:=Qd Bf u2 (by kernel_rfl) (okWide_slice Bf (hval 3 27 v3 rfl rfl)) h3
 obtain ⟨a4,ha4⟩:=XX (ti:=2) eN (by kernel_rfl) u2 (by kernel_rfl) (by kernel_rfl) (okWide_slice eN (hval 4 59 v4 rfl rfl)) h4
 obtain ⟨a5,rfl,rfl,_,wa5⟩:=open_int u2 (hval 5 2 v5 rfl rfl) h5
 refine (FU W dp0 u0 a0 a1 v2 a2 v3 a3 v4 a4 a5 ha0 (Jr wa1) ha2 ha3 ha4 (Jr wa5) hn0).mono fun e W2 ⟨he,hx⟩=>?_
 subst he
 refine ⟨_,rfl,Uy laid ?_ rfl rfl u4 hW' rfl hx⟩
 rw [Tryz.params5]
 intro t ht
 simp only [List.mem_cons,List.not_mem_nil,or_false] at ht
 rcases ht with rfl | rfl | rfl | rfl | rfl | rfl <;> first | exact rec2 | exact rec27 | exact rec58 | exact rec59
end PFnExactReverseRounds
theorem fnExactReverseRounds_holds:Rows.FnExactReverseRoundsSaid :=
 OpenClaim.holds_of_wide 5 Tryz.f5 rfl rfl rfl rfl rfl rfl rfl ⟨rfl,rfl,rfl,rfl,rfl⟩ rfl rfl rfl rfl rfl (by kernel_rfl) Tryz.func5 (by kernel_rfl)
  (of_decide_eq_true (by kernel_rfl)) (by unfold Func.isWrapper; first | (rw [if_pos (by decide +kernel)]; kernel_rfl) | (rw [if_neg (by decide +kernel)]; exact ⟨rfl,rfl⟩))
  (fun os started H enc _=>PFnExactReverseRounds.lifted os started H enc)
end
end Go.Proofs.YtemfgblmfahllaaGreat
