/- Re: texts of this claim, joined; what the claim does not come to is left out. -/
import Derived.Test.YtlbefjfhfodnlaaDoorQB2
import Derived.Test.YtlbefjfhfodnlaaDoorRows
import Derived.Test.YtlbefjfhfodnlaaDoorCards
import Derived.Test.YtlbefjfhfodnlaaDoorTie
import Derived.Test.YtlbefjfhfodnlaaDoorProg
import Derived.OpenShut
import Derived.Deep.DeepHandedRow
import Derived.Lay
import Derived.Deep.DeepWitnessRowRef
import Derived.MakeChecks
set_option linter.unusedVariables false
set_option linter.unusedSimpArgs false
namespace Go.Proofs.YtlbefjfhfodnlaaDoor
open Go.ChangeShapes Go.WideShapes Go.ChangeAt Go.RowKit
set_option maxRecDepth 100000 in
theorem gw_of {W:World} (hL:laidMetH Tryd.prog Rows.fnInterpolateRow.laid W) (hsh:W.ShapedOpen Tryd.prog):GW W:=by
  rw [MakeChecks.laidMetH_plain _ _ _ (by kernel_rfl)] at hL
  refine ⟨laySplM.s1_3 W hsh,?_,?_,?_⟩
  · exact sent_of (by kernel_rfl) (by kernel_rfl) Tryd.underlying79 (Lib.laidMet.reads hL (n:="strconv.ErrSyntax") (.tail _ (.tail _ (.tail _ (.tail _ (.tail _ (.head _)))))))
  · exact sent_of (by kernel_rfl) (by kernel_rfl) Tryd.underlying79 (Lib.laidMet.reads hL (n:="strconv.ErrRange") (.tail _ (.tail _ (.tail _ (.tail _ (.head _))))))
  · have h:Lib.VarReads Tryd.prog W "internal/strconv.uint64pow10" (Lib.tabData .u64 Lib.pow10Tab):=Lib.laidMet.reads hL (n:="internal/strconv.uint64pow10") (.tail _ (.tail _ (.head _)))
    obtain ⟨g',t',cs,fuel,p,hg',ht',hv,hd⟩:=h
    obtain rfl:=Option.some.inj ((show Tryd.prog.globalNamed "internal/strconv.uint64pow10" = some 3 by kernel_rfl).symm.trans hg')
    obtain rfl:=Option.some.inj ((show (Tryd.prog.globals[3]?).map (·.type) = some 125 by kernel_rfl).symm.trans ht')
    unfold Lib.TabIs
    rw [hv,← Lib.cells_of_tab Tryd.underlying125 Tryd.underlying64 (by kernel_rfl) (by kernel_rfl) hd]
namespace PFnInterpolate
theorem own:ownKnob Tryd.prog.godebug = none:=by kernel_rfl
theorem laid:laidOutB Tryd.prog = true:=by kernel_rfl
theorem rec22:Tryd.prog.readableRec 22 = true∧(22:TypeId) < Tryd.prog.types.size:=⟨by kernel_rfl,of_decide_eq_true (by kernel_rfl)⟩
noncomputable def laidWorld (os:Os):World:=World.laidAll Tryd.prog os Rows.fnInterpolateRow.laid
set_option maxRecDepth 100000 in
theorem laid_met (os:Os):laidMetH Tryd.prog Rows.fnInterpolateRow.laid ((laidWorld os).forCall (fun _ _=>0) ⟨#[],#[.slice none 0 0,.slice none 0 0],[]⟩).memory:=by
  rw [MakeChecks.laidMetH_plain _ _ _ (by kernel_rfl)]
  exact laidMet_laidAll _ (by kernel_rfl) (by kernel_rfl)
theorem reads (os:Os) {H:Type} (enc:TypeId × Value→H):∃ d places,DataW.whole enc Tryd.prog ((laidWorld os).forCall (fun _ _=>0) ⟨#[],#[.slice none 0 0,.slice none 0 0],[]⟩).memory Tryd.f3.params.toList Rows.fnInterpolateSpec.vars false #[.slice none 0 0,.slice none 0 0].toList 8 = some (d,[],places):=by
  have h:(DataW.whole enc Tryd.prog ((laidWorld os).forCall (fun _ _=>0) ⟨#[],#[.slice none 0 0,.slice none 0 0],[]⟩).memory Tryd.f3.params.toList Rows.fnInterpolateSpec.vars false #[.slice none 0 0,.slice none 0 0].toList 8).map (fun x=>x.2.1.isEmpty) = some true:=by kernel_rfl
  cases hw:DataW.whole enc Tryd.prog ((laidWorld os).forCall (fun _ _=>0) ⟨#[],#[.slice none 0 0,.slice none 0 0],[]⟩).memory Tryd.f3.params.toList Rows.fnInterpolateSpec.vars false #[.slice none 0 0,.slice none 0 0].toList 8 with
  | none=>rw [hw] at h; cases h
  | some x =>
    obtain ⟨d,g,pl⟩:=x
    rw [hw] at h
    cases g with
    | nil=>exact ⟨d,pl,rfl⟩
    | cons a b=>cases h
set_option maxRecDepth 100000 in
theorem lifted (os:Os) (started:os.Started) (H:Type) (enc:TypeId × Value→H) (F:Stop.Interp) :
    ReturnsInHanded {} Tryd.checked os 3 .any ((OpenSpec.ofChange Rows.fnInterpolateSpec).preRow enc Tryd.prog Tryd.f3 Rows.fnInterpolateRow.domain false Rows.fnInterpolateRow.laid) (((OpenSpec.ofChange Rows.fnInterpolateSpec).at F).post enc Tryd.prog Tryd.f3 false true false false):=by
  obtain ⟨d,places,hx⟩:=reads os enc
  refine returnsInHanded_of_row (C:=Tryd.checked) (s:=OpenSpec.ofChange Rows.fnInterpolateSpec) own started (by kernel_rfl) Tryd.func3
    (witness_row_atRef (enc:=enc) (C:=Tryd.checked) false (laidWorld os) #[.slice none 0 0,.slice none 0 0] (World.laidAll_os _ _ _) (by kernel_rfl) (by kernel_rfl) (by kernel_rfl)
      (OpenSpec.preRow_of_cond 8 hx (by kernel_rfl) (fun k hk=>by cases hk) (by kernel_rfl) (laid_met os))) ?_
  intro W base args ds gs before hval0 hW0 _ _ _ hL hsh _
  have hval:∀ (j:Nat) t v,Tryd.f3.params[j]? = some t→args[j]? = some v→Value.okWide Tryd.prog W .any base t v:=hval0
  have hW:DataW.Whole enc Tryd.prog Tryd.f3.params.toList Rows.fnInterpolateSpec.vars false W args.toList ds gs before:=hW0
  have hW':=hW
  obtain ⟨p,q,hA0,hV,_,_,_⟩:=hW
  have hA:DataW.TrodAll enc Tryd.prog W 0 (fun _=>true) true Tryd.f3.params.toList args.toList ds p:=hA0
  rw [Tryd.params3] at hA hval
  obtain ⟨v0,v1,d0,d1,p0,p1,rfl,rfl,rfl,h0,h1⟩:=trodAll_two hA
  obtain ⟨rfl,rfl⟩:=trodVars_none hV
  obtain ⟨a0,ha0⟩:=open_rdU u22 u5 (by kernel_rfl) (okWide_slice u22 (hval 0 22 v0 rfl rfl)) h0
  obtain ⟨a1,ha1⟩:=open_rdU u22 u5 (by kernel_rfl) (okWide_slice u22 (hval 1 22 v1 rfl rfl)) h1
  refine (c_laws_FnInterpolate W v0 a0 v1 a1 ha0 ha1 (gw_of hL hsh)).mono fun e W2 ⟨he,hx⟩=>?_
  subst he
  refine ⟨_,rfl,law_post laid ?_ rfl rfl u4 hW' rfl hx⟩
  rw [Tryd.params3]
  intro t ht
  simp only [List.mem_cons,List.not_mem_nil,or_false] at ht
  rcases ht with rfl | rfl <;> first | exact rec22
end PFnInterpolate
theorem fnInterpolate_said:Rows.FnInterpolateSaid :=
  OpenClaim.holds_of_cond 3 Tryd.f3 rfl rfl rfl rfl rfl rfl rfl ⟨rfl,rfl,rfl,rfl,rfl⟩ rfl rfl rfl rfl rfl (by kernel_rfl) Tryd.func3 (by kernel_rfl)
    (of_decide_eq_true (by kernel_rfl)) (by unfold Func.isWrapper; first | (rw [if_pos (by decide +kernel)]; kernel_rfl) | (rw [if_neg (by decide +kernel)]; exact ⟨rfl,rfl⟩))
    (fun os started H enc _ F=>by rw [OpenClaim.pre_eq_preRow]; exact PFnInterpolate.lifted os started H enc F)
theorem fnInterpolate_plain (f:FuncId) (fn:Func) (hf:Tryd.pinned.checked.prog.funcNamed "loop.example/g01091/laws.FnInterpolate" = some f) (hfn:Tryd.pinned.checked.prog.funcs[f]? = some fn) :
    true = Tryd.pinned.checked.prog.looks []∧∀ (j:Nat) t,fn.params[j]? = some t→Tryd.pinned.checked.prog.wantsStandIn t = false:=by
  obtain rfl:f = 3:=Option.some.inj ((show Tryd.prog.funcNamed "loop.example/g01091/laws.FnInterpolate" = some 3 by kernel_rfl).symm.trans hf) |>.symm
  obtain rfl:fn = Tryd.f3:=(Option.some.inj (Tryd.func3.symm.trans hfn)).symm
  refine ⟨by kernel_rfl,fun j t ht=>?_⟩
  rw [Tryd.params3] at ht
  have hm:t∈[22]:=by simpa using Array.mem_of_getElem? ht
  have hall:([22].all fun u=>!Tryd.prog.wantsStandIn u) = true:=by kernel_rfl
  exact (show Tryd.prog.wantsStandIn t = false by simpa using List.all_eq_true.1 hall t hm)
theorem fnInterpolate_holds:Rows.FnInterpolateCardSaid :=
  Claim7.holds_tied_plain_at .later [] _ _ _ _ fnInterpolate_said (fun _ h=>by cases h) (by kernel_rfl) (fun _ h=>by cases h) fnInterpolate_row_tie rfl ⟨rfl,rfl⟩ (by kernel_rfl) rfl fnInterpolate_plain (by kernel_rfl)
end Go.Proofs.YtlbefjfhfodnlaaDoor
