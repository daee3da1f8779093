/- Rd: texts of this claim, joined; what the claim does not come to is left out. -/
import Derived.Test.YtlbefjfhfodnlaaGreatDoorQC4
import Derived.Test.YtlbefjfhfodnlaaGreatDoorRows
import Derived.Test.YtlbefjfhfodnlaaGreatDoorCards
import Derived.Test.YtlbefjfhfodnlaaGreatDoorTie
import Derived.Test.YtlbefjfhfodnlaaGreatDoorProg
import Derived.OpenShut
import Derived.Deep.DeepHandedRow
import Derived.Lay
import Derived.Deep.DeepWitnessRowRef
import Derived.MakeChecks
set_option linter.unusedVariables false
set_option linter.unusedSimpArgs false
namespace Go.Proofs.YtlbefjfhfodnlaaGreatDoor
open Go.ChangeShapes Go.WideShapes Go.ChangeAt Go.RowKit
set_option maxRecDepth 100000 in
theorem gw_of {W:World} (hL:laidMetH Tryz.prog Rows.fnSchedulesRow.laid W) (hsh:W.ShapedOpen Tryz.prog):GW W:=by
  rw [MakeChecks.laidMetH_plain _ _ _ (by kernel_rfl)] at hL
  refine ⟨laySplM.s1_3 W hsh,?_,?_,?_⟩
  · exact sent_of (by kernel_rfl) (by kernel_rfl) Tryz.underlying146 (Lib.laidMet.reads hL (n:="strconv.ErrSyntax") (.tail _ (.tail _ (.tail _ (.tail _ (.tail _ (.head _)))))))
  · exact sent_of (by kernel_rfl) (by kernel_rfl) Tryz.underlying146 (Lib.laidMet.reads hL (n:="strconv.ErrRange") (.tail _ (.tail _ (.tail _ (.tail _ (.head _))))))
  · have h:Lib.VarReads Tryz.prog W "internal/strconv.uint64pow10" (Lib.tabData .u64 Lib.pow10Tab):=Lib.laidMet.reads hL (n:="internal/strconv.uint64pow10") (.tail _ (.tail _ (.head _)))
    obtain ⟨g',t',cs,fuel,p,hg',ht',hv,hd⟩:=h
    obtain rfl:=Option.some.inj ((show Tryz.prog.globalNamed "internal/strconv.uint64pow10" = some 1 by kernel_rfl).symm.trans hg')
    obtain rfl:=Option.some.inj ((show (Tryz.prog.globals[1]?).map (·.type) = some 234 by kernel_rfl).symm.trans ht')
    unfold Lib.TabIs
    rw [hv,← Lib.cells_of_tab Tryz.underlying234 Tryz.underlying129 (by kernel_rfl) (by kernel_rfl) hd]
namespace PFnSchedules
theorem own:ownKnob Tryz.prog.godebug = none:=by kernel_rfl
theorem laid:laidOutB Tryz.prog = true:=by kernel_rfl
theorem rec22:Tryz.prog.readableRec 22 = true∧(22:TypeId) < Tryz.prog.types.size:=⟨by kernel_rfl,of_decide_eq_true (by kernel_rfl)⟩
noncomputable def laidWorld (os:Os):World:=World.laidAll Tryz.prog os Rows.fnSchedulesRow.laid
set_option maxRecDepth 100000 in
theorem laid_met (os:Os):laidMetH Tryz.prog Rows.fnSchedulesRow.laid ((laidWorld os).forCall (fun _ _=>0) ⟨#[],#[.slice none 0 0],[]⟩).memory:=by
  rw [MakeChecks.laidMetH_plain _ _ _ (by kernel_rfl)]
  exact laidMet_laidAll _ (by kernel_rfl) (by kernel_rfl)
theorem reads (os:Os) {H:Type} (enc:TypeId × Value→H):∃ d places,DataW.whole enc Tryz.prog ((laidWorld os).forCall (fun _ _=>0) ⟨#[],#[.slice none 0 0],[]⟩).memory Tryz.f3.params.toList Rows.fnSchedulesSpec.vars false #[.slice none 0 0].toList 8 = some (d,[],places):=by
  have h:(DataW.whole enc Tryz.prog ((laidWorld os).forCall (fun _ _=>0) ⟨#[],#[.slice none 0 0],[]⟩).memory Tryz.f3.params.toList Rows.fnSchedulesSpec.vars false #[.slice none 0 0].toList 8).map (fun x=>x.2.1.isEmpty) = some true:=by kernel_rfl
  cases hw:DataW.whole enc Tryz.prog ((laidWorld os).forCall (fun _ _=>0) ⟨#[],#[.slice none 0 0],[]⟩).memory Tryz.f3.params.toList Rows.fnSchedulesSpec.vars false #[.slice none 0 0].toList 8 with
  | none=>rw [hw] at h; cases h
  | some x =>
    obtain ⟨d,g,pl⟩:=x
    rw [hw] at h
    cases g with
    | nil=>exact ⟨d,pl,rfl⟩
    | cons a b=>cases h
set_option maxRecDepth 100000 in
theorem lifted (os:Os) (started:os.Started) (H:Type) (enc:TypeId × Value→H) (F:Stop.Interp) :
    ReturnsInHanded {} Tryz.checked os 3 .any ((OpenSpec.ofChange Rows.fnSchedulesSpec).preRow enc Tryz.prog Tryz.f3 Rows.fnSchedulesRow.domain false Rows.fnSchedulesRow.laid) (((OpenSpec.ofChange Rows.fnSchedulesSpec).at F).post enc Tryz.prog Tryz.f3 false true false false):=by
  obtain ⟨d,places,hx⟩:=reads os enc
  refine returnsInHanded_of_row (C:=Tryz.checked) (s:=OpenSpec.ofChange Rows.fnSchedulesSpec) own started (by kernel_rfl) Tryz.func3
    (witness_row_atRef (enc:=enc) (C:=Tryz.checked) false (laidWorld os) #[.slice none 0 0] (World.laidAll_os _ _ _) (by kernel_rfl) (by kernel_rfl) (by kernel_rfl)
      (OpenSpec.preRow_of_cond 8 hx (by kernel_rfl) (fun k hk=>by cases hk) (by kernel_rfl) (laid_met os))) ?_
  intro W base args ds gs before hval0 hW0 _ _ _ hL hsh _
  have hval:∀ (j:Nat) t v,Tryz.f3.params[j]? = some t→args[j]? = some v→Value.okWide Tryz.prog W .any base t v:=hval0
  have hW:DataW.Whole enc Tryz.prog Tryz.f3.params.toList Rows.fnSchedulesSpec.vars false W args.toList ds gs before:=hW0
  have hW':=hW
  obtain ⟨p,q,hA0,hV,_,_,_⟩:=hW
  have hA:DataW.TrodAll enc Tryz.prog W 0 (fun _=>true) true Tryz.f3.params.toList args.toList ds p:=hA0
  rw [Tryz.params3] at hA hval
  obtain ⟨v0,d0,rfl,rfl,h0⟩:=trodAll_one hA
  obtain ⟨rfl,rfl⟩:=trodVars_none hV
  obtain ⟨a0,ha0⟩:=open_rdU u22 u5 (by kernel_rfl) (okWide_slice u22 (hval 0 22 v0 rfl rfl)) h0
  refine (c_laws_FnSchedules W v0 a0 ha0 (gw_of hL hsh)).mono fun e W2 ⟨he,hx⟩=>?_
  subst he
  refine ⟨_,rfl,law_post laid ?_ rfl rfl u4 hW' rfl hx⟩
  rw [Tryz.params3]
  intro t ht
  simp only [List.mem_cons,List.not_mem_nil,or_false] at ht
  subst ht; exact rec22
end PFnSchedules
theorem fnSchedules_said:Rows.FnSchedulesSaid :=
  OpenClaim.holds_of_cond 3 Tryz.f3 rfl rfl rfl rfl rfl rfl rfl ⟨rfl,rfl,rfl,rfl,rfl⟩ rfl rfl rfl rfl rfl (by kernel_rfl) Tryz.func3 (by kernel_rfl)
    (of_decide_eq_true (by kernel_rfl)) (by unfold Func.isWrapper; first | (rw [if_pos (by decide +kernel)]; kernel_rfl) | (rw [if_neg (by decide +kernel)]; exact ⟨rfl,rfl⟩))
    (fun os started H enc _ F=>by rw [OpenClaim.pre_eq_preRow]; exact PFnSchedules.lifted os started H enc F)
theorem fnSchedules_plain (f:FuncId) (fn:Func) (hf:Tryz.pinned.checked.prog.funcNamed "loop.example/g01091/laws.FnSchedules" = some f) (hfn:Tryz.pinned.checked.prog.funcs[f]? = some fn) :
    true = Tryz.pinned.checked.prog.looks []∧∀ (j:Nat) t,fn.params[j]? = some t→Tryz.pinned.checked.prog.wantsStandIn t = false:=by
  obtain rfl:f = 3:=Option.some.inj ((show Tryz.prog.funcNamed "loop.example/g01091/laws.FnSchedules" = some 3 by kernel_rfl).symm.trans hf) |>.symm
  obtain rfl:fn = Tryz.f3:=(Option.some.inj (Tryz.func3.symm.trans hfn)).symm
  refine ⟨by kernel_rfl,fun j t ht=>?_⟩
  rw [Tryz.params3] at ht
  have hm:t∈[22]:=by simpa using Array.mem_of_getElem? ht
  have hall:([22].all fun u=>!Tryz.prog.wantsStandIn u) = true:=by kernel_rfl
  exact (show Tryz.prog.wantsStandIn t = false by simpa using List.all_eq_true.1 hall t hm)
theorem fnSchedules_holds:Rows.FnSchedulesCardSaid :=
  Claim7.holds_tied_plain_at .later [] _ _ _ _ fnSchedules_said (fun _ h=>by cases h) (by kernel_rfl) (fun _ h=>by cases h) fnSchedules_row_tie rfl ⟨rfl,rfl⟩ (by kernel_rfl) rfl fnSchedules_plain (by kernel_rfl)
end Go.Proofs.YtlbefjfhfodnlaaGreatDoor
