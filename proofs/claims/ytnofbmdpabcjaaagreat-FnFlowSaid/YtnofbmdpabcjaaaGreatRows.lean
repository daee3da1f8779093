/-
  NARROWER THAN 'FOR EVERY INPUT', by the rows' own cells (each row's printed sentence says how): FnExactRoundStates: loops · FnExactCheckFlow: loops · FnExactPicardStep: loops · FnExactObservableAlong: loops · FnExactFlowOf: loops.
  DERIVED. THE GIVEN ROWS OF THIS SEAT. 6 by the template 'for every input the law returns true; each argument reads behind the call as it read before'; 0 by the template 'total and deterministic' (their statements: YtnofbmdpabcjaaaGreatTotals.lean).
  GIVEN WITH THE SEED: the statements are not yours to turn. If you find one false, say at which input.
  Laid BY PROGRAM, IN A SANDBOX (cutbox-rows.mjs): the forced cells as the released guide's own fill.sh prints them over the translation 6aaf2e0fe8cfac28… (all of the seat's roots in one cut). By AI agents, Wed Nov 11 2026. No macro, syntax, notation, axiom, sorry.
-/
import Derived.Test.YtnofbmdpabcjaaaGreatChecked
import GoSem.Claim
import GoSem.ClaimJoined
import GoSem.ClaimMapViews
import Derived.JoinedTies
import Derived.KernelRfl
namespace Go.Proofs.YtnofbmdpabcjaaaGreat
/- THE CELL 'sum', in the pinned program and in every row, IS THE sha256 OF THE DUMP (.gsa) THAT YtnofbmdpabcjaaaGreatProg.lean LOADS. Nothing in Lean hashes anything: it is a label: what it is worth is what the hold of that sum in a sandbox is worth. -/
noncomputable def Tryz.pinned : Pinned := { name := "ytnofbmdpabcjaaagreat", sum := "6aaf2e0fe8cfac285fe902d2b92355a16fca9167509b1da61b52dd5f58b6aba5", checked := Tryz.checked }
namespace Rows
def none {H : Type} : Left H := { results := [], args := [] }

/-- 'laws.FnExactRoundStates': WHATEVER THE INPUT: true; the input reads as it did. -/
def fnExactRoundStatesSpec : ChangeSpec := { name := "fnExactRoundStates", fn := fun _ => fun
  | [d1, d2, d3, d4] => { results := [.lit (.bool true)], args := [d1, d2, d3, d4] }
  | _ => none }
def fnExactRoundStatesRow : OpenClaim := { program := "ytnofbmdpabcjaaagreat", sum := "6aaf2e0fe8cfac285fe902d2b92355a16fca9167509b1da61b52dd5f58b6aba5", func := "loop.example/g01091/laws.FnExactRoundStates", spec := "fnExactRoundStates", unfollowed := true, recurses := true, loops := true, apart := false }
def FnExactRoundStatesSaid : Prop := fnExactRoundStatesRow.holds Tryz.pinned (OpenSpec.ofChange fnExactRoundStatesSpec)

/-- ITS FALSE NEIGHBOUR: 'it returns false'. Refute it at one input. -/
def fnExactRoundStatesWrong : ChangeSpec := { name := "fnExactRoundStates", fn := fun _ => fun
  | [d1, d2, d3, d4] => { results := [.lit (.bool false)], args := [d1, d2, d3, d4] }
  | _ => none }
def FnExactRoundStatesWrongFalsely : Prop := fnExactRoundStatesRow.holds Tryz.pinned (OpenSpec.ofChange fnExactRoundStatesWrong)

/-- 'laws.FnExactCheckFlow': WHATEVER THE INPUT: true; the input reads as it did. -/
def fnExactCheckFlowSpec : ChangeSpec := { name := "fnExactCheckFlow", fn := fun _ => fun
  | [d1, d2, d3] => { results := [.lit (.bool true)], args := [d1, d2, d3] }
  | _ => none }
def fnExactCheckFlowRow : OpenClaim := { program := "ytnofbmdpabcjaaagreat", sum := "6aaf2e0fe8cfac285fe902d2b92355a16fca9167509b1da61b52dd5f58b6aba5", func := "loop.example/g01091/laws.FnExactCheckFlow", spec := "fnExactCheckFlow", unfollowed := true, recurses := true, loops := true, apart := false }
def FnExactCheckFlowSaid : Prop := fnExactCheckFlowRow.holds Tryz.pinned (OpenSpec.ofChange fnExactCheckFlowSpec)

/-- ITS FALSE NEIGHBOUR: 'it returns false'. Refute it at one input. -/
def fnExactCheckFlowWrong : ChangeSpec := { name := "fnExactCheckFlow", fn := fun _ => fun
  | [d1, d2, d3] => { results := [.lit (.bool false)], args := [d1, d2, d3] }
  | _ => none }
def FnExactCheckFlowWrongFalsely : Prop := fnExactCheckFlowRow.holds Tryz.pinned (OpenSpec.ofChange fnExactCheckFlowWrong)

/-- 'laws.FnExactPicardStep': WHATEVER THE INPUT: true; the input reads as it did. -/
def fnExactPicardStepSpec : ChangeSpec := { name := "fnExactPicardStep", fn := fun _ => fun
  | [d1, d2, d3] => { results := [.lit (.bool true)], args := [d1, d2, d3] }
  | _ => none }
def fnExactPicardStepRow : OpenClaim := { program := "ytnofbmdpabcjaaagreat", sum := "6aaf2e0fe8cfac285fe902d2b92355a16fca9167509b1da61b52dd5f58b6aba5", func := "loop.example/g01091/laws.FnExactPicardStep", spec := "fnExactPicardStep", unfollowed := true, recurses := true, loops := true, apart := false }
def FnExactPicardStepSaid : Prop := fnExactPicardStepRow.holds Tryz.pinned (OpenSpec.ofChange fnExactPicardStepSpec)

/-- ITS FALSE NEIGHBOUR: 'it returns false'. Refute it at one input. -/
def fnExactPicardStepWrong : ChangeSpec := { name := "fnExactPicardStep", fn := fun _ => fun
  | [d1, d2, d3] => { results := [.lit (.bool false)], args := [d1, d2, d3] }
  | _ => none }
def FnExactPicardStepWrongFalsely : Prop := fnExactPicardStepRow.holds Tryz.pinned (OpenSpec.ofChange fnExactPicardStepWrong)

/-- 'laws.FnExactObservableAlong': WHATEVER THE INPUT: true; the input reads as it did. -/
def fnExactObservableAlongSpec : ChangeSpec := { name := "fnExactObservableAlong", fn := fun _ => fun
  | [d1, d2, d3, d4, d5, d6] => { results := [.lit (.bool true)], args := [d1, d2, d3, d4, d5, d6] }
  | _ => none }
def fnExactObservableAlongRow : OpenClaim := { program := "ytnofbmdpabcjaaagreat", sum := "6aaf2e0fe8cfac285fe902d2b92355a16fca9167509b1da61b52dd5f58b6aba5", func := "loop.example/g01091/laws.FnExactObservableAlong", spec := "fnExactObservableAlong", unfollowed := true, recurses := true, loops := true, apart := false }
def FnExactObservableAlongSaid : Prop := fnExactObservableAlongRow.holds Tryz.pinned (OpenSpec.ofChange fnExactObservableAlongSpec)

/-- ITS FALSE NEIGHBOUR: 'it returns false'. Refute it at one input. -/
def fnExactObservableAlongWrong : ChangeSpec := { name := "fnExactObservableAlong", fn := fun _ => fun
  | [d1, d2, d3, d4, d5, d6] => { results := [.lit (.bool false)], args := [d1, d2, d3, d4, d5, d6] }
  | _ => none }
def FnExactObservableAlongWrongFalsely : Prop := fnExactObservableAlongRow.holds Tryz.pinned (OpenSpec.ofChange fnExactObservableAlongWrong)

/-- 'laws.FnExactFlowOf': WHATEVER THE INPUT: true; the input reads as it did. -/
def fnExactFlowOfSpec : ChangeSpec := { name := "fnExactFlowOf", fn := fun _ => fun
  | [d1, d2, d3, d4] => { results := [.lit (.bool true)], args := [d1, d2, d3, d4] }
  | _ => none }
def fnExactFlowOfRow : OpenClaim := { program := "ytnofbmdpabcjaaagreat", sum := "6aaf2e0fe8cfac285fe902d2b92355a16fca9167509b1da61b52dd5f58b6aba5", func := "loop.example/g01091/laws.FnExactFlowOf", spec := "fnExactFlowOf", unfollowed := true, recurses := true, loops := true, apart := false }
def FnExactFlowOfSaid : Prop := fnExactFlowOfRow.holds Tryz.pinned (OpenSpec.ofChange fnExactFlowOfSpec)

/-- ITS FALSE NEIGHBOUR: 'it returns false'. Refute it at one input. -/
def fnExactFlowOfWrong : ChangeSpec := { name := "fnExactFlowOf", fn := fun _ => fun
  | [d1, d2, d3, d4] => { results := [.lit (.bool false)], args := [d1, d2, d3, d4] }
  | _ => none }
def FnExactFlowOfWrongFalsely : Prop := fnExactFlowOfRow.holds Tryz.pinned (OpenSpec.ofChange fnExactFlowOfWrong)

/-- 'laws.FnFlow': WHATEVER THE INPUT: true; the input reads as it did. -/
def fnFlowSpec : ChangeSpec := { name := "fnFlow", fn := fun _ => fun
  | [d1, d2] => { results := [.lit (.bool true)], args := [d1, d2] }
  | _ => none }
def fnFlowRow : OpenClaim := { program := "ytnofbmdpabcjaaagreat", sum := "6aaf2e0fe8cfac285fe902d2b92355a16fca9167509b1da61b52dd5f58b6aba5", func := "loop.example/g01091/laws.FnFlow", spec := "fnFlow", unfollowed := true, recurses := true, apart := false }
def FnFlowSaid : Prop := fnFlowRow.holds Tryz.pinned (OpenSpec.ofChange fnFlowSpec)

/-- ITS FALSE NEIGHBOUR: 'it returns false'. Refute it at one input. -/
def fnFlowWrong : ChangeSpec := { name := "fnFlow", fn := fun _ => fun
  | [d1, d2] => { results := [.lit (.bool false)], args := [d1, d2] }
  | _ => none }
def FnFlowWrongFalsely : Prop := fnFlowRow.holds Tryz.pinned (OpenSpec.ofChange fnFlowWrong)

/- THE SECOND FORM. 'bulk': how many values and letters a reading holds, each counted each time it is reached (what is shared counts as often as it is met; a slice's spare places count too). A statement '..UptoSaid' is the law's where the arguments, and the package variables that the reading takes, are together of bulk at most 1048576: NARROWER than '..Said'. Prove '..Said' where nothing that the law and all that it calls make is longer than what came in: it says more and counts as full. Else prove '..UptoSaid'. A law counts once. -/
mutual
def uptoBulk {H : Type} : DataW H → Nat
  | .lit (.string bytes) => bytes.length + 1
  | .lit _ => 1
  | .nil => 1
  | .ptr d => uptoBulk d + 1
  | .slice elems spare => uptoBulkAll elems + uptoBulkAll spare + 1
  | .agg parts => uptoBulkAll parts + 1
  | .iface _ d => uptoBulk d + 1
  | .map entries => uptoBulkEntries entries + 1
  | .held _ => 1
def uptoBulkAll {H : Type} : List (DataW H) → Nat
  | [] => 0
  | d :: r => uptoBulk d + uptoBulkAll r
def uptoBulkEntries {H : Type} : List (Lit × DataW H) → Nat
  | [] => 0
  | x :: r => uptoBulkEntry x + uptoBulkEntries r
def uptoBulkEntry {H : Type} : Lit × DataW H → Nat
  | (.string bytes, d) => bytes.length + uptoBulk d + 1
  | (_, d) => uptoBulk d + 1
 end
def uptoSmall : (H : Type) → List (DataW H) → Bool := fun _ ds => decide (uptoBulkAll ds ≤ 1048576)
def OpenSpec.upto (s : _root_.Go.ChangeSpec) : _root_.Go.OpenSpec := { _root_.Go.OpenSpec.ofChange s with cond := some uptoSmall }

/-- 'laws.FnExactRoundStates', WHERE WHAT IT READS IS OF BULK AT MOST 1048576: true; the input reads as it did. -/
def fnExactRoundStatesUptoRow : OpenClaim := { program := "ytnofbmdpabcjaaagreat", sum := "6aaf2e0fe8cfac285fe902d2b92355a16fca9167509b1da61b52dd5f58b6aba5", func := "loop.example/g01091/laws.FnExactRoundStates", spec := "fnExactRoundStates", unfollowed := true, recurses := true, loops := true, apart := false, narrowed := true }
def FnExactRoundStatesUptoSaid : Prop := fnExactRoundStatesUptoRow.holds Tryz.pinned (OpenSpec.upto fnExactRoundStatesSpec)

/-- 'laws.FnExactCheckFlow', WHERE WHAT IT READS IS OF BULK AT MOST 1048576: true; the input reads as it did. -/
def fnExactCheckFlowUptoRow : OpenClaim := { program := "ytnofbmdpabcjaaagreat", sum := "6aaf2e0fe8cfac285fe902d2b92355a16fca9167509b1da61b52dd5f58b6aba5", func := "loop.example/g01091/laws.FnExactCheckFlow", spec := "fnExactCheckFlow", unfollowed := true, recurses := true, loops := true, apart := false, narrowed := true }
def FnExactCheckFlowUptoSaid : Prop := fnExactCheckFlowUptoRow.holds Tryz.pinned (OpenSpec.upto fnExactCheckFlowSpec)

/-- 'laws.FnExactPicardStep', WHERE WHAT IT READS IS OF BULK AT MOST 1048576: true; the input reads as it did. -/
def fnExactPicardStepUptoRow : OpenClaim := { program := "ytnofbmdpabcjaaagreat", sum := "6aaf2e0fe8cfac285fe902d2b92355a16fca9167509b1da61b52dd5f58b6aba5", func := "loop.example/g01091/laws.FnExactPicardStep", spec := "fnExactPicardStep", unfollowed := true, recurses := true, loops := true, apart := false, narrowed := true }
def FnExactPicardStepUptoSaid : Prop := fnExactPicardStepUptoRow.holds Tryz.pinned (OpenSpec.upto fnExactPicardStepSpec)

/-- 'laws.FnExactObservableAlong', WHERE WHAT IT READS IS OF BULK AT MOST 1048576: true; the input reads as it did. -/
def fnExactObservableAlongUptoRow : OpenClaim := { program := "ytnofbmdpabcjaaagreat", sum := "6aaf2e0fe8cfac285fe902d2b92355a16fca9167509b1da61b52dd5f58b6aba5", func := "loop.example/g01091/laws.FnExactObservableAlong", spec := "fnExactObservableAlong", unfollowed := true, recurses := true, loops := true, apart := false, narrowed := true }
def FnExactObservableAlongUptoSaid : Prop := fnExactObservableAlongUptoRow.holds Tryz.pinned (OpenSpec.upto fnExactObservableAlongSpec)

/-- 'laws.FnExactFlowOf', WHERE WHAT IT READS IS OF BULK AT MOST 1048576: true; the input reads as it did. -/
def fnExactFlowOfUptoRow : OpenClaim := { program := "ytnofbmdpabcjaaagreat", sum := "6aaf2e0fe8cfac285fe902d2b92355a16fca9167509b1da61b52dd5f58b6aba5", func := "loop.example/g01091/laws.FnExactFlowOf", spec := "fnExactFlowOf", unfollowed := true, recurses := true, loops := true, apart := false, narrowed := true }
def FnExactFlowOfUptoSaid : Prop := fnExactFlowOfUptoRow.holds Tryz.pinned (OpenSpec.upto fnExactFlowOfSpec)

/-- 'laws.FnFlow', WHERE WHAT IT READS IS OF BULK AT MOST 1048576: true; the input reads as it did. -/
def fnFlowUptoRow : OpenClaim := { program := "ytnofbmdpabcjaaagreat", sum := "6aaf2e0fe8cfac285fe902d2b92355a16fca9167509b1da61b52dd5f58b6aba5", func := "loop.example/g01091/laws.FnFlow", spec := "fnFlow", unfollowed := true, recurses := true, apart := false, narrowed := true }
def FnFlowUptoSaid : Prop := fnFlowUptoRow.holds Tryz.pinned (OpenSpec.upto fnFlowSpec)

end Rows
end Go.Proofs.YtnofbmdpabcjaaaGreat
