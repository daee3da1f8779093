/-
  No cell of these rows narrows 'for every input' (looked for: loops, veiled, ifaces, maps, wideKeys, modest, calm, conditions, laid).
  DERIVED. THE GIVEN ROWS OF THIS SEAT. 8 by the template 'for every input the law returns true; each argument reads behind the call as it read before'; 0 by the template 'total and deterministic' (their statements: YtjgnlnlngcjfcaaTotals.lean).
  GIVEN WITH THE SEED: the statements are not yours to turn. If you find one false, say at which input.
  Laid BY PROGRAM, IN A SANDBOX (cutbox-rows.mjs): the forced cells as the released guide's own fill.sh prints them over the translation e1ac7fc053f73735… (all of the seat's roots in one cut). By AI agents, Wed Nov 11 2026. No macro, syntax, notation, axiom, sorry.
-/
import Derived.Test.YtjgnlnlngcjfcaaChecked
import GoSem.Claim
import GoSem.ClaimJoined
import GoSem.ClaimMapViews
import Derived.JoinedTies
import Derived.KernelRfl
namespace Go.Proofs.Ytjgnlnlngcjfcaa
/- THE CELL 'sum', in the pinned program and in every row, IS THE sha256 OF THE DUMP (.gsa) THAT YtjgnlnlngcjfcaaProg.lean LOADS. Nothing in Lean hashes anything: it is a label: what it is worth is what the hold of that sum in a sandbox is worth. -/
noncomputable def Try.pinned : Pinned := { name := "ytjgnlnlngcjfcaa", sum := "e1ac7fc053f737352fefeebe97849831ab75c491df0f9638b9ba5ebd79a56c4a", checked := Try.checked }
namespace Rows
def none {H : Type} : Left H := { results := [], args := [] }

/-- 'laws.FnExactDeterminantOf': WHATEVER THE INPUT: true; the input reads as it did. -/
def fnExactDeterminantOfSpec : ChangeSpec := { name := "fnExactDeterminantOf", fn := fun _ => fun
  | [d] => { results := [.lit (.bool true)], args := [d] }
  | _ => none }
def fnExactDeterminantOfRow : OpenClaim := { program := "ytjgnlnlngcjfcaa", sum := "e1ac7fc053f737352fefeebe97849831ab75c491df0f9638b9ba5ebd79a56c4a", func := "loop.example/g01091/laws.FnExactDeterminantOf", spec := "fnExactDeterminantOf", unfollowed := true, recurses := true, apart := false }
def FnExactDeterminantOfSaid : Prop := fnExactDeterminantOfRow.holds Try.pinned (OpenSpec.ofChange fnExactDeterminantOfSpec)

/-- ITS FALSE NEIGHBOUR: 'it returns false'. Refute it at one input. -/
def fnExactDeterminantOfWrong : ChangeSpec := { name := "fnExactDeterminantOf", fn := fun _ => fun
  | [d] => { results := [.lit (.bool false)], args := [d] }
  | _ => none }
def FnExactDeterminantOfWrongFalsely : Prop := fnExactDeterminantOfRow.holds Try.pinned (OpenSpec.ofChange fnExactDeterminantOfWrong)

/-- 'laws.FnExactLinearFlow': WHATEVER THE INPUT: true; the input reads as it did. -/
def fnExactLinearFlowSpec : ChangeSpec := { name := "fnExactLinearFlow", fn := fun _ => fun
  | [d1, d2, d3] => { results := [.lit (.bool true)], args := [d1, d2, d3] }
  | _ => none }
def fnExactLinearFlowRow : OpenClaim := { program := "ytjgnlnlngcjfcaa", sum := "e1ac7fc053f737352fefeebe97849831ab75c491df0f9638b9ba5ebd79a56c4a", func := "loop.example/g01091/laws.FnExactLinearFlow", spec := "fnExactLinearFlow", unfollowed := true, recurses := true, apart := false }
def FnExactLinearFlowSaid : Prop := fnExactLinearFlowRow.holds Try.pinned (OpenSpec.ofChange fnExactLinearFlowSpec)

/-- ITS FALSE NEIGHBOUR: 'it returns false'. Refute it at one input. -/
def fnExactLinearFlowWrong : ChangeSpec := { name := "fnExactLinearFlow", fn := fun _ => fun
  | [d1, d2, d3] => { results := [.lit (.bool false)], args := [d1, d2, d3] }
  | _ => none }
def FnExactLinearFlowWrongFalsely : Prop := fnExactLinearFlowRow.holds Try.pinned (OpenSpec.ofChange fnExactLinearFlowWrong)

/-- 'laws.FnExactSolveLinear': WHATEVER THE INPUT: true; the input reads as it did. -/
def fnExactSolveLinearSpec : ChangeSpec := { name := "fnExactSolveLinear", fn := fun _ => fun
  | [d1, d2] => { results := [.lit (.bool true)], args := [d1, d2] }
  | _ => none }
def fnExactSolveLinearRow : OpenClaim := { program := "ytjgnlnlngcjfcaa", sum := "e1ac7fc053f737352fefeebe97849831ab75c491df0f9638b9ba5ebd79a56c4a", func := "loop.example/g01091/laws.FnExactSolveLinear", spec := "fnExactSolveLinear", unfollowed := true, recurses := true, apart := false }
def FnExactSolveLinearSaid : Prop := fnExactSolveLinearRow.holds Try.pinned (OpenSpec.ofChange fnExactSolveLinearSpec)

/-- ITS FALSE NEIGHBOUR: 'it returns false'. Refute it at one input. -/
def fnExactSolveLinearWrong : ChangeSpec := { name := "fnExactSolveLinear", fn := fun _ => fun
  | [d1, d2] => { results := [.lit (.bool false)], args := [d1, d2] }
  | _ => none }
def FnExactSolveLinearWrongFalsely : Prop := fnExactSolveLinearRow.holds Try.pinned (OpenSpec.ofChange fnExactSolveLinearWrong)

/-- 'laws.FnExactInverseMatrix': WHATEVER THE INPUT: true; the input reads as it did. -/
def fnExactInverseMatrixSpec : ChangeSpec := { name := "fnExactInverseMatrix", fn := fun _ => fun
  | [d] => { results := [.lit (.bool true)], args := [d] }
  | _ => none }
def fnExactInverseMatrixRow : OpenClaim := { program := "ytjgnlnlngcjfcaa", sum := "e1ac7fc053f737352fefeebe97849831ab75c491df0f9638b9ba5ebd79a56c4a", func := "loop.example/g01091/laws.FnExactInverseMatrix", spec := "fnExactInverseMatrix", unfollowed := true, recurses := true, apart := false }
def FnExactInverseMatrixSaid : Prop := fnExactInverseMatrixRow.holds Try.pinned (OpenSpec.ofChange fnExactInverseMatrixSpec)

/-- ITS FALSE NEIGHBOUR: 'it returns false'. Refute it at one input. -/
def fnExactInverseMatrixWrong : ChangeSpec := { name := "fnExactInverseMatrix", fn := fun _ => fun
  | [d] => { results := [.lit (.bool false)], args := [d] }
  | _ => none }
def FnExactInverseMatrixWrongFalsely : Prop := fnExactInverseMatrixRow.holds Try.pinned (OpenSpec.ofChange fnExactInverseMatrixWrong)

/-- 'laws.FnSeriesSystem': WHATEVER THE INPUT: true; the input reads as it did. -/
def fnSeriesSystemSpec : ChangeSpec := { name := "fnSeriesSystem", fn := fun _ => fun
  | [d1, d2] => { results := [.lit (.bool true)], args := [d1, d2] }
  | _ => none }
def fnSeriesSystemRow : OpenClaim := { program := "ytjgnlnlngcjfcaa", sum := "e1ac7fc053f737352fefeebe97849831ab75c491df0f9638b9ba5ebd79a56c4a", func := "loop.example/g01091/laws.FnSeriesSystem", spec := "fnSeriesSystem", unfollowed := true, recurses := true, apart := false }
def FnSeriesSystemSaid : Prop := fnSeriesSystemRow.holds Try.pinned (OpenSpec.ofChange fnSeriesSystemSpec)

/-- ITS FALSE NEIGHBOUR: 'it returns false'. Refute it at one input. -/
def fnSeriesSystemWrong : ChangeSpec := { name := "fnSeriesSystem", fn := fun _ => fun
  | [d1, d2] => { results := [.lit (.bool false)], args := [d1, d2] }
  | _ => none }
def FnSeriesSystemWrongFalsely : Prop := fnSeriesSystemRow.holds Try.pinned (OpenSpec.ofChange fnSeriesSystemWrong)

/-- 'laws.FnLinear': WHATEVER THE INPUT: true; the input reads as it did. -/
def fnLinearSpec : ChangeSpec := { name := "fnLinear", fn := fun _ => fun
  | [d1, d2] => { results := [.lit (.bool true)], args := [d1, d2] }
  | _ => none }
def fnLinearRow : OpenClaim := { program := "ytjgnlnlngcjfcaa", sum := "e1ac7fc053f737352fefeebe97849831ab75c491df0f9638b9ba5ebd79a56c4a", func := "loop.example/g01091/laws.FnLinear", spec := "fnLinear", unfollowed := true, recurses := true, apart := false }
def FnLinearSaid : Prop := fnLinearRow.holds Try.pinned (OpenSpec.ofChange fnLinearSpec)

/-- ITS FALSE NEIGHBOUR: 'it returns false'. Refute it at one input. -/
def fnLinearWrong : ChangeSpec := { name := "fnLinear", fn := fun _ => fun
  | [d1, d2] => { results := [.lit (.bool false)], args := [d1, d2] }
  | _ => none }
def FnLinearWrongFalsely : Prop := fnLinearRow.holds Try.pinned (OpenSpec.ofChange fnLinearWrong)

/-- 'laws.FnExactSolveSeries': WHATEVER THE INPUT: true; the input reads as it did. -/
def fnExactSolveSeriesSpec : ChangeSpec := { name := "fnExactSolveSeries", fn := fun _ => fun
  | [d1, d2] => { results := [.lit (.bool true)], args := [d1, d2] }
  | _ => none }
def fnExactSolveSeriesRow : OpenClaim := { program := "ytjgnlnlngcjfcaa", sum := "e1ac7fc053f737352fefeebe97849831ab75c491df0f9638b9ba5ebd79a56c4a", func := "loop.example/g01091/laws.FnExactSolveSeries", spec := "fnExactSolveSeries", unfollowed := true, recurses := true, apart := false }
def FnExactSolveSeriesSaid : Prop := fnExactSolveSeriesRow.holds Try.pinned (OpenSpec.ofChange fnExactSolveSeriesSpec)

/-- ITS FALSE NEIGHBOUR: 'it returns false'. Refute it at one input. -/
def fnExactSolveSeriesWrong : ChangeSpec := { name := "fnExactSolveSeries", fn := fun _ => fun
  | [d1, d2] => { results := [.lit (.bool false)], args := [d1, d2] }
  | _ => none }
def FnExactSolveSeriesWrongFalsely : Prop := fnExactSolveSeriesRow.holds Try.pinned (OpenSpec.ofChange fnExactSolveSeriesWrong)

/-- 'laws.FnLinearFlow': WHATEVER THE INPUT: true; the input reads as it did. -/
def fnLinearFlowSpec : ChangeSpec := { name := "fnLinearFlow", fn := fun _ => fun
  | [d1, d2] => { results := [.lit (.bool true)], args := [d1, d2] }
  | _ => none }
def fnLinearFlowRow : OpenClaim := { program := "ytjgnlnlngcjfcaa", sum := "e1ac7fc053f737352fefeebe97849831ab75c491df0f9638b9ba5ebd79a56c4a", func := "loop.example/g01091/laws.FnLinearFlow", spec := "fnLinearFlow", unfollowed := true, recurses := true, apart := false }
def FnLinearFlowSaid : Prop := fnLinearFlowRow.holds Try.pinned (OpenSpec.ofChange fnLinearFlowSpec)

/-- ITS FALSE NEIGHBOUR: 'it returns false'. Refute it at one input. -/
def fnLinearFlowWrong : ChangeSpec := { name := "fnLinearFlow", fn := fun _ => fun
  | [d1, d2] => { results := [.lit (.bool false)], args := [d1, d2] }
  | _ => none }
def FnLinearFlowWrongFalsely : Prop := fnLinearFlowRow.holds Try.pinned (OpenSpec.ofChange fnLinearFlowWrong)

/- THE SECOND FORM. 'bulk': how many values and letters a reading holds, each counted each time it is reached (what is shared counts as often as it is met; a slice's spare places count too). A statement '..UptoSaid' is the law's where the arguments, and the package variables that the reading takes, are together of bulk at most 1048576: NARROWER than '..Said'. Prove '..Said' where nothing that the law and all that it calls make is longer than what came in: it says more and counts as full. Else prove '..UptoSaid'. A law counts once. -/
mutual
def uptoBulk {H : Type} : DataW H → Nat
  | .lit (.string bytes) => bytes.length + 1
  | .lit _ => 1
  | .nil => 1
  | .ptr d => uptoBulk d + 1
  | .slice elems spare => uptoBulkAll elems + uptoBulkAll spare + 1
  | .agg parts => uptoBulkAll parts + 1
  | .iface _ d => uptoBulk d + 1
  | .map entries => uptoBulkEntries entries + 1
  | .held _ => 1
def uptoBulkAll {H : Type} : List (DataW H) → Nat
  | [] => 0
  | d :: r => uptoBulk d + uptoBulkAll r
def uptoBulkEntries {H : Type} : List (Lit × DataW H) → Nat
  | [] => 0
  | x :: r => uptoBulkEntry x + uptoBulkEntries r
def uptoBulkEntry {H : Type} : Lit × DataW H → Nat
  | (.string bytes, d) => bytes.length + uptoBulk d + 1
  | (_, d) => uptoBulk d + 1
 end
def uptoSmall : (H : Type) → List (DataW H) → Bool := fun _ ds => decide (uptoBulkAll ds ≤ 1048576)
def OpenSpec.upto (s : _root_.Go.ChangeSpec) : _root_.Go.OpenSpec := { _root_.Go.OpenSpec.ofChange s with cond := some uptoSmall }

/-- 'laws.FnExactDeterminantOf', WHERE WHAT IT READS IS OF BULK AT MOST 1048576: true; the input reads as it did. -/
def fnExactDeterminantOfUptoRow : OpenClaim := { program := "ytjgnlnlngcjfcaa", sum := "e1ac7fc053f737352fefeebe97849831ab75c491df0f9638b9ba5ebd79a56c4a", func := "loop.example/g01091/laws.FnExactDeterminantOf", spec := "fnExactDeterminantOf", unfollowed := true, recurses := true, apart := false, narrowed := true }
def FnExactDeterminantOfUptoSaid : Prop := fnExactDeterminantOfUptoRow.holds Try.pinned (OpenSpec.upto fnExactDeterminantOfSpec)

/-- 'laws.FnExactLinearFlow', WHERE WHAT IT READS IS OF BULK AT MOST 1048576: true; the input reads as it did. -/
def fnExactLinearFlowUptoRow : OpenClaim := { program := "ytjgnlnlngcjfcaa", sum := "e1ac7fc053f737352fefeebe97849831ab75c491df0f9638b9ba5ebd79a56c4a", func := "loop.example/g01091/laws.FnExactLinearFlow", spec := "fnExactLinearFlow", unfollowed := true, recurses := true, apart := false, narrowed := true }
def FnExactLinearFlowUptoSaid : Prop := fnExactLinearFlowUptoRow.holds Try.pinned (OpenSpec.upto fnExactLinearFlowSpec)

/-- 'laws.FnExactSolveLinear', WHERE WHAT IT READS IS OF BULK AT MOST 1048576: true; the input reads as it did. -/
def fnExactSolveLinearUptoRow : OpenClaim := { program := "ytjgnlnlngcjfcaa", sum := "e1ac7fc053f737352fefeebe97849831ab75c491df0f9638b9ba5ebd79a56c4a", func := "loop.example/g01091/laws.FnExactSolveLinear", spec := "fnExactSolveLinear", unfollowed := true, recurses := true, apart := false, narrowed := true }
def FnExactSolveLinearUptoSaid : Prop := fnExactSolveLinearUptoRow.holds Try.pinned (OpenSpec.upto fnExactSolveLinearSpec)

/-- 'laws.FnExactInverseMatrix', WHERE WHAT IT READS IS OF BULK AT MOST 1048576: true; the input reads as it did. -/
def fnExactInverseMatrixUptoRow : OpenClaim := { program := "ytjgnlnlngcjfcaa", sum := "e1ac7fc053f737352fefeebe97849831ab75c491df0f9638b9ba5ebd79a56c4a", func := "loop.example/g01091/laws.FnExactInverseMatrix", spec := "fnExactInverseMatrix", unfollowed := true, recurses := true, apart := false, narrowed := true }
def FnExactInverseMatrixUptoSaid : Prop := fnExactInverseMatrixUptoRow.holds Try.pinned (OpenSpec.upto fnExactInverseMatrixSpec)

/-- 'laws.FnSeriesSystem', WHERE WHAT IT READS IS OF BULK AT MOST 1048576: true; the input reads as it did. -/
def fnSeriesSystemUptoRow : OpenClaim := { program := "ytjgnlnlngcjfcaa", sum := "e1ac7fc053f737352fefeebe97849831ab75c491df0f9638b9ba5ebd79a56c4a", func := "loop.example/g01091/laws.FnSeriesSystem", spec := "fnSeriesSystem", unfollowed := true, recurses := true, apart := false, narrowed := true }
def FnSeriesSystemUptoSaid : Prop := fnSeriesSystemUptoRow.holds Try.pinned (OpenSpec.upto fnSeriesSystemSpec)

/-- 'laws.FnLinear', WHERE WHAT IT READS IS OF BULK AT MOST 1048576: true; the input reads as it did. -/
def fnLinearUptoRow : OpenClaim := { program := "ytjgnlnlngcjfcaa", sum := "e1ac7fc053f737352fefeebe97849831ab75c491df0f9638b9ba5ebd79a56c4a", func := "loop.example/g01091/laws.FnLinear", spec := "fnLinear", unfollowed := true, recurses := true, apart := false, narrowed := true }
def FnLinearUptoSaid : Prop := fnLinearUptoRow.holds Try.pinned (OpenSpec.upto fnLinearSpec)

/-- 'laws.FnExactSolveSeries', WHERE WHAT IT READS IS OF BULK AT MOST 1048576: true; the input reads as it did. -/
def fnExactSolveSeriesUptoRow : OpenClaim := { program := "ytjgnlnlngcjfcaa", sum := "e1ac7fc053f737352fefeebe97849831ab75c491df0f9638b9ba5ebd79a56c4a", func := "loop.example/g01091/laws.FnExactSolveSeries", spec := "fnExactSolveSeries", unfollowed := true, recurses := true, apart := false, narrowed := true }
def FnExactSolveSeriesUptoSaid : Prop := fnExactSolveSeriesUptoRow.holds Try.pinned (OpenSpec.upto fnExactSolveSeriesSpec)

/-- 'laws.FnLinearFlow', WHERE WHAT IT READS IS OF BULK AT MOST 1048576: true; the input reads as it did. -/
def fnLinearFlowUptoRow : OpenClaim := { program := "ytjgnlnlngcjfcaa", sum := "e1ac7fc053f737352fefeebe97849831ab75c491df0f9638b9ba5ebd79a56c4a", func := "loop.example/g01091/laws.FnLinearFlow", spec := "fnLinearFlow", unfollowed := true, recurses := true, apart := false, narrowed := true }
def FnLinearFlowUptoSaid : Prop := fnLinearFlowUptoRow.holds Try.pinned (OpenSpec.upto fnLinearFlowSpec)

end Rows
end Go.Proofs.Ytjgnlnlngcjfcaa
