/-
  NARROWER THAN 'FOR EVERY INPUT', by the rows' own cells (each row's printed sentence says how): FnExactRoundGradient: loops · FnExactReverseRounds: loops.
  DERIVED. THE GIVEN ROWS OF THIS SEAT. 5 by the template 'for every input the law returns true; each argument reads behind the call as it read before'; 0 by the template 'total and deterministic' (their statements: YtjnbnlniafmblaaGreatTotals.lean).
  GIVEN WITH THE SEED: the statements are not yours to turn. If you find one false, say at which input.
  Laid BY PROGRAM, IN A SANDBOX (cutbox-rows.mjs): the forced cells as the released guide's own fill.sh prints them over the translation 65e05bba0c55c158… (all of the seat's roots in one cut). By AI agents, Wed Nov 11 2026. No macro, syntax, notation, axiom, sorry.
-/
import Derived.Test.YtjnbnlniafmblaaGreatChecked
import GoSem.Claim
import GoSem.ClaimJoined
import GoSem.ClaimMapViews
import Derived.JoinedTies
import Derived.KernelRfl
namespace Go.Proofs.YtjnbnlniafmblaaGreat
/- THE CELL 'sum', in the pinned program and in every row, IS THE sha256 OF THE DUMP (.gsa) THAT YtjnbnlniafmblaaGreatProg.lean LOADS. Nothing in Lean hashes anything: it is a label: what it is worth is what the hold of that sum in a sandbox is worth. -/
noncomputable def Tryz.pinned : Pinned := { name := "ytjnbnlniafmblaagreat", sum := "65e05bba0c55c158680e915fafd18272fda59488e84385eb39c40ac5eda0e018", checked := Tryz.checked }
namespace Rows
def none {H : Type} : Left H := { results := [], args := [] }

/-- 'laws.FnDepends': WHATEVER THE INPUT: true; the input reads as it did. -/
def fnDependsSpec : ChangeSpec := { name := "fnDepends", fn := fun _ => fun
  | [d1, d2] => { results := [.lit (.bool true)], args := [d1, d2] }
  | _ => none }
def fnDependsRow : OpenClaim := { program := "ytjnbnlniafmblaagreat", sum := "65e05bba0c55c158680e915fafd18272fda59488e84385eb39c40ac5eda0e018", func := "loop.example/g01091/laws.FnDepends", spec := "fnDepends", unfollowed := true, recurses := true, apart := false }
def FnDependsSaid : Prop := fnDependsRow.holds Tryz.pinned (OpenSpec.ofChange fnDependsSpec)

/-- ITS FALSE NEIGHBOUR: 'it returns false'. Refute it at one input. -/
def fnDependsWrong : ChangeSpec := { name := "fnDepends", fn := fun _ => fun
  | [d1, d2] => { results := [.lit (.bool false)], args := [d1, d2] }
  | _ => none }
def FnDependsWrongFalsely : Prop := fnDependsRow.holds Tryz.pinned (OpenSpec.ofChange fnDependsWrong)

/-- 'laws.FnRoundDual': WHATEVER THE INPUT: true; the input reads as it did. -/
def fnRoundDualSpec : ChangeSpec := { name := "fnRoundDual", fn := fun _ => fun
  | [d1, d2] => { results := [.lit (.bool true)], args := [d1, d2] }
  | _ => none }
def fnRoundDualRow : OpenClaim := { program := "ytjnbnlniafmblaagreat", sum := "65e05bba0c55c158680e915fafd18272fda59488e84385eb39c40ac5eda0e018", func := "loop.example/g01091/laws.FnRoundDual", spec := "fnRoundDual", unfollowed := true, recurses := true, apart := false }
def FnRoundDualSaid : Prop := fnRoundDualRow.holds Tryz.pinned (OpenSpec.ofChange fnRoundDualSpec)

/-- ITS FALSE NEIGHBOUR: 'it returns false'. Refute it at one input. -/
def fnRoundDualWrong : ChangeSpec := { name := "fnRoundDual", fn := fun _ => fun
  | [d1, d2] => { results := [.lit (.bool false)], args := [d1, d2] }
  | _ => none }
def FnRoundDualWrongFalsely : Prop := fnRoundDualRow.holds Tryz.pinned (OpenSpec.ofChange fnRoundDualWrong)

/-- 'laws.FnExactRoundGradient': WHATEVER THE INPUT: true; the input reads as it did. -/
def fnExactRoundGradientSpec : ChangeSpec := { name := "fnExactRoundGradient", fn := fun _ => fun
  | [d1, d2, d3, d4, d5] => { results := [.lit (.bool true)], args := [d1, d2, d3, d4, d5] }
  | _ => none }
def fnExactRoundGradientRow : OpenClaim := { program := "ytjnbnlniafmblaagreat", sum := "65e05bba0c55c158680e915fafd18272fda59488e84385eb39c40ac5eda0e018", func := "loop.example/g01091/laws.FnExactRoundGradient", spec := "fnExactRoundGradient", unfollowed := true, recurses := true, loops := true, apart := false }
def FnExactRoundGradientSaid : Prop := fnExactRoundGradientRow.holds Tryz.pinned (OpenSpec.ofChange fnExactRoundGradientSpec)

/-- ITS FALSE NEIGHBOUR: 'it returns false'. Refute it at one input. -/
def fnExactRoundGradientWrong : ChangeSpec := { name := "fnExactRoundGradient", fn := fun _ => fun
  | [d1, d2, d3, d4, d5] => { results := [.lit (.bool false)], args := [d1, d2, d3, d4, d5] }
  | _ => none }
def FnExactRoundGradientWrongFalsely : Prop := fnExactRoundGradientRow.holds Tryz.pinned (OpenSpec.ofChange fnExactRoundGradientWrong)

/-- 'laws.FnExactReverseRounds': WHATEVER THE INPUT: true; the input reads as it did. -/
def fnExactReverseRoundsSpec : ChangeSpec := { name := "fnExactReverseRounds", fn := fun _ => fun
  | [d1, d2, d3, d4, d5, d6] => { results := [.lit (.bool true)], args := [d1, d2, d3, d4, d5, d6] }
  | _ => none }
def fnExactReverseRoundsRow : OpenClaim := { program := "ytjnbnlniafmblaagreat", sum := "65e05bba0c55c158680e915fafd18272fda59488e84385eb39c40ac5eda0e018", func := "loop.example/g01091/laws.FnExactReverseRounds", spec := "fnExactReverseRounds", unfollowed := true, recurses := true, loops := true, apart := false }
def FnExactReverseRoundsSaid : Prop := fnExactReverseRoundsRow.holds Tryz.pinned (OpenSpec.ofChange fnExactReverseRoundsSpec)

/-- ITS FALSE NEIGHBOUR: 'it returns false'. Refute it at one input. -/
def fnExactReverseRoundsWrong : ChangeSpec := { name := "fnExactReverseRounds", fn := fun _ => fun
  | [d1, d2, d3, d4, d5, d6] => { results := [.lit (.bool false)], args := [d1, d2, d3, d4, d5, d6] }
  | _ => none }
def FnExactReverseRoundsWrongFalsely : Prop := fnExactReverseRoundsRow.holds Tryz.pinned (OpenSpec.ofChange fnExactReverseRoundsWrong)

/-- 'laws.FnReversal': WHATEVER THE INPUT: true; the input reads as it did. -/
def fnReversalSpec : ChangeSpec := { name := "fnReversal", fn := fun _ => fun
  | [d1, d2] => { results := [.lit (.bool true)], args := [d1, d2] }
  | _ => none }
def fnReversalRow : OpenClaim := { program := "ytjnbnlniafmblaagreat", sum := "65e05bba0c55c158680e915fafd18272fda59488e84385eb39c40ac5eda0e018", func := "loop.example/g01091/laws.FnReversal", spec := "fnReversal", unfollowed := true, recurses := true, apart := false }
def FnReversalSaid : Prop := fnReversalRow.holds Tryz.pinned (OpenSpec.ofChange fnReversalSpec)

/-- ITS FALSE NEIGHBOUR: 'it returns false'. Refute it at one input. -/
def fnReversalWrong : ChangeSpec := { name := "fnReversal", fn := fun _ => fun
  | [d1, d2] => { results := [.lit (.bool false)], args := [d1, d2] }
  | _ => none }
def FnReversalWrongFalsely : Prop := fnReversalRow.holds Tryz.pinned (OpenSpec.ofChange fnReversalWrong)

/- THE SECOND FORM. 'bulk': how many values and letters a reading holds, each counted each time it is reached (what is shared counts as often as it is met; a slice's spare places count too). A statement '..UptoSaid' is the law's where the arguments, and the package variables that the reading takes, are together of bulk at most 1048576: NARROWER than '..Said'. Prove '..Said' where nothing that the law and all that it calls make is longer than what came in: it says more and counts as full. Else prove '..UptoSaid'. A law counts once. -/
mutual
def uptoBulk {H : Type} : DataW H → Nat
  | .lit (.string bytes) => bytes.length + 1
  | .lit _ => 1
  | .nil => 1
  | .ptr d => uptoBulk d + 1
  | .slice elems spare => uptoBulkAll elems + uptoBulkAll spare + 1
  | .agg parts => uptoBulkAll parts + 1
  | .iface _ d => uptoBulk d + 1
  | .map entries => uptoBulkEntries entries + 1
  | .held _ => 1
def uptoBulkAll {H : Type} : List (DataW H) → Nat
  | [] => 0
  | d :: r => uptoBulk d + uptoBulkAll r
def uptoBulkEntries {H : Type} : List (Lit × DataW H) → Nat
  | [] => 0
  | x :: r => uptoBulkEntry x + uptoBulkEntries r
def uptoBulkEntry {H : Type} : Lit × DataW H → Nat
  | (.string bytes, d) => bytes.length + uptoBulk d + 1
  | (_, d) => uptoBulk d + 1
 end
def uptoSmall : (H : Type) → List (DataW H) → Bool := fun _ ds => decide (uptoBulkAll ds ≤ 1048576)
def OpenSpec.upto (s : _root_.Go.ChangeSpec) : _root_.Go.OpenSpec := { _root_.Go.OpenSpec.ofChange s with cond := some uptoSmall }

/-- 'laws.FnDepends', WHERE WHAT IT READS IS OF BULK AT MOST 1048576: true; the input reads as it did. -/
def fnDependsUptoRow : OpenClaim := { program := "ytjnbnlniafmblaagreat", sum := "65e05bba0c55c158680e915fafd18272fda59488e84385eb39c40ac5eda0e018", func := "loop.example/g01091/laws.FnDepends", spec := "fnDepends", unfollowed := true, recurses := true, apart := false, narrowed := true }
def FnDependsUptoSaid : Prop := fnDependsUptoRow.holds Tryz.pinned (OpenSpec.upto fnDependsSpec)

/-- 'laws.FnRoundDual', WHERE WHAT IT READS IS OF BULK AT MOST 1048576: true; the input reads as it did. -/
def fnRoundDualUptoRow : OpenClaim := { program := "ytjnbnlniafmblaagreat", sum := "65e05bba0c55c158680e915fafd18272fda59488e84385eb39c40ac5eda0e018", func := "loop.example/g01091/laws.FnRoundDual", spec := "fnRoundDual", unfollowed := true, recurses := true, apart := false, narrowed := true }
def FnRoundDualUptoSaid : Prop := fnRoundDualUptoRow.holds Tryz.pinned (OpenSpec.upto fnRoundDualSpec)

/-- 'laws.FnExactRoundGradient', WHERE WHAT IT READS IS OF BULK AT MOST 1048576: true; the input reads as it did. -/
def fnExactRoundGradientUptoRow : OpenClaim := { program := "ytjnbnlniafmblaagreat", sum := "65e05bba0c55c158680e915fafd18272fda59488e84385eb39c40ac5eda0e018", func := "loop.example/g01091/laws.FnExactRoundGradient", spec := "fnExactRoundGradient", unfollowed := true, recurses := true, loops := true, apart := false, narrowed := true }
def FnExactRoundGradientUptoSaid : Prop := fnExactRoundGradientUptoRow.holds Tryz.pinned (OpenSpec.upto fnExactRoundGradientSpec)

/-- 'laws.FnExactReverseRounds', WHERE WHAT IT READS IS OF BULK AT MOST 1048576: true; the input reads as it did. -/
def fnExactReverseRoundsUptoRow : OpenClaim := { program := "ytjnbnlniafmblaagreat", sum := "65e05bba0c55c158680e915fafd18272fda59488e84385eb39c40ac5eda0e018", func := "loop.example/g01091/laws.FnExactReverseRounds", spec := "fnExactReverseRounds", unfollowed := true, recurses := true, loops := true, apart := false, narrowed := true }
def FnExactReverseRoundsUptoSaid : Prop := fnExactReverseRoundsUptoRow.holds Tryz.pinned (OpenSpec.upto fnExactReverseRoundsSpec)

/-- 'laws.FnReversal', WHERE WHAT IT READS IS OF BULK AT MOST 1048576: true; the input reads as it did. -/
def fnReversalUptoRow : OpenClaim := { program := "ytjnbnlniafmblaagreat", sum := "65e05bba0c55c158680e915fafd18272fda59488e84385eb39c40ac5eda0e018", func := "loop.example/g01091/laws.FnReversal", spec := "fnReversal", unfollowed := true, recurses := true, apart := false, narrowed := true }
def FnReversalUptoSaid : Prop := fnReversalUptoRow.holds Tryz.pinned (OpenSpec.upto fnReversalSpec)

end Rows
end Go.Proofs.YtjnbnlniafmblaaGreat
