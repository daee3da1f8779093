/-
  NARROWER THAN 'FOR EVERY INPUT', by the rows' own cells (each row's printed sentence says how): FnExactRoundGradient: loops.
  DERIVED. THE GIVEN ROWS OF THIS SEAT. 9 by the template 'for every input the law returns true; each argument reads behind the call as it read before'; 0 by the template 'total and deterministic' (their statements: YtbajepcpgncekaaGreatTotals.lean).
  GIVEN WITH THE SEED: the statements are not yours to turn. If you find one false, say at which input.
  Laid BY PROGRAM, IN A SANDBOX (cutbox-rows.mjs): the forced cells as the released guide's own fill.sh prints them over the translation 0f479eb398e39605… (all of the seat's roots in one cut). By AI agents, Wed Nov 11 2026. No macro, syntax, notation, axiom, sorry.
-/
import Derived.Test.YtbajepcpgncekaaGreatChecked
import GoSem.Claim
import GoSem.ClaimJoined
import GoSem.ClaimMapViews
import Derived.JoinedTies
import Derived.KernelRfl
namespace Go.Proofs.YtbajepcpgncekaaGreat
/- THE CELL 'sum', in the pinned program and in every row, IS THE sha256 OF THE DUMP (.gsa) THAT YtbajepcpgncekaaGreatProg.lean LOADS. Nothing in Lean hashes anything: it is a label: what it is worth is what the hold of that sum in a sandbox is worth. -/
noncomputable def Tryz.pinned : Pinned := { name := "ytbajepcpgncekaagreat", sum := "0f479eb398e39605e9d31bd5b943aa94efa565280fa1776b02d5c7965c159d46", checked := Tryz.checked }
namespace Rows
def none {H : Type} : Left H := { results := [], args := [] }

/-- 'laws.FnNewton': WHATEVER THE INPUT: true; the input reads as it did. -/
def fnNewtonSpec : ChangeSpec := { name := "fnNewton", fn := fun _ => fun
  | [d1, d2] => { results := [.lit (.bool true)], args := [d1, d2] }
  | _ => none }
def fnNewtonRow : OpenClaim := { program := "ytbajepcpgncekaagreat", sum := "0f479eb398e39605e9d31bd5b943aa94efa565280fa1776b02d5c7965c159d46", func := "loop.example/g01091/laws.FnNewton", spec := "fnNewton", unfollowed := true, recurses := true, apart := false }
def FnNewtonSaid : Prop := fnNewtonRow.holds Tryz.pinned (OpenSpec.ofChange fnNewtonSpec)

/-- ITS FALSE NEIGHBOUR: 'it returns false'. Refute it at one input. -/
def fnNewtonWrong : ChangeSpec := { name := "fnNewton", fn := fun _ => fun
  | [d1, d2] => { results := [.lit (.bool false)], args := [d1, d2] }
  | _ => none }
def FnNewtonWrongFalsely : Prop := fnNewtonRow.holds Tryz.pinned (OpenSpec.ofChange fnNewtonWrong)

/-- 'laws.FnImplicit': WHATEVER THE INPUT: true; the input reads as it did. -/
def fnImplicitSpec : ChangeSpec := { name := "fnImplicit", fn := fun _ => fun
  | [d1, d2] => { results := [.lit (.bool true)], args := [d1, d2] }
  | _ => none }
def fnImplicitRow : OpenClaim := { program := "ytbajepcpgncekaagreat", sum := "0f479eb398e39605e9d31bd5b943aa94efa565280fa1776b02d5c7965c159d46", func := "loop.example/g01091/laws.FnImplicit", spec := "fnImplicit", unfollowed := true, recurses := true, apart := false }
def FnImplicitSaid : Prop := fnImplicitRow.holds Tryz.pinned (OpenSpec.ofChange fnImplicitSpec)

/-- ITS FALSE NEIGHBOUR: 'it returns false'. Refute it at one input. -/
def fnImplicitWrong : ChangeSpec := { name := "fnImplicit", fn := fun _ => fun
  | [d1, d2] => { results := [.lit (.bool false)], args := [d1, d2] }
  | _ => none }
def FnImplicitWrongFalsely : Prop := fnImplicitRow.holds Tryz.pinned (OpenSpec.ofChange fnImplicitWrong)

/-- 'laws.FnReverse': WHATEVER THE INPUT: true; the input reads as it did. -/
def fnReverseSpec : ChangeSpec := { name := "fnReverse", fn := fun _ => fun
  | [d1, d2] => { results := [.lit (.bool true)], args := [d1, d2] }
  | _ => none }
def fnReverseRow : OpenClaim := { program := "ytbajepcpgncekaagreat", sum := "0f479eb398e39605e9d31bd5b943aa94efa565280fa1776b02d5c7965c159d46", func := "loop.example/g01091/laws.FnReverse", spec := "fnReverse", unfollowed := true, recurses := true, apart := false }
def FnReverseSaid : Prop := fnReverseRow.holds Tryz.pinned (OpenSpec.ofChange fnReverseSpec)

/-- ITS FALSE NEIGHBOUR: 'it returns false'. Refute it at one input. -/
def fnReverseWrong : ChangeSpec := { name := "fnReverse", fn := fun _ => fun
  | [d1, d2] => { results := [.lit (.bool false)], args := [d1, d2] }
  | _ => none }
def FnReverseWrongFalsely : Prop := fnReverseRow.holds Tryz.pinned (OpenSpec.ofChange fnReverseWrong)

/-- 'laws.FnTapeHessian': WHATEVER THE INPUT: true; the input reads as it did. -/
def fnTapeHessianSpec : ChangeSpec := { name := "fnTapeHessian", fn := fun _ => fun
  | [d1, d2] => { results := [.lit (.bool true)], args := [d1, d2] }
  | _ => none }
def fnTapeHessianRow : OpenClaim := { program := "ytbajepcpgncekaagreat", sum := "0f479eb398e39605e9d31bd5b943aa94efa565280fa1776b02d5c7965c159d46", func := "loop.example/g01091/laws.FnTapeHessian", spec := "fnTapeHessian", unfollowed := true, recurses := true, apart := false }
def FnTapeHessianSaid : Prop := fnTapeHessianRow.holds Tryz.pinned (OpenSpec.ofChange fnTapeHessianSpec)

/-- ITS FALSE NEIGHBOUR: 'it returns false'. Refute it at one input. -/
def fnTapeHessianWrong : ChangeSpec := { name := "fnTapeHessian", fn := fun _ => fun
  | [d1, d2] => { results := [.lit (.bool false)], args := [d1, d2] }
  | _ => none }
def FnTapeHessianWrongFalsely : Prop := fnTapeHessianRow.holds Tryz.pinned (OpenSpec.ofChange fnTapeHessianWrong)

/-- 'laws.FnDepends': WHATEVER THE INPUT: true; the input reads as it did. -/
def fnDependsSpec : ChangeSpec := { name := "fnDepends", fn := fun _ => fun
  | [d1, d2] => { results := [.lit (.bool true)], args := [d1, d2] }
  | _ => none }
def fnDependsRow : OpenClaim := { program := "ytbajepcpgncekaagreat", sum := "0f479eb398e39605e9d31bd5b943aa94efa565280fa1776b02d5c7965c159d46", func := "loop.example/g01091/laws.FnDepends", spec := "fnDepends", unfollowed := true, recurses := true, apart := false }
def FnDependsSaid : Prop := fnDependsRow.holds Tryz.pinned (OpenSpec.ofChange fnDependsSpec)

/-- ITS FALSE NEIGHBOUR: 'it returns false'. Refute it at one input. -/
def fnDependsWrong : ChangeSpec := { name := "fnDepends", fn := fun _ => fun
  | [d1, d2] => { results := [.lit (.bool false)], args := [d1, d2] }
  | _ => none }
def FnDependsWrongFalsely : Prop := fnDependsRow.holds Tryz.pinned (OpenSpec.ofChange fnDependsWrong)

/-- 'laws.FnRoundPieces': WHATEVER THE INPUT: true; the input reads as it did. -/
def fnRoundPiecesSpec : ChangeSpec := { name := "fnRoundPieces", fn := fun _ => fun
  | [d1, d2] => { results := [.lit (.bool true)], args := [d1, d2] }
  | _ => none }
def fnRoundPiecesRow : OpenClaim := { program := "ytbajepcpgncekaagreat", sum := "0f479eb398e39605e9d31bd5b943aa94efa565280fa1776b02d5c7965c159d46", func := "loop.example/g01091/laws.FnRoundPieces", spec := "fnRoundPieces", unfollowed := true, recurses := true, apart := false }
def FnRoundPiecesSaid : Prop := fnRoundPiecesRow.holds Tryz.pinned (OpenSpec.ofChange fnRoundPiecesSpec)

/-- ITS FALSE NEIGHBOUR: 'it returns false'. Refute it at one input. -/
def fnRoundPiecesWrong : ChangeSpec := { name := "fnRoundPieces", fn := fun _ => fun
  | [d1, d2] => { results := [.lit (.bool false)], args := [d1, d2] }
  | _ => none }
def FnRoundPiecesWrongFalsely : Prop := fnRoundPiecesRow.holds Tryz.pinned (OpenSpec.ofChange fnRoundPiecesWrong)

/-- 'laws.FnUnrolled': WHATEVER THE INPUT: true; the input reads as it did. -/
def fnUnrolledSpec : ChangeSpec := { name := "fnUnrolled", fn := fun _ => fun
  | [d1, d2] => { results := [.lit (.bool true)], args := [d1, d2] }
  | _ => none }
def fnUnrolledRow : OpenClaim := { program := "ytbajepcpgncekaagreat", sum := "0f479eb398e39605e9d31bd5b943aa94efa565280fa1776b02d5c7965c159d46", func := "loop.example/g01091/laws.FnUnrolled", spec := "fnUnrolled", unfollowed := true, recurses := true, apart := false }
def FnUnrolledSaid : Prop := fnUnrolledRow.holds Tryz.pinned (OpenSpec.ofChange fnUnrolledSpec)

/-- ITS FALSE NEIGHBOUR: 'it returns false'. Refute it at one input. -/
def fnUnrolledWrong : ChangeSpec := { name := "fnUnrolled", fn := fun _ => fun
  | [d1, d2] => { results := [.lit (.bool false)], args := [d1, d2] }
  | _ => none }
def FnUnrolledWrongFalsely : Prop := fnUnrolledRow.holds Tryz.pinned (OpenSpec.ofChange fnUnrolledWrong)

/-- 'laws.FnRoundDual': WHATEVER THE INPUT: true; the input reads as it did. -/
def fnRoundDualSpec : ChangeSpec := { name := "fnRoundDual", fn := fun _ => fun
  | [d1, d2] => { results := [.lit (.bool true)], args := [d1, d2] }
  | _ => none }
def fnRoundDualRow : OpenClaim := { program := "ytbajepcpgncekaagreat", sum := "0f479eb398e39605e9d31bd5b943aa94efa565280fa1776b02d5c7965c159d46", func := "loop.example/g01091/laws.FnRoundDual", spec := "fnRoundDual", unfollowed := true, recurses := true, apart := false }
def FnRoundDualSaid : Prop := fnRoundDualRow.holds Tryz.pinned (OpenSpec.ofChange fnRoundDualSpec)

/-- ITS FALSE NEIGHBOUR: 'it returns false'. Refute it at one input. -/
def fnRoundDualWrong : ChangeSpec := { name := "fnRoundDual", fn := fun _ => fun
  | [d1, d2] => { results := [.lit (.bool false)], args := [d1, d2] }
  | _ => none }
def FnRoundDualWrongFalsely : Prop := fnRoundDualRow.holds Tryz.pinned (OpenSpec.ofChange fnRoundDualWrong)

/-- 'laws.FnExactRoundGradient': WHATEVER THE INPUT: true; the input reads as it did. -/
def fnExactRoundGradientSpec : ChangeSpec := { name := "fnExactRoundGradient", fn := fun _ => fun
  | [d1, d2, d3, d4, d5] => { results := [.lit (.bool true)], args := [d1, d2, d3, d4, d5] }
  | _ => none }
def fnExactRoundGradientRow : OpenClaim := { program := "ytbajepcpgncekaagreat", sum := "0f479eb398e39605e9d31bd5b943aa94efa565280fa1776b02d5c7965c159d46", func := "loop.example/g01091/laws.FnExactRoundGradient", spec := "fnExactRoundGradient", unfollowed := true, recurses := true, loops := true, apart := false }
def FnExactRoundGradientSaid : Prop := fnExactRoundGradientRow.holds Tryz.pinned (OpenSpec.ofChange fnExactRoundGradientSpec)

/-- ITS FALSE NEIGHBOUR: 'it returns false'. Refute it at one input. -/
def fnExactRoundGradientWrong : ChangeSpec := { name := "fnExactRoundGradient", fn := fun _ => fun
  | [d1, d2, d3, d4, d5] => { results := [.lit (.bool false)], args := [d1, d2, d3, d4, d5] }
  | _ => none }
def FnExactRoundGradientWrongFalsely : Prop := fnExactRoundGradientRow.holds Tryz.pinned (OpenSpec.ofChange fnExactRoundGradientWrong)

/- THE SECOND FORM. 'bulk': how many values and letters a reading holds, each counted each time it is reached (what is shared counts as often as it is met; a slice's spare places count too). A statement '..UptoSaid' is the law's where the arguments, and the package variables that the reading takes, are together of bulk at most 1048576: NARROWER than '..Said'. Prove '..Said' where nothing that the law and all that it calls make is longer than what came in: it says more and counts as full. Else prove '..UptoSaid'. A law counts once. -/
mutual
def uptoBulk {H : Type} : DataW H → Nat
  | .lit (.string bytes) => bytes.length + 1
  | .lit _ => 1
  | .nil => 1
  | .ptr d => uptoBulk d + 1
  | .slice elems spare => uptoBulkAll elems + uptoBulkAll spare + 1
  | .agg parts => uptoBulkAll parts + 1
  | .iface _ d => uptoBulk d + 1
  | .map entries => uptoBulkEntries entries + 1
  | .held _ => 1
def uptoBulkAll {H : Type} : List (DataW H) → Nat
  | [] => 0
  | d :: r => uptoBulk d + uptoBulkAll r
def uptoBulkEntries {H : Type} : List (Lit × DataW H) → Nat
  | [] => 0
  | x :: r => uptoBulkEntry x + uptoBulkEntries r
def uptoBulkEntry {H : Type} : Lit × DataW H → Nat
  | (.string bytes, d) => bytes.length + uptoBulk d + 1
  | (_, d) => uptoBulk d + 1
 end
def uptoSmall : (H : Type) → List (DataW H) → Bool := fun _ ds => decide (uptoBulkAll ds ≤ 1048576)
def OpenSpec.upto (s : _root_.Go.ChangeSpec) : _root_.Go.OpenSpec := { _root_.Go.OpenSpec.ofChange s with cond := some uptoSmall }

/-- 'laws.FnNewton', WHERE WHAT IT READS IS OF BULK AT MOST 1048576: true; the input reads as it did. -/
def fnNewtonUptoRow : OpenClaim := { program := "ytbajepcpgncekaagreat", sum := "0f479eb398e39605e9d31bd5b943aa94efa565280fa1776b02d5c7965c159d46", func := "loop.example/g01091/laws.FnNewton", spec := "fnNewton", unfollowed := true, recurses := true, apart := false, narrowed := true }
def FnNewtonUptoSaid : Prop := fnNewtonUptoRow.holds Tryz.pinned (OpenSpec.upto fnNewtonSpec)

/-- 'laws.FnImplicit', WHERE WHAT IT READS IS OF BULK AT MOST 1048576: true; the input reads as it did. -/
def fnImplicitUptoRow : OpenClaim := { program := "ytbajepcpgncekaagreat", sum := "0f479eb398e39605e9d31bd5b943aa94efa565280fa1776b02d5c7965c159d46", func := "loop.example/g01091/laws.FnImplicit", spec := "fnImplicit", unfollowed := true, recurses := true, apart := false, narrowed := true }
def FnImplicitUptoSaid : Prop := fnImplicitUptoRow.holds Tryz.pinned (OpenSpec.upto fnImplicitSpec)

/-- 'laws.FnReverse', WHERE WHAT IT READS IS OF BULK AT MOST 1048576: true; the input reads as it did. -/
def fnReverseUptoRow : OpenClaim := { program := "ytbajepcpgncekaagreat", sum := "0f479eb398e39605e9d31bd5b943aa94efa565280fa1776b02d5c7965c159d46", func := "loop.example/g01091/laws.FnReverse", spec := "fnReverse", unfollowed := true, recurses := true, apart := false, narrowed := true }
def FnReverseUptoSaid : Prop := fnReverseUptoRow.holds Tryz.pinned (OpenSpec.upto fnReverseSpec)

/-- 'laws.FnTapeHessian', WHERE WHAT IT READS IS OF BULK AT MOST 1048576: true; the input reads as it did. -/
def fnTapeHessianUptoRow : OpenClaim := { program := "ytbajepcpgncekaagreat", sum := "0f479eb398e39605e9d31bd5b943aa94efa565280fa1776b02d5c7965c159d46", func := "loop.example/g01091/laws.FnTapeHessian", spec := "fnTapeHessian", unfollowed := true, recurses := true, apart := false, narrowed := true }
def FnTapeHessianUptoSaid : Prop := fnTapeHessianUptoRow.holds Tryz.pinned (OpenSpec.upto fnTapeHessianSpec)

/-- 'laws.FnDepends', WHERE WHAT IT READS IS OF BULK AT MOST 1048576: true; the input reads as it did. -/
def fnDependsUptoRow : OpenClaim := { program := "ytbajepcpgncekaagreat", sum := "0f479eb398e39605e9d31bd5b943aa94efa565280fa1776b02d5c7965c159d46", func := "loop.example/g01091/laws.FnDepends", spec := "fnDepends", unfollowed := true, recurses := true, apart := false, narrowed := true }
def FnDependsUptoSaid : Prop := fnDependsUptoRow.holds Tryz.pinned (OpenSpec.upto fnDependsSpec)

/-- 'laws.FnRoundPieces', WHERE WHAT IT READS IS OF BULK AT MOST 1048576: true; the input reads as it did. -/
def fnRoundPiecesUptoRow : OpenClaim := { program := "ytbajepcpgncekaagreat", sum := "0f479eb398e39605e9d31bd5b943aa94efa565280fa1776b02d5c7965c159d46", func := "loop.example/g01091/laws.FnRoundPieces", spec := "fnRoundPieces", unfollowed := true, recurses := true, apart := false, narrowed := true }
def FnRoundPiecesUptoSaid : Prop := fnRoundPiecesUptoRow.holds Tryz.pinned (OpenSpec.upto fnRoundPiecesSpec)

/-- 'laws.FnUnrolled', WHERE WHAT IT READS IS OF BULK AT MOST 1048576: true; the input reads as it did. -/
def fnUnrolledUptoRow : OpenClaim := { program := "ytbajepcpgncekaagreat", sum := "0f479eb398e39605e9d31bd5b943aa94efa565280fa1776b02d5c7965c159d46", func := "loop.example/g01091/laws.FnUnrolled", spec := "fnUnrolled", unfollowed := true, recurses := true, apart := false, narrowed := true }
def FnUnrolledUptoSaid : Prop := fnUnrolledUptoRow.holds Tryz.pinned (OpenSpec.upto fnUnrolledSpec)

/-- 'laws.FnRoundDual', WHERE WHAT IT READS IS OF BULK AT MOST 1048576: true; the input reads as it did. -/
def fnRoundDualUptoRow : OpenClaim := { program := "ytbajepcpgncekaagreat", sum := "0f479eb398e39605e9d31bd5b943aa94efa565280fa1776b02d5c7965c159d46", func := "loop.example/g01091/laws.FnRoundDual", spec := "fnRoundDual", unfollowed := true, recurses := true, apart := false, narrowed := true }
def FnRoundDualUptoSaid : Prop := fnRoundDualUptoRow.holds Tryz.pinned (OpenSpec.upto fnRoundDualSpec)

/-- 'laws.FnExactRoundGradient', WHERE WHAT IT READS IS OF BULK AT MOST 1048576: true; the input reads as it did. -/
def fnExactRoundGradientUptoRow : OpenClaim := { program := "ytbajepcpgncekaagreat", sum := "0f479eb398e39605e9d31bd5b943aa94efa565280fa1776b02d5c7965c159d46", func := "loop.example/g01091/laws.FnExactRoundGradient", spec := "fnExactRoundGradient", unfollowed := true, recurses := true, loops := true, apart := false, narrowed := true }
def FnExactRoundGradientUptoSaid : Prop := fnExactRoundGradientUptoRow.holds Tryz.pinned (OpenSpec.upto fnExactRoundGradientSpec)

end Rows
end Go.Proofs.YtbajepcpgncekaaGreat
