/-
  NARROWER THAN 'FOR EVERY INPUT', by the rows' own cells (each row's printed sentence says how): FnExactReverseRounds: loops.
  DERIVED. THE GIVEN ROWS OF THIS SEAT. 4 by the template 'for every input the law returns true; each argument reads behind the call as it read before'; 0 by the template 'total and deterministic' (their statements: YtemfgblmfahllaaGreatTotals.lean).
  GIVEN WITH THE SEED: the statements are not yours to turn. If you find one false, say at which input.
  Laid BY PROGRAM, IN A SANDBOX (cutbox-rows.mjs): the forced cells as the released guide's own fill.sh prints them over the translation 1ebdfcebeabdcbcc… (all of the seat's roots in one cut). By AI agents, Wed Nov 11 2026. No macro, syntax, notation, axiom, sorry.
-/
import Derived.Test.YtemfgblmfahllaaGreatChecked
import GoSem.Claim
import GoSem.ClaimJoined
import GoSem.ClaimMapViews
import Derived.JoinedTies
import Derived.KernelRfl
namespace Go.Proofs.YtemfgblmfahllaaGreat
/- THE CELL 'sum', in the pinned program and in every row, IS THE sha256 OF THE DUMP (.gsa) THAT YtemfgblmfahllaaGreatProg.lean LOADS. Nothing in Lean hashes anything: it is a label: what it is worth is what the hold of that sum in a sandbox is worth. -/
noncomputable def Tryz.pinned : Pinned := { name := "ytemfgblmfahllaagreat", sum := "1ebdfcebeabdcbcc2b79ce7327e9f5cf81fce0b0c1962d03bfd143bd51e1707b", checked := Tryz.checked }
namespace Rows
def none {H : Type} : Left H := { results := [], args := [] }

/-- 'laws.FnShorter': WHATEVER THE INPUT: true; the input reads as it did. -/
def fnShorterSpec : ChangeSpec := { name := "fnShorter", fn := fun _ => fun
  | [d1, d2] => { results := [.lit (.bool true)], args := [d1, d2] }
  | _ => none }
def fnShorterRow : OpenClaim := { program := "ytemfgblmfahllaagreat", sum := "1ebdfcebeabdcbcc2b79ce7327e9f5cf81fce0b0c1962d03bfd143bd51e1707b", func := "loop.example/g01091/laws.FnShorter", spec := "fnShorter", unfollowed := true, recurses := true, plainKeys := false, apart := false }
def FnShorterSaid : Prop := fnShorterRow.holds Tryz.pinned (OpenSpec.ofChange fnShorterSpec)

/-- ITS FALSE NEIGHBOUR: 'it returns false'. Refute it at one input. -/
def fnShorterWrong : ChangeSpec := { name := "fnShorter", fn := fun _ => fun
  | [d1, d2] => { results := [.lit (.bool false)], args := [d1, d2] }
  | _ => none }
def FnShorterWrongFalsely : Prop := fnShorterRow.holds Tryz.pinned (OpenSpec.ofChange fnShorterWrong)

/-- 'laws.FnDepends': WHATEVER THE INPUT: true; the input reads as it did. -/
def fnDependsSpec : ChangeSpec := { name := "fnDepends", fn := fun _ => fun
  | [d1, d2] => { results := [.lit (.bool true)], args := [d1, d2] }
  | _ => none }
def fnDependsRow : OpenClaim := { program := "ytemfgblmfahllaagreat", sum := "1ebdfcebeabdcbcc2b79ce7327e9f5cf81fce0b0c1962d03bfd143bd51e1707b", func := "loop.example/g01091/laws.FnDepends", spec := "fnDepends", unfollowed := true, recurses := true, plainKeys := false, apart := false }
def FnDependsSaid : Prop := fnDependsRow.holds Tryz.pinned (OpenSpec.ofChange fnDependsSpec)

/-- ITS FALSE NEIGHBOUR: 'it returns false'. Refute it at one input. -/
def fnDependsWrong : ChangeSpec := { name := "fnDepends", fn := fun _ => fun
  | [d1, d2] => { results := [.lit (.bool false)], args := [d1, d2] }
  | _ => none }
def FnDependsWrongFalsely : Prop := fnDependsRow.holds Tryz.pinned (OpenSpec.ofChange fnDependsWrong)

/-- 'laws.FnExactReverseRounds': WHATEVER THE INPUT: true; the input reads as it did. -/
def fnExactReverseRoundsSpec : ChangeSpec := { name := "fnExactReverseRounds", fn := fun _ => fun
  | [d1, d2, d3, d4, d5, d6] => { results := [.lit (.bool true)], args := [d1, d2, d3, d4, d5, d6] }
  | _ => none }
def fnExactReverseRoundsRow : OpenClaim := { program := "ytemfgblmfahllaagreat", sum := "1ebdfcebeabdcbcc2b79ce7327e9f5cf81fce0b0c1962d03bfd143bd51e1707b", func := "loop.example/g01091/laws.FnExactReverseRounds", spec := "fnExactReverseRounds", unfollowed := true, recurses := true, loops := true, plainKeys := false, apart := false }
def FnExactReverseRoundsSaid : Prop := fnExactReverseRoundsRow.holds Tryz.pinned (OpenSpec.ofChange fnExactReverseRoundsSpec)

/-- ITS FALSE NEIGHBOUR: 'it returns false'. Refute it at one input. -/
def fnExactReverseRoundsWrong : ChangeSpec := { name := "fnExactReverseRounds", fn := fun _ => fun
  | [d1, d2, d3, d4, d5, d6] => { results := [.lit (.bool false)], args := [d1, d2, d3, d4, d5, d6] }
  | _ => none }
def FnExactReverseRoundsWrongFalsely : Prop := fnExactReverseRoundsRow.holds Tryz.pinned (OpenSpec.ofChange fnExactReverseRoundsWrong)

/-- 'laws.FnReversal': WHATEVER THE INPUT: true; the input reads as it did. -/
def fnReversalSpec : ChangeSpec := { name := "fnReversal", fn := fun _ => fun
  | [d1, d2] => { results := [.lit (.bool true)], args := [d1, d2] }
  | _ => none }
def fnReversalRow : OpenClaim := { program := "ytemfgblmfahllaagreat", sum := "1ebdfcebeabdcbcc2b79ce7327e9f5cf81fce0b0c1962d03bfd143bd51e1707b", func := "loop.example/g01091/laws.FnReversal", spec := "fnReversal", unfollowed := true, recurses := true, plainKeys := false, apart := false }
def FnReversalSaid : Prop := fnReversalRow.holds Tryz.pinned (OpenSpec.ofChange fnReversalSpec)

/-- ITS FALSE NEIGHBOUR: 'it returns false'. Refute it at one input. -/
def fnReversalWrong : ChangeSpec := { name := "fnReversal", fn := fun _ => fun
  | [d1, d2] => { results := [.lit (.bool false)], args := [d1, d2] }
  | _ => none }
def FnReversalWrongFalsely : Prop := fnReversalRow.holds Tryz.pinned (OpenSpec.ofChange fnReversalWrong)

/- THE SECOND FORM. 'bulk': how many values and letters a reading holds, each counted each time it is reached (what is shared counts as often as it is met; a slice's spare places count too). A statement '..UptoSaid' is the law's where the arguments, and the package variables that the reading takes, are together of bulk at most 1048576: NARROWER than '..Said'. Prove '..Said' where nothing that the law and all that it calls make is longer than what came in: it says more and counts as full. Else prove '..UptoSaid'. A law counts once. -/
mutual
def uptoBulk {H : Type} : DataW H → Nat
  | .lit (.string bytes) => bytes.length + 1
  | .lit _ => 1
  | .nil => 1
  | .ptr d => uptoBulk d + 1
  | .slice elems spare => uptoBulkAll elems + uptoBulkAll spare + 1
  | .agg parts => uptoBulkAll parts + 1
  | .iface _ d => uptoBulk d + 1
  | .map entries => uptoBulkEntries entries + 1
  | .held _ => 1
def uptoBulkAll {H : Type} : List (DataW H) → Nat
  | [] => 0
  | d :: r => uptoBulk d + uptoBulkAll r
def uptoBulkEntries {H : Type} : List (Lit × DataW H) → Nat
  | [] => 0
  | x :: r => uptoBulkEntry x + uptoBulkEntries r
def uptoBulkEntry {H : Type} : Lit × DataW H → Nat
  | (.string bytes, d) => bytes.length + uptoBulk d + 1
  | (_, d) => uptoBulk d + 1
 end
def uptoSmall : (H : Type) → List (DataW H) → Bool := fun _ ds => decide (uptoBulkAll ds ≤ 1048576)
def OpenSpec.upto (s : _root_.Go.ChangeSpec) : _root_.Go.OpenSpec := { _root_.Go.OpenSpec.ofChange s with cond := some uptoSmall }

/-- 'laws.FnShorter', WHERE WHAT IT READS IS OF BULK AT MOST 1048576: true; the input reads as it did. -/
def fnShorterUptoRow : OpenClaim := { program := "ytemfgblmfahllaagreat", sum := "1ebdfcebeabdcbcc2b79ce7327e9f5cf81fce0b0c1962d03bfd143bd51e1707b", func := "loop.example/g01091/laws.FnShorter", spec := "fnShorter", unfollowed := true, recurses := true, plainKeys := false, apart := false, narrowed := true }
def FnShorterUptoSaid : Prop := fnShorterUptoRow.holds Tryz.pinned (OpenSpec.upto fnShorterSpec)

/-- 'laws.FnDepends', WHERE WHAT IT READS IS OF BULK AT MOST 1048576: true; the input reads as it did. -/
def fnDependsUptoRow : OpenClaim := { program := "ytemfgblmfahllaagreat", sum := "1ebdfcebeabdcbcc2b79ce7327e9f5cf81fce0b0c1962d03bfd143bd51e1707b", func := "loop.example/g01091/laws.FnDepends", spec := "fnDepends", unfollowed := true, recurses := true, plainKeys := false, apart := false, narrowed := true }
def FnDependsUptoSaid : Prop := fnDependsUptoRow.holds Tryz.pinned (OpenSpec.upto fnDependsSpec)

/-- 'laws.FnExactReverseRounds', WHERE WHAT IT READS IS OF BULK AT MOST 1048576: true; the input reads as it did. -/
def fnExactReverseRoundsUptoRow : OpenClaim := { program := "ytemfgblmfahllaagreat", sum := "1ebdfcebeabdcbcc2b79ce7327e9f5cf81fce0b0c1962d03bfd143bd51e1707b", func := "loop.example/g01091/laws.FnExactReverseRounds", spec := "fnExactReverseRounds", unfollowed := true, recurses := true, loops := true, plainKeys := false, apart := false, narrowed := true }
def FnExactReverseRoundsUptoSaid : Prop := fnExactReverseRoundsUptoRow.holds Tryz.pinned (OpenSpec.upto fnExactReverseRoundsSpec)

/-- 'laws.FnReversal', WHERE WHAT IT READS IS OF BULK AT MOST 1048576: true; the input reads as it did. -/
def fnReversalUptoRow : OpenClaim := { program := "ytemfgblmfahllaagreat", sum := "1ebdfcebeabdcbcc2b79ce7327e9f5cf81fce0b0c1962d03bfd143bd51e1707b", func := "loop.example/g01091/laws.FnReversal", spec := "fnReversal", unfollowed := true, recurses := true, plainKeys := false, apart := false, narrowed := true }
def FnReversalUptoSaid : Prop := fnReversalUptoRow.holds Tryz.pinned (OpenSpec.upto fnReversalSpec)

end Rows
end Go.Proofs.YtemfgblmfahllaaGreat
