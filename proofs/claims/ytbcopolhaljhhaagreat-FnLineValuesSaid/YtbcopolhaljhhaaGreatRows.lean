/-
  NARROWER THAN 'FOR EVERY INPUT', by the rows' own cells (each row's printed sentence says how): FnExactIsConserved: loops.
  DERIVED. THE GIVEN ROWS OF THIS SEAT. 6 by the template 'for every input the law returns true; each argument reads behind the call as it read before'; 0 by the template 'total and deterministic' (their statements: YtbcopolhaljhhaaGreatTotals.lean).
  GIVEN WITH THE SEED: the statements are not yours to turn. If you find one false, say at which input.
  Laid BY PROGRAM, IN A SANDBOX (cutbox-rows.mjs): the forced cells as the released guide's own fill.sh prints them over the translation cc7ff00e0595c3fe… (all of the seat's roots in one cut). By AI agents, Wed Nov 11 2026. No macro, syntax, notation, axiom, sorry.
-/
import Derived.Test.YtbcopolhaljhhaaGreatChecked
import GoSem.Claim
import GoSem.ClaimJoined
import GoSem.ClaimMapViews
import Derived.JoinedTies
import Derived.KernelRfl
namespace Go.Proofs.YtbcopolhaljhhaaGreat
/- THE CELL 'sum', in the pinned program and in every row, IS THE sha256 OF THE DUMP (.gsa) THAT YtbcopolhaljhhaaGreatProg.lean LOADS. Nothing in Lean hashes anything: it is a label: what it is worth is what the hold of that sum in a sandbox is worth. -/
noncomputable def Tryz.pinned : Pinned := { name := "ytbcopolhaljhhaagreat", sum := "cc7ff00e0595c3fe0577eba8d15eee8bdd9c68dc047669991d797ca177c410dc", checked := Tryz.checked }
namespace Rows
def none {H : Type} : Left H := { results := [], args := [] }

/-- 'laws.FnLineValues': WHATEVER THE INPUT: true; the input reads as it did. -/
def fnLineValuesSpec : ChangeSpec := { name := "fnLineValues", fn := fun _ => fun
  | [d1, d2] => { results := [.lit (.bool true)], args := [d1, d2] }
  | _ => none }
def fnLineValuesRow : OpenClaim := { program := "ytbcopolhaljhhaagreat", sum := "cc7ff00e0595c3fe0577eba8d15eee8bdd9c68dc047669991d797ca177c410dc", func := "loop.example/g01091/laws.FnLineValues", spec := "fnLineValues", unfollowed := true, recurses := true, apart := false }
def FnLineValuesSaid : Prop := fnLineValuesRow.holds Tryz.pinned (OpenSpec.ofChange fnLineValuesSpec)

/-- ITS FALSE NEIGHBOUR: 'it returns false'. Refute it at one input. -/
def fnLineValuesWrong : ChangeSpec := { name := "fnLineValues", fn := fun _ => fun
  | [d1, d2] => { results := [.lit (.bool false)], args := [d1, d2] }
  | _ => none }
def FnLineValuesWrongFalsely : Prop := fnLineValuesRow.holds Tryz.pinned (OpenSpec.ofChange fnLineValuesWrong)

/-- 'laws.FnPolynomial': WHATEVER THE INPUT: true; the input reads as it did. -/
def fnPolynomialSpec : ChangeSpec := { name := "fnPolynomial", fn := fun _ => fun
  | [d1, d2] => { results := [.lit (.bool true)], args := [d1, d2] }
  | _ => none }
def fnPolynomialRow : OpenClaim := { program := "ytbcopolhaljhhaagreat", sum := "cc7ff00e0595c3fe0577eba8d15eee8bdd9c68dc047669991d797ca177c410dc", func := "loop.example/g01091/laws.FnPolynomial", spec := "fnPolynomial", unfollowed := true, recurses := true, apart := false }
def FnPolynomialSaid : Prop := fnPolynomialRow.holds Tryz.pinned (OpenSpec.ofChange fnPolynomialSpec)

/-- ITS FALSE NEIGHBOUR: 'it returns false'. Refute it at one input. -/
def fnPolynomialWrong : ChangeSpec := { name := "fnPolynomial", fn := fun _ => fun
  | [d1, d2] => { results := [.lit (.bool false)], args := [d1, d2] }
  | _ => none }
def FnPolynomialWrongFalsely : Prop := fnPolynomialRow.holds Tryz.pinned (OpenSpec.ofChange fnPolynomialWrong)

/-- 'laws.FnExactIsConserved': WHATEVER THE INPUT: true; the input reads as it did. -/
def fnExactIsConservedSpec : ChangeSpec := { name := "fnExactIsConserved", fn := fun _ => fun
  | [d1, d2, d3] => { results := [.lit (.bool true)], args := [d1, d2, d3] }
  | _ => none }
def fnExactIsConservedRow : OpenClaim := { program := "ytbcopolhaljhhaagreat", sum := "cc7ff00e0595c3fe0577eba8d15eee8bdd9c68dc047669991d797ca177c410dc", func := "loop.example/g01091/laws.FnExactIsConserved", spec := "fnExactIsConserved", unfollowed := true, recurses := true, loops := true, apart := false }
def FnExactIsConservedSaid : Prop := fnExactIsConservedRow.holds Tryz.pinned (OpenSpec.ofChange fnExactIsConservedSpec)

/-- ITS FALSE NEIGHBOUR: 'it returns false'. Refute it at one input. -/
def fnExactIsConservedWrong : ChangeSpec := { name := "fnExactIsConserved", fn := fun _ => fun
  | [d1, d2, d3] => { results := [.lit (.bool false)], args := [d1, d2, d3] }
  | _ => none }
def FnExactIsConservedWrongFalsely : Prop := fnExactIsConservedRow.holds Tryz.pinned (OpenSpec.ofChange fnExactIsConservedWrong)

/-- 'laws.FnRules': WHATEVER THE INPUT: true; the input reads as it did. -/
def fnRulesSpec : ChangeSpec := { name := "fnRules", fn := fun _ => fun
  | [d1, d2] => { results := [.lit (.bool true)], args := [d1, d2] }
  | _ => none }
def fnRulesRow : OpenClaim := { program := "ytbcopolhaljhhaagreat", sum := "cc7ff00e0595c3fe0577eba8d15eee8bdd9c68dc047669991d797ca177c410dc", func := "loop.example/g01091/laws.FnRules", spec := "fnRules", unfollowed := true, recurses := true, apart := false }
def FnRulesSaid : Prop := fnRulesRow.holds Tryz.pinned (OpenSpec.ofChange fnRulesSpec)

/-- ITS FALSE NEIGHBOUR: 'it returns false'. Refute it at one input. -/
def fnRulesWrong : ChangeSpec := { name := "fnRules", fn := fun _ => fun
  | [d1, d2] => { results := [.lit (.bool false)], args := [d1, d2] }
  | _ => none }
def FnRulesWrongFalsely : Prop := fnRulesRow.holds Tryz.pinned (OpenSpec.ofChange fnRulesWrong)

/-- 'laws.FnRewrite': WHATEVER THE INPUT: true; the input reads as it did. -/
def fnRewriteSpec : ChangeSpec := { name := "fnRewrite", fn := fun _ => fun
  | [d1, d2] => { results := [.lit (.bool true)], args := [d1, d2] }
  | _ => none }
def fnRewriteRow : OpenClaim := { program := "ytbcopolhaljhhaagreat", sum := "cc7ff00e0595c3fe0577eba8d15eee8bdd9c68dc047669991d797ca177c410dc", func := "loop.example/g01091/laws.FnRewrite", spec := "fnRewrite", unfollowed := true, recurses := true, apart := false }
def FnRewriteSaid : Prop := fnRewriteRow.holds Tryz.pinned (OpenSpec.ofChange fnRewriteSpec)

/-- ITS FALSE NEIGHBOUR: 'it returns false'. Refute it at one input. -/
def fnRewriteWrong : ChangeSpec := { name := "fnRewrite", fn := fun _ => fun
  | [d1, d2] => { results := [.lit (.bool false)], args := [d1, d2] }
  | _ => none }
def FnRewriteWrongFalsely : Prop := fnRewriteRow.holds Tryz.pinned (OpenSpec.ofChange fnRewriteWrong)

/-- 'laws.FnSimplify': WHATEVER THE INPUT: true; the input reads as it did. -/
def fnSimplifySpec : ChangeSpec := { name := "fnSimplify", fn := fun _ => fun
  | [d1, d2] => { results := [.lit (.bool true)], args := [d1, d2] }
  | _ => none }
def fnSimplifyRow : OpenClaim := { program := "ytbcopolhaljhhaagreat", sum := "cc7ff00e0595c3fe0577eba8d15eee8bdd9c68dc047669991d797ca177c410dc", func := "loop.example/g01091/laws.FnSimplify", spec := "fnSimplify", unfollowed := true, recurses := true, apart := false }
def FnSimplifySaid : Prop := fnSimplifyRow.holds Tryz.pinned (OpenSpec.ofChange fnSimplifySpec)

/-- ITS FALSE NEIGHBOUR: 'it returns false'. Refute it at one input. -/
def fnSimplifyWrong : ChangeSpec := { name := "fnSimplify", fn := fun _ => fun
  | [d1, d2] => { results := [.lit (.bool false)], args := [d1, d2] }
  | _ => none }
def FnSimplifyWrongFalsely : Prop := fnSimplifyRow.holds Tryz.pinned (OpenSpec.ofChange fnSimplifyWrong)

/- THE SECOND FORM. 'bulk': how many values and letters a reading holds, each counted each time it is reached (what is shared counts as often as it is met; a slice's spare places count too). A statement '..UptoSaid' is the law's where the arguments, and the package variables that the reading takes, are together of bulk at most 1048576: NARROWER than '..Said'. Prove '..Said' where nothing that the law and all that it calls make is longer than what came in: it says more and counts as full. Else prove '..UptoSaid'. A law counts once. -/
mutual
def uptoBulk {H : Type} : DataW H → Nat
  | .lit (.string bytes) => bytes.length + 1
  | .lit _ => 1
  | .nil => 1
  | .ptr d => uptoBulk d + 1
  | .slice elems spare => uptoBulkAll elems + uptoBulkAll spare + 1
  | .agg parts => uptoBulkAll parts + 1
  | .iface _ d => uptoBulk d + 1
  | .map entries => uptoBulkEntries entries + 1
  | .held _ => 1
def uptoBulkAll {H : Type} : List (DataW H) → Nat
  | [] => 0
  | d :: r => uptoBulk d + uptoBulkAll r
def uptoBulkEntries {H : Type} : List (Lit × DataW H) → Nat
  | [] => 0
  | x :: r => uptoBulkEntry x + uptoBulkEntries r
def uptoBulkEntry {H : Type} : Lit × DataW H → Nat
  | (.string bytes, d) => bytes.length + uptoBulk d + 1
  | (_, d) => uptoBulk d + 1
 end
def uptoSmall : (H : Type) → List (DataW H) → Bool := fun _ ds => decide (uptoBulkAll ds ≤ 1048576)
def OpenSpec.upto (s : _root_.Go.ChangeSpec) : _root_.Go.OpenSpec := { _root_.Go.OpenSpec.ofChange s with cond := some uptoSmall }

/-- 'laws.FnLineValues', WHERE WHAT IT READS IS OF BULK AT MOST 1048576: true; the input reads as it did. -/
def fnLineValuesUptoRow : OpenClaim := { program := "ytbcopolhaljhhaagreat", sum := "cc7ff00e0595c3fe0577eba8d15eee8bdd9c68dc047669991d797ca177c410dc", func := "loop.example/g01091/laws.FnLineValues", spec := "fnLineValues", unfollowed := true, recurses := true, apart := false, narrowed := true }
def FnLineValuesUptoSaid : Prop := fnLineValuesUptoRow.holds Tryz.pinned (OpenSpec.upto fnLineValuesSpec)

/-- 'laws.FnPolynomial', WHERE WHAT IT READS IS OF BULK AT MOST 1048576: true; the input reads as it did. -/
def fnPolynomialUptoRow : OpenClaim := { program := "ytbcopolhaljhhaagreat", sum := "cc7ff00e0595c3fe0577eba8d15eee8bdd9c68dc047669991d797ca177c410dc", func := "loop.example/g01091/laws.FnPolynomial", spec := "fnPolynomial", unfollowed := true, recurses := true, apart := false, narrowed := true }
def FnPolynomialUptoSaid : Prop := fnPolynomialUptoRow.holds Tryz.pinned (OpenSpec.upto fnPolynomialSpec)

/-- 'laws.FnExactIsConserved', WHERE WHAT IT READS IS OF BULK AT MOST 1048576: true; the input reads as it did. -/
def fnExactIsConservedUptoRow : OpenClaim := { program := "ytbcopolhaljhhaagreat", sum := "cc7ff00e0595c3fe0577eba8d15eee8bdd9c68dc047669991d797ca177c410dc", func := "loop.example/g01091/laws.FnExactIsConserved", spec := "fnExactIsConserved", unfollowed := true, recurses := true, loops := true, apart := false, narrowed := true }
def FnExactIsConservedUptoSaid : Prop := fnExactIsConservedUptoRow.holds Tryz.pinned (OpenSpec.upto fnExactIsConservedSpec)

/-- 'laws.FnRules', WHERE WHAT IT READS IS OF BULK AT MOST 1048576: true; the input reads as it did. -/
def fnRulesUptoRow : OpenClaim := { program := "ytbcopolhaljhhaagreat", sum := "cc7ff00e0595c3fe0577eba8d15eee8bdd9c68dc047669991d797ca177c410dc", func := "loop.example/g01091/laws.FnRules", spec := "fnRules", unfollowed := true, recurses := true, apart := false, narrowed := true }
def FnRulesUptoSaid : Prop := fnRulesUptoRow.holds Tryz.pinned (OpenSpec.upto fnRulesSpec)

/-- 'laws.FnRewrite', WHERE WHAT IT READS IS OF BULK AT MOST 1048576: true; the input reads as it did. -/
def fnRewriteUptoRow : OpenClaim := { program := "ytbcopolhaljhhaagreat", sum := "cc7ff00e0595c3fe0577eba8d15eee8bdd9c68dc047669991d797ca177c410dc", func := "loop.example/g01091/laws.FnRewrite", spec := "fnRewrite", unfollowed := true, recurses := true, apart := false, narrowed := true }
def FnRewriteUptoSaid : Prop := fnRewriteUptoRow.holds Tryz.pinned (OpenSpec.upto fnRewriteSpec)

/-- 'laws.FnSimplify', WHERE WHAT IT READS IS OF BULK AT MOST 1048576: true; the input reads as it did. -/
def fnSimplifyUptoRow : OpenClaim := { program := "ytbcopolhaljhhaagreat", sum := "cc7ff00e0595c3fe0577eba8d15eee8bdd9c68dc047669991d797ca177c410dc", func := "loop.example/g01091/laws.FnSimplify", spec := "fnSimplify", unfollowed := true, recurses := true, apart := false, narrowed := true }
def FnSimplifyUptoSaid : Prop := fnSimplifyUptoRow.holds Tryz.pinned (OpenSpec.upto fnSimplifySpec)

end Rows
end Go.Proofs.YtbcopolhaljhhaaGreat
