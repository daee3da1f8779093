/-
  NARROWER THAN 'FOR EVERY INPUT', by the rows' own cells (each row's printed sentence says how): FnExactResidueOrder: loops · FnExactInversePath: loops · FnExactImplicitSeries: loops.
  DERIVED. THE GIVEN ROWS OF THIS SEAT. 8 by the template 'for every input the law returns true; each argument reads behind the call as it read before'; 0 by the template 'total and deterministic' (their statements: YtnokbaiemimhjaaGreatTotals.lean).
  GIVEN WITH THE SEED: the statements are not yours to turn. If you find one false, say at which input.
  Laid BY PROGRAM, IN A SANDBOX (cutbox-rows.mjs): the forced cells as the released guide's own fill.sh prints them over the translation cbeeb38ab925d989… (all of the seat's roots in one cut). By AI agents, Wed Nov 11 2026. No macro, syntax, notation, axiom, sorry.
-/
import Derived.Test.YtnokbaiemimhjaaGreatChecked
import GoSem.Claim
import GoSem.ClaimJoined
import GoSem.ClaimMapViews
import Derived.JoinedTies
import Derived.KernelRfl
namespace Go.Proofs.YtnokbaiemimhjaaGreat
/- THE CELL 'sum', in the pinned program and in every row, IS THE sha256 OF THE DUMP (.gsa) THAT YtnokbaiemimhjaaGreatProg.lean LOADS. Nothing in Lean hashes anything: it is a label: what it is worth is what the hold of that sum in a sandbox is worth. -/
noncomputable def Tryz.pinned : Pinned := { name := "ytnokbaiemimhjaagreat", sum := "cbeeb38ab925d9894eb5c10874fe2359576c1e28eaec3c43abda39e5d98ba946", checked := Tryz.checked }
namespace Rows
def none {H : Type} : Left H := { results := [], args := [] }

/-- 'laws.FnHessian': WHATEVER THE INPUT: true; the input reads as it did. -/
def fnHessianSpec : ChangeSpec := { name := "fnHessian", fn := fun _ => fun
  | [d1, d2] => { results := [.lit (.bool true)], args := [d1, d2] }
  | _ => none }
def fnHessianRow : OpenClaim := { program := "ytnokbaiemimhjaagreat", sum := "cbeeb38ab925d9894eb5c10874fe2359576c1e28eaec3c43abda39e5d98ba946", func := "loop.example/g01091/laws.FnHessian", spec := "fnHessian", unfollowed := true, recurses := true, apart := false }
def FnHessianSaid : Prop := fnHessianRow.holds Tryz.pinned (OpenSpec.ofChange fnHessianSpec)

/-- ITS FALSE NEIGHBOUR: 'it returns false'. Refute it at one input. -/
def fnHessianWrong : ChangeSpec := { name := "fnHessian", fn := fun _ => fun
  | [d1, d2] => { results := [.lit (.bool false)], args := [d1, d2] }
  | _ => none }
def FnHessianWrongFalsely : Prop := fnHessianRow.holds Tryz.pinned (OpenSpec.ofChange fnHessianWrong)

/-- 'laws.FnPaths': WHATEVER THE INPUT: true; the input reads as it did. -/
def fnPathsSpec : ChangeSpec := { name := "fnPaths", fn := fun _ => fun
  | [d1, d2] => { results := [.lit (.bool true)], args := [d1, d2] }
  | _ => none }
def fnPathsRow : OpenClaim := { program := "ytnokbaiemimhjaagreat", sum := "cbeeb38ab925d9894eb5c10874fe2359576c1e28eaec3c43abda39e5d98ba946", func := "loop.example/g01091/laws.FnPaths", spec := "fnPaths", unfollowed := true, recurses := true, apart := false }
def FnPathsSaid : Prop := fnPathsRow.holds Tryz.pinned (OpenSpec.ofChange fnPathsSpec)

/-- ITS FALSE NEIGHBOUR: 'it returns false'. Refute it at one input. -/
def fnPathsWrong : ChangeSpec := { name := "fnPaths", fn := fun _ => fun
  | [d1, d2] => { results := [.lit (.bool false)], args := [d1, d2] }
  | _ => none }
def FnPathsWrongFalsely : Prop := fnPathsRow.holds Tryz.pinned (OpenSpec.ofChange fnPathsWrong)

/-- 'laws.FnLineValues': WHATEVER THE INPUT: true; the input reads as it did. -/
def fnLineValuesSpec : ChangeSpec := { name := "fnLineValues", fn := fun _ => fun
  | [d1, d2] => { results := [.lit (.bool true)], args := [d1, d2] }
  | _ => none }
def fnLineValuesRow : OpenClaim := { program := "ytnokbaiemimhjaagreat", sum := "cbeeb38ab925d9894eb5c10874fe2359576c1e28eaec3c43abda39e5d98ba946", func := "loop.example/g01091/laws.FnLineValues", spec := "fnLineValues", unfollowed := true, recurses := true, apart := false }
def FnLineValuesSaid : Prop := fnLineValuesRow.holds Tryz.pinned (OpenSpec.ofChange fnLineValuesSpec)

/-- ITS FALSE NEIGHBOUR: 'it returns false'. Refute it at one input. -/
def fnLineValuesWrong : ChangeSpec := { name := "fnLineValues", fn := fun _ => fun
  | [d1, d2] => { results := [.lit (.bool false)], args := [d1, d2] }
  | _ => none }
def FnLineValuesWrongFalsely : Prop := fnLineValuesRow.holds Tryz.pinned (OpenSpec.ofChange fnLineValuesWrong)

/-- 'laws.FnExactResidueOrder': WHATEVER THE INPUT: true; the input reads as it did. -/
def fnExactResidueOrderSpec : ChangeSpec := { name := "fnExactResidueOrder", fn := fun _ => fun
  | [d1, d2, d3] => { results := [.lit (.bool true)], args := [d1, d2, d3] }
  | _ => none }
def fnExactResidueOrderRow : OpenClaim := { program := "ytnokbaiemimhjaagreat", sum := "cbeeb38ab925d9894eb5c10874fe2359576c1e28eaec3c43abda39e5d98ba946", func := "loop.example/g01091/laws.FnExactResidueOrder", spec := "fnExactResidueOrder", unfollowed := true, recurses := true, loops := true, apart := false }
def FnExactResidueOrderSaid : Prop := fnExactResidueOrderRow.holds Tryz.pinned (OpenSpec.ofChange fnExactResidueOrderSpec)

/-- ITS FALSE NEIGHBOUR: 'it returns false'. Refute it at one input. -/
def fnExactResidueOrderWrong : ChangeSpec := { name := "fnExactResidueOrder", fn := fun _ => fun
  | [d1, d2, d3] => { results := [.lit (.bool false)], args := [d1, d2, d3] }
  | _ => none }
def FnExactResidueOrderWrongFalsely : Prop := fnExactResidueOrderRow.holds Tryz.pinned (OpenSpec.ofChange fnExactResidueOrderWrong)

/-- 'laws.FnExactInversePath': WHATEVER THE INPUT: true; the input reads as it did. -/
def fnExactInversePathSpec : ChangeSpec := { name := "fnExactInversePath", fn := fun _ => fun
  | [d1, d2, d3, d4, d5] => { results := [.lit (.bool true)], args := [d1, d2, d3, d4, d5] }
  | _ => none }
def fnExactInversePathRow : OpenClaim := { program := "ytnokbaiemimhjaagreat", sum := "cbeeb38ab925d9894eb5c10874fe2359576c1e28eaec3c43abda39e5d98ba946", func := "loop.example/g01091/laws.FnExactInversePath", spec := "fnExactInversePath", unfollowed := true, recurses := true, loops := true, apart := false }
def FnExactInversePathSaid : Prop := fnExactInversePathRow.holds Tryz.pinned (OpenSpec.ofChange fnExactInversePathSpec)

/-- ITS FALSE NEIGHBOUR: 'it returns false'. Refute it at one input. -/
def fnExactInversePathWrong : ChangeSpec := { name := "fnExactInversePath", fn := fun _ => fun
  | [d1, d2, d3, d4, d5] => { results := [.lit (.bool false)], args := [d1, d2, d3, d4, d5] }
  | _ => none }
def FnExactInversePathWrongFalsely : Prop := fnExactInversePathRow.holds Tryz.pinned (OpenSpec.ofChange fnExactInversePathWrong)

/-- 'laws.FnExactImplicitSeries': WHATEVER THE INPUT: true; the input reads as it did. -/
def fnExactImplicitSeriesSpec : ChangeSpec := { name := "fnExactImplicitSeries", fn := fun _ => fun
  | [d1, d2, d3, d4] => { results := [.lit (.bool true)], args := [d1, d2, d3, d4] }
  | _ => none }
def fnExactImplicitSeriesRow : OpenClaim := { program := "ytnokbaiemimhjaagreat", sum := "cbeeb38ab925d9894eb5c10874fe2359576c1e28eaec3c43abda39e5d98ba946", func := "loop.example/g01091/laws.FnExactImplicitSeries", spec := "fnExactImplicitSeries", unfollowed := true, recurses := true, loops := true, apart := false }
def FnExactImplicitSeriesSaid : Prop := fnExactImplicitSeriesRow.holds Tryz.pinned (OpenSpec.ofChange fnExactImplicitSeriesSpec)

/-- ITS FALSE NEIGHBOUR: 'it returns false'. Refute it at one input. -/
def fnExactImplicitSeriesWrong : ChangeSpec := { name := "fnExactImplicitSeries", fn := fun _ => fun
  | [d1, d2, d3, d4] => { results := [.lit (.bool false)], args := [d1, d2, d3, d4] }
  | _ => none }
def FnExactImplicitSeriesWrongFalsely : Prop := fnExactImplicitSeriesRow.holds Tryz.pinned (OpenSpec.ofChange fnExactImplicitSeriesWrong)

/-- 'laws.FnNewton': WHATEVER THE INPUT: true; the input reads as it did. -/
def fnNewtonSpec : ChangeSpec := { name := "fnNewton", fn := fun _ => fun
  | [d1, d2] => { results := [.lit (.bool true)], args := [d1, d2] }
  | _ => none }
def fnNewtonRow : OpenClaim := { program := "ytnokbaiemimhjaagreat", sum := "cbeeb38ab925d9894eb5c10874fe2359576c1e28eaec3c43abda39e5d98ba946", func := "loop.example/g01091/laws.FnNewton", spec := "fnNewton", unfollowed := true, recurses := true, apart := false }
def FnNewtonSaid : Prop := fnNewtonRow.holds Tryz.pinned (OpenSpec.ofChange fnNewtonSpec)

/-- ITS FALSE NEIGHBOUR: 'it returns false'. Refute it at one input. -/
def fnNewtonWrong : ChangeSpec := { name := "fnNewton", fn := fun _ => fun
  | [d1, d2] => { results := [.lit (.bool false)], args := [d1, d2] }
  | _ => none }
def FnNewtonWrongFalsely : Prop := fnNewtonRow.holds Tryz.pinned (OpenSpec.ofChange fnNewtonWrong)

/-- 'laws.FnImplicit': WHATEVER THE INPUT: true; the input reads as it did. -/
def fnImplicitSpec : ChangeSpec := { name := "fnImplicit", fn := fun _ => fun
  | [d1, d2] => { results := [.lit (.bool true)], args := [d1, d2] }
  | _ => none }
def fnImplicitRow : OpenClaim := { program := "ytnokbaiemimhjaagreat", sum := "cbeeb38ab925d9894eb5c10874fe2359576c1e28eaec3c43abda39e5d98ba946", func := "loop.example/g01091/laws.FnImplicit", spec := "fnImplicit", unfollowed := true, recurses := true, apart := false }
def FnImplicitSaid : Prop := fnImplicitRow.holds Tryz.pinned (OpenSpec.ofChange fnImplicitSpec)

/-- ITS FALSE NEIGHBOUR: 'it returns false'. Refute it at one input. -/
def fnImplicitWrong : ChangeSpec := { name := "fnImplicit", fn := fun _ => fun
  | [d1, d2] => { results := [.lit (.bool false)], args := [d1, d2] }
  | _ => none }
def FnImplicitWrongFalsely : Prop := fnImplicitRow.holds Tryz.pinned (OpenSpec.ofChange fnImplicitWrong)

/- THE SECOND FORM. 'bulk': how many values and letters a reading holds, each counted each time it is reached (what is shared counts as often as it is met; a slice's spare places count too). A statement '..UptoSaid' is the law's where the arguments, and the package variables that the reading takes, are together of bulk at most 1048576: NARROWER than '..Said'. Prove '..Said' where nothing that the law and all that it calls make is longer than what came in: it says more and counts as full. Else prove '..UptoSaid'. A law counts once. -/
mutual
def uptoBulk {H : Type} : DataW H → Nat
  | .lit (.string bytes) => bytes.length + 1
  | .lit _ => 1
  | .nil => 1
  | .ptr d => uptoBulk d + 1
  | .slice elems spare => uptoBulkAll elems + uptoBulkAll spare + 1
  | .agg parts => uptoBulkAll parts + 1
  | .iface _ d => uptoBulk d + 1
  | .map entries => uptoBulkEntries entries + 1
  | .held _ => 1
def uptoBulkAll {H : Type} : List (DataW H) → Nat
  | [] => 0
  | d :: r => uptoBulk d + uptoBulkAll r
def uptoBulkEntries {H : Type} : List (Lit × DataW H) → Nat
  | [] => 0
  | x :: r => uptoBulkEntry x + uptoBulkEntries r
def uptoBulkEntry {H : Type} : Lit × DataW H → Nat
  | (.string bytes, d) => bytes.length + uptoBulk d + 1
  | (_, d) => uptoBulk d + 1
 end
def uptoSmall : (H : Type) → List (DataW H) → Bool := fun _ ds => decide (uptoBulkAll ds ≤ 1048576)
def OpenSpec.upto (s : _root_.Go.ChangeSpec) : _root_.Go.OpenSpec := { _root_.Go.OpenSpec.ofChange s with cond := some uptoSmall }

/-- 'laws.FnHessian', WHERE WHAT IT READS IS OF BULK AT MOST 1048576: true; the input reads as it did. -/
def fnHessianUptoRow : OpenClaim := { program := "ytnokbaiemimhjaagreat", sum := "cbeeb38ab925d9894eb5c10874fe2359576c1e28eaec3c43abda39e5d98ba946", func := "loop.example/g01091/laws.FnHessian", spec := "fnHessian", unfollowed := true, recurses := true, apart := false, narrowed := true }
def FnHessianUptoSaid : Prop := fnHessianUptoRow.holds Tryz.pinned (OpenSpec.upto fnHessianSpec)

/-- 'laws.FnPaths', WHERE WHAT IT READS IS OF BULK AT MOST 1048576: true; the input reads as it did. -/
def fnPathsUptoRow : OpenClaim := { program := "ytnokbaiemimhjaagreat", sum := "cbeeb38ab925d9894eb5c10874fe2359576c1e28eaec3c43abda39e5d98ba946", func := "loop.example/g01091/laws.FnPaths", spec := "fnPaths", unfollowed := true, recurses := true, apart := false, narrowed := true }
def FnPathsUptoSaid : Prop := fnPathsUptoRow.holds Tryz.pinned (OpenSpec.upto fnPathsSpec)

/-- 'laws.FnLineValues', WHERE WHAT IT READS IS OF BULK AT MOST 1048576: true; the input reads as it did. -/
def fnLineValuesUptoRow : OpenClaim := { program := "ytnokbaiemimhjaagreat", sum := "cbeeb38ab925d9894eb5c10874fe2359576c1e28eaec3c43abda39e5d98ba946", func := "loop.example/g01091/laws.FnLineValues", spec := "fnLineValues", unfollowed := true, recurses := true, apart := false, narrowed := true }
def FnLineValuesUptoSaid : Prop := fnLineValuesUptoRow.holds Tryz.pinned (OpenSpec.upto fnLineValuesSpec)

/-- 'laws.FnExactResidueOrder', WHERE WHAT IT READS IS OF BULK AT MOST 1048576: true; the input reads as it did. -/
def fnExactResidueOrderUptoRow : OpenClaim := { program := "ytnokbaiemimhjaagreat", sum := "cbeeb38ab925d9894eb5c10874fe2359576c1e28eaec3c43abda39e5d98ba946", func := "loop.example/g01091/laws.FnExactResidueOrder", spec := "fnExactResidueOrder", unfollowed := true, recurses := true, loops := true, apart := false, narrowed := true }
def FnExactResidueOrderUptoSaid : Prop := fnExactResidueOrderUptoRow.holds Tryz.pinned (OpenSpec.upto fnExactResidueOrderSpec)

/-- 'laws.FnExactInversePath', WHERE WHAT IT READS IS OF BULK AT MOST 1048576: true; the input reads as it did. -/
def fnExactInversePathUptoRow : OpenClaim := { program := "ytnokbaiemimhjaagreat", sum := "cbeeb38ab925d9894eb5c10874fe2359576c1e28eaec3c43abda39e5d98ba946", func := "loop.example/g01091/laws.FnExactInversePath", spec := "fnExactInversePath", unfollowed := true, recurses := true, loops := true, apart := false, narrowed := true }
def FnExactInversePathUptoSaid : Prop := fnExactInversePathUptoRow.holds Tryz.pinned (OpenSpec.upto fnExactInversePathSpec)

/-- 'laws.FnExactImplicitSeries', WHERE WHAT IT READS IS OF BULK AT MOST 1048576: true; the input reads as it did. -/
def fnExactImplicitSeriesUptoRow : OpenClaim := { program := "ytnokbaiemimhjaagreat", sum := "cbeeb38ab925d9894eb5c10874fe2359576c1e28eaec3c43abda39e5d98ba946", func := "loop.example/g01091/laws.FnExactImplicitSeries", spec := "fnExactImplicitSeries", unfollowed := true, recurses := true, loops := true, apart := false, narrowed := true }
def FnExactImplicitSeriesUptoSaid : Prop := fnExactImplicitSeriesUptoRow.holds Tryz.pinned (OpenSpec.upto fnExactImplicitSeriesSpec)

/-- 'laws.FnNewton', WHERE WHAT IT READS IS OF BULK AT MOST 1048576: true; the input reads as it did. -/
def fnNewtonUptoRow : OpenClaim := { program := "ytnokbaiemimhjaagreat", sum := "cbeeb38ab925d9894eb5c10874fe2359576c1e28eaec3c43abda39e5d98ba946", func := "loop.example/g01091/laws.FnNewton", spec := "fnNewton", unfollowed := true, recurses := true, apart := false, narrowed := true }
def FnNewtonUptoSaid : Prop := fnNewtonUptoRow.holds Tryz.pinned (OpenSpec.upto fnNewtonSpec)

/-- 'laws.FnImplicit', WHERE WHAT IT READS IS OF BULK AT MOST 1048576: true; the input reads as it did. -/
def fnImplicitUptoRow : OpenClaim := { program := "ytnokbaiemimhjaagreat", sum := "cbeeb38ab925d9894eb5c10874fe2359576c1e28eaec3c43abda39e5d98ba946", func := "loop.example/g01091/laws.FnImplicit", spec := "fnImplicit", unfollowed := true, recurses := true, apart := false, narrowed := true }
def FnImplicitUptoSaid : Prop := fnImplicitUptoRow.holds Tryz.pinned (OpenSpec.upto fnImplicitSpec)

end Rows
end Go.Proofs.YtnokbaiemimhjaaGreat
