/-
  DERIVED. GIVEN WITH THE SEED: THE CARDS: each row of YtlbefjfhfodnlaaGreatDoorRows.lean that lists a variable, with what it lists TIED to the program's text (the seventh form; the later family's looks); each row that meets fmt, with fmt's text TOLD by the authors' own Lean function (tested against real Go, not proved from fmt's source: count such statements apart). THE CARD IS WHAT COUNTS. Prove the row's statement (the work); the ties are given (YtlbefjfhfodnlaaGreatDoorTie.lean); close each card by the builder's one call (the guide's Derived/Test/ToyasCard.lean, 'card_holds'). Laid BY PROGRAM, IN A SANDBOX (cutbox-door.mjs). By AI agents, Wed Nov 11 2026. No macro, syntax, notation, axiom, sorry.
-/
import Derived.Test.YtlbefjfhfodnlaaGreatDoorRows
import GoSem.ClaimSeven
namespace Go.Proofs.YtlbefjfhfodnlaaGreatDoor
namespace Rows

/-- THE TIED CARD OF 'laws.FnSchedules'. -/
def fnSchedulesCard : Claim7 := { stood := { row := fnSchedulesRow, standIns := [], harness := (true, "e0c4c5e39170255a4cd64fd011e80d06aecf28d6b37ae79ee70e33e7bbb448b7"), looks := true }, kinds := [], alts := [], laidByText := true, laidKinds := [.data, .data, .data, .data, .sentinel, .sentinel, .pinned], laidTests := true, laidLooks := .later }
def FnSchedulesCardSaid : Prop := Claim7.holds Tryz.pinned (.plain (OpenSpec.ofChange fnSchedulesSpec)) fnSchedulesCard

/-- THE TIED CARD OF 'laws.FnDerived'. -/
def fnDerivedCard : Claim7 := { stood := { row := fnDerivedRow, standIns := [], harness := (true, "e0c4c5e39170255a4cd64fd011e80d06aecf28d6b37ae79ee70e33e7bbb448b7"), looks := true }, kinds := [], alts := [], laidByText := true, laidKinds := [.data, .data, .data], laidTests := true, laidLooks := .later }
def FnDerivedCardSaid : Prop := Claim7.holds Tryz.pinned (.plain (OpenSpec.ofChange fnDerivedSpec)) fnDerivedCard

/-- THE TIED CARD OF 'laws.FnDerivedTwice'. -/
def fnDerivedTwiceCard : Claim7 := { stood := { row := fnDerivedTwiceRow, standIns := [], harness := (true, "e0c4c5e39170255a4cd64fd011e80d06aecf28d6b37ae79ee70e33e7bbb448b7"), looks := true }, kinds := [], alts := [], laidByText := true, laidKinds := [.data, .data, .data], laidTests := true, laidLooks := .later }
def FnDerivedTwiceCardSaid : Prop := Claim7.holds Tryz.pinned (.plain (OpenSpec.ofChange fnDerivedTwiceSpec)) fnDerivedTwiceCard

/-- THE SECOND FORM's CARD OF 'laws.FnSchedules'. -/
def fnSchedulesUptoCard : Claim7 := { stood := { row := fnSchedulesUptoRow, standIns := [], harness := (true, "e0c4c5e39170255a4cd64fd011e80d06aecf28d6b37ae79ee70e33e7bbb448b7"), looks := true }, kinds := [], alts := [], laidByText := true, laidKinds := [.data, .data, .data, .data, .sentinel, .sentinel, .pinned], laidTests := true, laidLooks := .later }
def FnSchedulesUptoCardSaid : Prop := Claim7.holds Tryz.pinned (.plain (OpenSpec.upto fnSchedulesSpec)) fnSchedulesUptoCard

/-- THE SECOND FORM's CARD OF 'laws.FnDerived'. -/
def fnDerivedUptoCard : Claim7 := { stood := { row := fnDerivedUptoRow, standIns := [], harness := (true, "e0c4c5e39170255a4cd64fd011e80d06aecf28d6b37ae79ee70e33e7bbb448b7"), looks := true }, kinds := [], alts := [], laidByText := true, laidKinds := [.data, .data, .data], laidTests := true, laidLooks := .later }
def FnDerivedUptoCardSaid : Prop := Claim7.holds Tryz.pinned (.plain (OpenSpec.upto fnDerivedSpec)) fnDerivedUptoCard

/-- THE SECOND FORM's CARD OF 'laws.FnDerivedTwice'. -/
def fnDerivedTwiceUptoCard : Claim7 := { stood := { row := fnDerivedTwiceUptoRow, standIns := [], harness := (true, "e0c4c5e39170255a4cd64fd011e80d06aecf28d6b37ae79ee70e33e7bbb448b7"), looks := true }, kinds := [], alts := [], laidByText := true, laidKinds := [.data, .data, .data], laidTests := true, laidLooks := .later }
def FnDerivedTwiceUptoCardSaid : Prop := Claim7.holds Tryz.pinned (.plain (OpenSpec.upto fnDerivedTwiceSpec)) fnDerivedTwiceUptoCard
end Rows
end Go.Proofs.YtlbefjfhfodnlaaGreatDoor
