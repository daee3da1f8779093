/-
  DERIVED. GIVEN WITH THE SEED: THE CARDS: each row of YtlbefjfhfodnlaaDoorRows.lean that lists a variable, with what it lists TIED to the program's text (the seventh form; the later family's looks); each row that meets fmt, with fmt's text TOLD by the authors' own Lean function (tested against real Go, not proved from fmt's source: count such statements apart). THE CARD IS WHAT COUNTS. Prove the row's statement (the work); the ties are given (YtlbefjfhfodnlaaDoorTie.lean); close each card by the builder's one call (the guide's Derived/Test/ToyasCard.lean, 'card_holds'). Laid BY PROGRAM, IN A SANDBOX (cutbox-door.mjs). By AI agents, Wed Nov 11 2026. No macro, syntax, notation, axiom, sorry.
-/
import Derived.Test.YtlbefjfhfodnlaaDoorRows
import GoSem.ClaimSeven
namespace Go.Proofs.YtlbefjfhfodnlaaDoor
namespace Rows

/-- THE TIED CARD OF 'laws.FnInterpolate'. -/
def fnInterpolateCard : Claim7 := { stood := { row := fnInterpolateRow, standIns := [], harness := (true, "04117a15c5abf79573269dbb5d89da46634adea2e7717e3ded416e02e379f033"), looks := true }, kinds := [], alts := [], laidByText := true, laidKinds := [.data, .data, .data, .data, .sentinel, .sentinel, .pinned], laidTests := true, laidLooks := .later }
def FnInterpolateCardSaid : Prop := Claim7.holds Tryd.pinned (.plain (OpenSpec.ofChange fnInterpolateSpec)) fnInterpolateCard

/-- THE TIED CARD OF 'laws.FnExactReadSchedule'. -/
def fnExactReadScheduleCard : Claim7 := { stood := { row := fnExactReadScheduleRow, standIns := [], harness := (true, "04117a15c5abf79573269dbb5d89da46634adea2e7717e3ded416e02e379f033"), looks := true }, kinds := [], alts := [], laidByText := true, laidKinds := [.data, .data, .data, .data, .sentinel, .sentinel, .pinned], laidTests := true, laidLooks := .later }
def FnExactReadScheduleCardSaid : Prop := Claim7.holds Tryd.pinned (.plain (OpenSpec.ofChange fnExactReadScheduleSpec)) fnExactReadScheduleCard

/-- THE SECOND FORM's CARD OF 'laws.FnInterpolate'. -/
def fnInterpolateUptoCard : Claim7 := { stood := { row := fnInterpolateUptoRow, standIns := [], harness := (true, "04117a15c5abf79573269dbb5d89da46634adea2e7717e3ded416e02e379f033"), looks := true }, kinds := [], alts := [], laidByText := true, laidKinds := [.data, .data, .data, .data, .sentinel, .sentinel, .pinned], laidTests := true, laidLooks := .later }
def FnInterpolateUptoCardSaid : Prop := Claim7.holds Tryd.pinned (.plain (OpenSpec.upto fnInterpolateSpec)) fnInterpolateUptoCard

/-- THE SECOND FORM's CARD OF 'laws.FnExactReadSchedule'. -/
def fnExactReadScheduleUptoCard : Claim7 := { stood := { row := fnExactReadScheduleUptoRow, standIns := [], harness := (true, "04117a15c5abf79573269dbb5d89da46634adea2e7717e3ded416e02e379f033"), looks := true }, kinds := [], alts := [], laidByText := true, laidKinds := [.data, .data, .data, .data, .sentinel, .sentinel, .pinned], laidTests := true, laidLooks := .later }
def FnExactReadScheduleUptoCardSaid : Prop := Claim7.holds Tryd.pinned (.plain (OpenSpec.upto fnExactReadScheduleSpec)) fnExactReadScheduleUptoCard
end Rows
end Go.Proofs.YtlbefjfhfodnlaaDoor
