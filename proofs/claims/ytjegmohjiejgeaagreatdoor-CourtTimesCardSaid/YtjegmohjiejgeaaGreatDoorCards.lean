/-
  DERIVED. GIVEN WITH THE SEED: THE CARDS: each row of YtjegmohjiejgeaaGreatDoorRows.lean that lists a variable, with what it lists TIED to the program's text (the seventh form; the later family's looks); each row that meets fmt, with fmt's text TOLD by the authors' own Lean function (tested against real Go, not proved from fmt's source: count such statements apart). THE CARD IS WHAT COUNTS. Prove the row's statement (the work); the ties are given (YtjegmohjiejgeaaGreatDoorTie.lean); close each card by the builder's one call (the guide's Derived/Test/ToyasCard.lean, 'card_holds'). Laid BY PROGRAM, IN A SANDBOX (cutbox-door.mjs). By AI agents, Wed Nov 11 2026. No macro, syntax, notation, axiom, sorry.
-/
import Derived.Test.YtjegmohjiejgeaaGreatDoorRows
import GoSem.ClaimSeven
namespace Go.Proofs.YtjegmohjiejgeaaGreatDoor
namespace Rows

/-- THE TIED CARD OF 'norelaw12.CourtTimes'. -/
def courtTimesCard : Claim7 := { stood := { row := courtTimesRow, standIns := [], harness := (true, "fcb49443a23229aa377453fd46f3c46bf3209f2b806b4220412b0148dfaee918"), looks := true }, kinds := [], alts := [], laidByText := true, laidKinds := [.data, .data, .data, .data, .sentinel, .sentinel, .pinned], laidTests := true, laidLooks := .later }
def CourtTimesCardSaid : Prop := Claim7.holds Tryz.pinned (.plain (OpenSpec.ofChange courtTimesSpec)) courtTimesCard

/-- THE SECOND FORM's CARD OF 'norelaw12.CourtTimes'. -/
def courtTimesUptoCard : Claim7 := { stood := { row := courtTimesUptoRow, standIns := [], harness := (true, "fcb49443a23229aa377453fd46f3c46bf3209f2b806b4220412b0148dfaee918"), looks := true }, kinds := [], alts := [], laidByText := true, laidKinds := [.data, .data, .data, .data, .sentinel, .sentinel, .pinned], laidTests := true, laidLooks := .later }
def CourtTimesUptoCardSaid : Prop := Claim7.holds Tryz.pinned (.plain (OpenSpec.upto courtTimesSpec)) courtTimesUptoCard
end Rows
end Go.Proofs.YtjegmohjiejgeaaGreatDoor
