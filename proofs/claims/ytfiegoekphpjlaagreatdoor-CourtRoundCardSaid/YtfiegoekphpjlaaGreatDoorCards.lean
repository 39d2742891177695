/-
  DERIVED. GIVEN WITH THE SEED: THE CARDS: each row of YtfiegoekphpjlaaGreatDoorRows.lean that lists a variable, with what it lists TIED to the program's text (the seventh form; the later family's looks); each row that meets fmt, with fmt's text TOLD by the authors' own Lean function (tested against real Go, not proved from fmt's source: count such statements apart). THE CARD IS WHAT COUNTS. Prove the row's statement (the work); the ties are given (YtfiegoekphpjlaaGreatDoorTie.lean); close each card by the builder's one call (the guide's Derived/Test/ToyasCard.lean, 'card_holds'). Laid BY PROGRAM, IN A SANDBOX (cutbox-door.mjs). By AI agents, Wed Nov 11 2026. No macro, syntax, notation, axiom, sorry.
-/
import Derived.Test.YtfiegoekphpjlaaGreatDoorRows
import GoSem.ClaimSeven
namespace Go.Proofs.YtfiegoekphpjlaaGreatDoor
namespace Rows

/-- THE TIED CARD OF 'norelaw12.CourtTexts'. -/
def courtTextsCard : Claim7 := { stood := { row := courtTextsRow, standIns := [], harness := (true, "49353969ba2844f8a936c42905be206ab48912e65df0f87be11d7189f00ae5c3"), looks := true }, kinds := [], alts := [], laidByText := true, laidKinds := [.data, .data, .data, .data, .sentinel, .sentinel, .pinned], laidTests := true, laidLooks := .later }
def CourtTextsCardSaid : Prop := Claim7.holds Tryz.pinned (.plain (OpenSpec.ofChange courtTextsSpec)) courtTextsCard

/-- THE TIED CARD OF 'norelaw12.CourtRound'. -/
def courtRoundCard : Claim7 := { stood := { row := courtRoundRow, standIns := [], harness := (true, "49353969ba2844f8a936c42905be206ab48912e65df0f87be11d7189f00ae5c3"), looks := true }, kinds := [], alts := [], laidByText := true, laidKinds := [.data, .data, .data, .data, .sentinel, .sentinel, .pinned], laidTests := true, laidLooks := .later }
def CourtRoundCardSaid : Prop := Claim7.holds Tryz.pinned (.plain (OpenSpec.ofChange courtRoundSpec)) courtRoundCard

/-- THE SECOND FORM's CARD OF 'norelaw12.CourtTexts'. -/
def courtTextsUptoCard : Claim7 := { stood := { row := courtTextsUptoRow, standIns := [], harness := (true, "49353969ba2844f8a936c42905be206ab48912e65df0f87be11d7189f00ae5c3"), looks := true }, kinds := [], alts := [], laidByText := true, laidKinds := [.data, .data, .data, .data, .sentinel, .sentinel, .pinned], laidTests := true, laidLooks := .later }
def CourtTextsUptoCardSaid : Prop := Claim7.holds Tryz.pinned (.plain (OpenSpec.upto courtTextsSpec)) courtTextsUptoCard

/-- THE SECOND FORM's CARD OF 'norelaw12.CourtRound'. -/
def courtRoundUptoCard : Claim7 := { stood := { row := courtRoundUptoRow, standIns := [], harness := (true, "49353969ba2844f8a936c42905be206ab48912e65df0f87be11d7189f00ae5c3"), looks := true }, kinds := [], alts := [], laidByText := true, laidKinds := [.data, .data, .data, .data, .sentinel, .sentinel, .pinned], laidTests := true, laidLooks := .later }
def CourtRoundUptoCardSaid : Prop := Claim7.holds Tryz.pinned (.plain (OpenSpec.upto courtRoundSpec)) courtRoundUptoCard
end Rows
end Go.Proofs.YtfiegoekphpjlaaGreatDoor
