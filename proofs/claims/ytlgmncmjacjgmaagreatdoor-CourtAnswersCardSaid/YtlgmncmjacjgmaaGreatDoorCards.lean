/-
  DERIVED. GIVEN WITH THE SEED: THE CARDS: each row of YtlgmncmjacjgmaaGreatDoorRows.lean that lists a variable, with what it lists TIED to the program's text (the seventh form; the later family's looks); each row that meets fmt, with fmt's text TOLD by the authors' own Lean function (tested against real Go, not proved from fmt's source: count such statements apart). THE CARD IS WHAT COUNTS. Prove the row's statement (the work); the ties are given (YtlgmncmjacjgmaaGreatDoorTie.lean); close each card by the builder's one call (the guide's Derived/Test/ToyasCard.lean, 'card_holds'). Laid BY PROGRAM, IN A SANDBOX (cutbox-door.mjs). By AI agents, Wed Nov 11 2026. No macro, syntax, notation, axiom, sorry.
-/
import Derived.Test.YtlgmncmjacjgmaaGreatDoorRows
import GoSem.ClaimSeven
namespace Go.Proofs.YtlgmncmjacjgmaaGreatDoor
namespace Rows

/-- THE TIED CARD OF 'norelaw12.CourtAnswers'. -/
def courtAnswersCard : Claim7 := { stood := { row := courtAnswersRow, standIns := [], harness := (true, "541c1d4be50d1ba40647a6e37f0f0f80e7f52995bf6db012032f69a64cf2f32c"), looks := true }, kinds := [], alts := [], laidByText := true, laidKinds := [.data, .data, .data, .data, .sentinel, .sentinel, .pinned], laidTests := true, laidLooks := .later }
def CourtAnswersCardSaid : Prop := Claim7.holds Tryz.pinned (.plain (OpenSpec.ofChange courtAnswersSpec)) courtAnswersCard

/-- THE TIED CARD OF 'norelaw12.CourtKnows'. -/
def courtKnowsCard : Claim7 := { stood := { row := courtKnowsRow, standIns := [], harness := (true, "541c1d4be50d1ba40647a6e37f0f0f80e7f52995bf6db012032f69a64cf2f32c"), looks := true }, kinds := [], alts := [], laidByText := true, laidKinds := [.data, .data, .data, .data, .sentinel, .sentinel, .pinned], laidTests := true, laidLooks := .later }
def CourtKnowsCardSaid : Prop := Claim7.holds Tryz.pinned (.plain (OpenSpec.ofChange courtKnowsSpec)) courtKnowsCard

/-- THE TIED CARD OF 'norelaw12.CourtOrder'. -/
def courtOrderCard : Claim7 := { stood := { row := courtOrderRow, standIns := [], harness := (true, "541c1d4be50d1ba40647a6e37f0f0f80e7f52995bf6db012032f69a64cf2f32c"), looks := true }, kinds := [], alts := [], laidByText := true, laidKinds := [.data, .data, .data, .data, .sentinel, .sentinel, .pinned], laidTests := true, laidLooks := .later }
def CourtOrderCardSaid : Prop := Claim7.holds Tryz.pinned (.plain (OpenSpec.ofChange courtOrderSpec)) courtOrderCard

/-- THE TIED CARD OF 'norelaw12.CourtTrue'. -/
def courtTrueCard : Claim7 := { stood := { row := courtTrueRow, standIns := [], harness := (true, "541c1d4be50d1ba40647a6e37f0f0f80e7f52995bf6db012032f69a64cf2f32c"), looks := true }, kinds := [], alts := [], laidByText := true, laidKinds := [.data, .data, .data, .data, .sentinel, .sentinel, .pinned], laidTests := true, laidLooks := .later }
def CourtTrueCardSaid : Prop := Claim7.holds Tryz.pinned (.plain (OpenSpec.ofChange courtTrueSpec)) courtTrueCard

/-- THE TIED CARD OF 'norelaw12.CourtReached'. -/
def courtReachedCard : Claim7 := { stood := { row := courtReachedRow, standIns := [], harness := (true, "541c1d4be50d1ba40647a6e37f0f0f80e7f52995bf6db012032f69a64cf2f32c"), looks := true }, kinds := [], alts := [], laidByText := true, laidKinds := [.data, .data, .data, .data, .sentinel, .sentinel, .pinned], laidTests := true, laidLooks := .later }
def CourtReachedCardSaid : Prop := Claim7.holds Tryz.pinned (.plain (OpenSpec.ofChange courtReachedSpec)) courtReachedCard

/-- THE SECOND FORM's CARD OF 'norelaw12.CourtAnswers'. -/
def courtAnswersUptoCard : Claim7 := { stood := { row := courtAnswersUptoRow, standIns := [], harness := (true, "541c1d4be50d1ba40647a6e37f0f0f80e7f52995bf6db012032f69a64cf2f32c"), looks := true }, kinds := [], alts := [], laidByText := true, laidKinds := [.data, .data, .data, .data, .sentinel, .sentinel, .pinned], laidTests := true, laidLooks := .later }
def CourtAnswersUptoCardSaid : Prop := Claim7.holds Tryz.pinned (.plain (OpenSpec.upto courtAnswersSpec)) courtAnswersUptoCard

/-- THE SECOND FORM's CARD OF 'norelaw12.CourtKnows'. -/
def courtKnowsUptoCard : Claim7 := { stood := { row := courtKnowsUptoRow, standIns := [], harness := (true, "541c1d4be50d1ba40647a6e37f0f0f80e7f52995bf6db012032f69a64cf2f32c"), looks := true }, kinds := [], alts := [], laidByText := true, laidKinds := [.data, .data, .data, .data, .sentinel, .sentinel, .pinned], laidTests := true, laidLooks := .later }
def CourtKnowsUptoCardSaid : Prop := Claim7.holds Tryz.pinned (.plain (OpenSpec.upto courtKnowsSpec)) courtKnowsUptoCard

/-- THE SECOND FORM's CARD OF 'norelaw12.CourtOrder'. -/
def courtOrderUptoCard : Claim7 := { stood := { row := courtOrderUptoRow, standIns := [], harness := (true, "541c1d4be50d1ba40647a6e37f0f0f80e7f52995bf6db012032f69a64cf2f32c"), looks := true }, kinds := [], alts := [], laidByText := true, laidKinds := [.data, .data, .data, .data, .sentinel, .sentinel, .pinned], laidTests := true, laidLooks := .later }
def CourtOrderUptoCardSaid : Prop := Claim7.holds Tryz.pinned (.plain (OpenSpec.upto courtOrderSpec)) courtOrderUptoCard

/-- THE SECOND FORM's CARD OF 'norelaw12.CourtTrue'. -/
def courtTrueUptoCard : Claim7 := { stood := { row := courtTrueUptoRow, standIns := [], harness := (true, "541c1d4be50d1ba40647a6e37f0f0f80e7f52995bf6db012032f69a64cf2f32c"), looks := true }, kinds := [], alts := [], laidByText := true, laidKinds := [.data, .data, .data, .data, .sentinel, .sentinel, .pinned], laidTests := true, laidLooks := .later }
def CourtTrueUptoCardSaid : Prop := Claim7.holds Tryz.pinned (.plain (OpenSpec.upto courtTrueSpec)) courtTrueUptoCard

/-- THE SECOND FORM's CARD OF 'norelaw12.CourtReached'. -/
def courtReachedUptoCard : Claim7 := { stood := { row := courtReachedUptoRow, standIns := [], harness := (true, "541c1d4be50d1ba40647a6e37f0f0f80e7f52995bf6db012032f69a64cf2f32c"), looks := true }, kinds := [], alts := [], laidByText := true, laidKinds := [.data, .data, .data, .data, .sentinel, .sentinel, .pinned], laidTests := true, laidLooks := .later }
def CourtReachedUptoCardSaid : Prop := Claim7.holds Tryz.pinned (.plain (OpenSpec.upto courtReachedSpec)) courtReachedUptoCard
end Rows
end Go.Proofs.YtlgmncmjacjgmaaGreatDoor
