/-
  DERIVED. GIVEN WITH THE SEED: THE CARDS: each row of YtlngokonhalcdaaGreatDoorRows.lean that lists a variable, with what it lists TIED to the program's text (the seventh form; the later family's looks); each row that meets fmt, with fmt's text TOLD by the authors' own Lean function (tested against real Go, not proved from fmt's source: count such statements apart). THE CARD IS WHAT COUNTS. Prove the row's statement (the work); the ties are given (YtlngokonhalcdaaGreatDoorTie.lean); close each card by the builder's one call (the guide's Derived/Test/ToyasCard.lean, 'card_holds'). Laid BY PROGRAM, IN A SANDBOX (cutbox-door.mjs). By AI agents, Wed Nov 11 2026. No macro, syntax, notation, axiom, sorry.
-/
import Derived.Test.YtlngokonhalcdaaGreatDoorRows
import GoSem.ClaimSeven
namespace Go.Proofs.YtlngokonhalcdaaGreatDoor
namespace Rows

/-- THE TIED CARD OF 'norelaw12.CourtStates'. -/
def courtStatesCard : Claim7 := { stood := { row := courtStatesRow, standIns := [], harness := (true, "9a6ea421806c1c153fe0dca1c109f116880d9d7a5e101dce762efae8d0a18b82"), looks := true }, kinds := [], alts := [], laidByText := true, laidKinds := [.data, .data, .data, .data, .sentinel, .sentinel, .pinned], laidTests := true, laidLooks := .later }
def CourtStatesCardSaid : Prop := Claim7.holds Tryz.pinned (.plain (OpenSpec.ofChange courtStatesSpec)) courtStatesCard

/-- THE TIED CARD OF 'norelaw12.CourtAnswers'. -/
def courtAnswersCard : Claim7 := { stood := { row := courtAnswersRow, standIns := [], harness := (true, "9a6ea421806c1c153fe0dca1c109f116880d9d7a5e101dce762efae8d0a18b82"), looks := true }, kinds := [], alts := [], laidByText := true, laidKinds := [.data, .data, .data, .data, .sentinel, .sentinel, .pinned], laidTests := true, laidLooks := .later }
def CourtAnswersCardSaid : Prop := Claim7.holds Tryz.pinned (.plain (OpenSpec.ofChange courtAnswersSpec)) courtAnswersCard

/-- THE TIED CARD OF 'norelaw12.CourtTexts'. -/
def courtTextsCard : Claim7 := { stood := { row := courtTextsRow, standIns := [], harness := (true, "9a6ea421806c1c153fe0dca1c109f116880d9d7a5e101dce762efae8d0a18b82"), looks := true }, kinds := [], alts := [], laidByText := true, laidKinds := [.data, .data, .data, .data, .sentinel, .sentinel, .pinned], laidTests := true, laidLooks := .later }
def CourtTextsCardSaid : Prop := Claim7.holds Tryz.pinned (.plain (OpenSpec.ofChange courtTextsSpec)) courtTextsCard

/-- THE TIED CARD OF 'norelaw12.CourtKnown'. -/
def courtKnownCard : Claim7 := { stood := { row := courtKnownRow, standIns := [], harness := (true, "9a6ea421806c1c153fe0dca1c109f116880d9d7a5e101dce762efae8d0a18b82"), looks := true }, kinds := [], alts := [], laidByText := true, laidKinds := [.data, .data, .data, .data, .sentinel, .sentinel, .pinned], laidTests := true, laidLooks := .later }
def CourtKnownCardSaid : Prop := Claim7.holds Tryz.pinned (.plain (OpenSpec.ofChange courtKnownSpec)) courtKnownCard

/-- THE TIED CARD OF 'norelaw12.CourtKnows'. -/
def courtKnowsCard : Claim7 := { stood := { row := courtKnowsRow, standIns := [], harness := (true, "9a6ea421806c1c153fe0dca1c109f116880d9d7a5e101dce762efae8d0a18b82"), looks := true }, kinds := [], alts := [], laidByText := true, laidKinds := [.data, .data, .data, .data, .sentinel, .sentinel, .pinned], laidTests := true, laidLooks := .later }
def CourtKnowsCardSaid : Prop := Claim7.holds Tryz.pinned (.plain (OpenSpec.ofChange courtKnowsSpec)) courtKnowsCard

/-- THE TIED CARD OF 'norelaw12.CourtHangs'. -/
def courtHangsCard : Claim7 := { stood := { row := courtHangsRow, standIns := [], harness := (true, "9a6ea421806c1c153fe0dca1c109f116880d9d7a5e101dce762efae8d0a18b82"), looks := true }, kinds := [], alts := [], laidByText := true, laidKinds := [.data, .data, .data, .data, .sentinel, .sentinel, .pinned], laidTests := true, laidLooks := .later }
def CourtHangsCardSaid : Prop := Claim7.holds Tryz.pinned (.plain (OpenSpec.ofChange courtHangsSpec)) courtHangsCard

/-- THE TIED CARD OF 'norelaw12.CourtFalse'. -/
def courtFalseCard : Claim7 := { stood := { row := courtFalseRow, standIns := [], harness := (true, "9a6ea421806c1c153fe0dca1c109f116880d9d7a5e101dce762efae8d0a18b82"), looks := true }, kinds := [], alts := [], laidByText := true, laidKinds := [.data, .data, .data, .data, .sentinel, .sentinel, .pinned], laidTests := true, laidLooks := .later }
def CourtFalseCardSaid : Prop := Claim7.holds Tryz.pinned (.plain (OpenSpec.ofChange courtFalseSpec)) courtFalseCard

/-- THE TIED CARD OF 'norelaw12.CourtOrder'. -/
def courtOrderCard : Claim7 := { stood := { row := courtOrderRow, standIns := [], harness := (true, "9a6ea421806c1c153fe0dca1c109f116880d9d7a5e101dce762efae8d0a18b82"), looks := true }, kinds := [], alts := [], laidByText := true, laidKinds := [.data, .data, .data, .data, .sentinel, .sentinel, .pinned], laidTests := true, laidLooks := .later }
def CourtOrderCardSaid : Prop := Claim7.holds Tryz.pinned (.plain (OpenSpec.ofChange courtOrderSpec)) courtOrderCard

/-- THE TIED CARD OF 'norelaw12.CourtRound'. -/
def courtRoundCard : Claim7 := { stood := { row := courtRoundRow, standIns := [], harness := (true, "9a6ea421806c1c153fe0dca1c109f116880d9d7a5e101dce762efae8d0a18b82"), looks := true }, kinds := [], alts := [], laidByText := true, laidKinds := [.data, .data, .data, .data, .sentinel, .sentinel, .pinned], laidTests := true, laidLooks := .later }
def CourtRoundCardSaid : Prop := Claim7.holds Tryz.pinned (.plain (OpenSpec.ofChange courtRoundSpec)) courtRoundCard

/-- THE TIED CARD OF 'norelaw12.CourtTimes'. -/
def courtTimesCard : Claim7 := { stood := { row := courtTimesRow, standIns := [], harness := (true, "9a6ea421806c1c153fe0dca1c109f116880d9d7a5e101dce762efae8d0a18b82"), looks := true }, kinds := [], alts := [], laidByText := true, laidKinds := [.data, .data, .data, .data, .sentinel, .sentinel, .pinned], laidTests := true, laidLooks := .later }
def CourtTimesCardSaid : Prop := Claim7.holds Tryz.pinned (.plain (OpenSpec.ofChange courtTimesSpec)) courtTimesCard

/-- THE TIED CARD OF 'norelaw12.CourtTrue'. -/
def courtTrueCard : Claim7 := { stood := { row := courtTrueRow, standIns := [], harness := (true, "9a6ea421806c1c153fe0dca1c109f116880d9d7a5e101dce762efae8d0a18b82"), looks := true }, kinds := [], alts := [], laidByText := true, laidKinds := [.data, .data, .data, .data, .sentinel, .sentinel, .pinned], laidTests := true, laidLooks := .later }
def CourtTrueCardSaid : Prop := Claim7.holds Tryz.pinned (.plain (OpenSpec.ofChange courtTrueSpec)) courtTrueCard

/-- THE TIED CARD OF 'norelaw12.CourtReached'. -/
def courtReachedCard : Claim7 := { stood := { row := courtReachedRow, standIns := [], harness := (true, "9a6ea421806c1c153fe0dca1c109f116880d9d7a5e101dce762efae8d0a18b82"), looks := true }, kinds := [], alts := [], laidByText := true, laidKinds := [.data, .data, .data, .data, .sentinel, .sentinel, .pinned], laidTests := true, laidLooks := .later }
def CourtReachedCardSaid : Prop := Claim7.holds Tryz.pinned (.plain (OpenSpec.ofChange courtReachedSpec)) courtReachedCard

/-- THE TIED CARD OF 'norelaw12.CourtFewest'. -/
def courtFewestCard : Claim7 := { stood := { row := courtFewestRow, standIns := [], harness := (true, "9a6ea421806c1c153fe0dca1c109f116880d9d7a5e101dce762efae8d0a18b82"), looks := true }, kinds := [], alts := [], laidByText := true, laidKinds := [.data, .data, .data, .data, .sentinel, .sentinel, .pinned], laidTests := true, laidLooks := .later }
def CourtFewestCardSaid : Prop := Claim7.holds Tryz.pinned (.plain (OpenSpec.ofChange courtFewestSpec)) courtFewestCard

/-- THE SECOND FORM's CARD OF 'norelaw12.CourtStates'. -/
def courtStatesUptoCard : Claim7 := { stood := { row := courtStatesUptoRow, standIns := [], harness := (true, "9a6ea421806c1c153fe0dca1c109f116880d9d7a5e101dce762efae8d0a18b82"), looks := true }, kinds := [], alts := [], laidByText := true, laidKinds := [.data, .data, .data, .data, .sentinel, .sentinel, .pinned], laidTests := true, laidLooks := .later }
def CourtStatesUptoCardSaid : Prop := Claim7.holds Tryz.pinned (.plain (OpenSpec.upto courtStatesSpec)) courtStatesUptoCard

/-- THE SECOND FORM's CARD OF 'norelaw12.CourtAnswers'. -/
def courtAnswersUptoCard : Claim7 := { stood := { row := courtAnswersUptoRow, standIns := [], harness := (true, "9a6ea421806c1c153fe0dca1c109f116880d9d7a5e101dce762efae8d0a18b82"), looks := true }, kinds := [], alts := [], laidByText := true, laidKinds := [.data, .data, .data, .data, .sentinel, .sentinel, .pinned], laidTests := true, laidLooks := .later }
def CourtAnswersUptoCardSaid : Prop := Claim7.holds Tryz.pinned (.plain (OpenSpec.upto courtAnswersSpec)) courtAnswersUptoCard

/-- THE SECOND FORM's CARD OF 'norelaw12.CourtTexts'. -/
def courtTextsUptoCard : Claim7 := { stood := { row := courtTextsUptoRow, standIns := [], harness := (true, "9a6ea421806c1c153fe0dca1c109f116880d9d7a5e101dce762efae8d0a18b82"), looks := true }, kinds := [], alts := [], laidByText := true, laidKinds := [.data, .data, .data, .data, .sentinel, .sentinel, .pinned], laidTests := true, laidLooks := .later }
def CourtTextsUptoCardSaid : Prop := Claim7.holds Tryz.pinned (.plain (OpenSpec.upto courtTextsSpec)) courtTextsUptoCard

/-- THE SECOND FORM's CARD OF 'norelaw12.CourtKnown'. -/
def courtKnownUptoCard : Claim7 := { stood := { row := courtKnownUptoRow, standIns := [], harness := (true, "9a6ea421806c1c153fe0dca1c109f116880d9d7a5e101dce762efae8d0a18b82"), looks := true }, kinds := [], alts := [], laidByText := true, laidKinds := [.data, .data, .data, .data, .sentinel, .sentinel, .pinned], laidTests := true, laidLooks := .later }
def CourtKnownUptoCardSaid : Prop := Claim7.holds Tryz.pinned (.plain (OpenSpec.upto courtKnownSpec)) courtKnownUptoCard

/-- THE SECOND FORM's CARD OF 'norelaw12.CourtKnows'. -/
def courtKnowsUptoCard : Claim7 := { stood := { row := courtKnowsUptoRow, standIns := [], harness := (true, "9a6ea421806c1c153fe0dca1c109f116880d9d7a5e101dce762efae8d0a18b82"), looks := true }, kinds := [], alts := [], laidByText := true, laidKinds := [.data, .data, .data, .data, .sentinel, .sentinel, .pinned], laidTests := true, laidLooks := .later }
def CourtKnowsUptoCardSaid : Prop := Claim7.holds Tryz.pinned (.plain (OpenSpec.upto courtKnowsSpec)) courtKnowsUptoCard

/-- THE SECOND FORM's CARD OF 'norelaw12.CourtHangs'. -/
def courtHangsUptoCard : Claim7 := { stood := { row := courtHangsUptoRow, standIns := [], harness := (true, "9a6ea421806c1c153fe0dca1c109f116880d9d7a5e101dce762efae8d0a18b82"), looks := true }, kinds := [], alts := [], laidByText := true, laidKinds := [.data, .data, .data, .data, .sentinel, .sentinel, .pinned], laidTests := true, laidLooks := .later }
def CourtHangsUptoCardSaid : Prop := Claim7.holds Tryz.pinned (.plain (OpenSpec.upto courtHangsSpec)) courtHangsUptoCard

/-- THE SECOND FORM's CARD OF 'norelaw12.CourtFalse'. -/
def courtFalseUptoCard : Claim7 := { stood := { row := courtFalseUptoRow, standIns := [], harness := (true, "9a6ea421806c1c153fe0dca1c109f116880d9d7a5e101dce762efae8d0a18b82"), looks := true }, kinds := [], alts := [], laidByText := true, laidKinds := [.data, .data, .data, .data, .sentinel, .sentinel, .pinned], laidTests := true, laidLooks := .later }
def CourtFalseUptoCardSaid : Prop := Claim7.holds Tryz.pinned (.plain (OpenSpec.upto courtFalseSpec)) courtFalseUptoCard

/-- THE SECOND FORM's CARD OF 'norelaw12.CourtOrder'. -/
def courtOrderUptoCard : Claim7 := { stood := { row := courtOrderUptoRow, standIns := [], harness := (true, "9a6ea421806c1c153fe0dca1c109f116880d9d7a5e101dce762efae8d0a18b82"), looks := true }, kinds := [], alts := [], laidByText := true, laidKinds := [.data, .data, .data, .data, .sentinel, .sentinel, .pinned], laidTests := true, laidLooks := .later }
def CourtOrderUptoCardSaid : Prop := Claim7.holds Tryz.pinned (.plain (OpenSpec.upto courtOrderSpec)) courtOrderUptoCard

/-- THE SECOND FORM's CARD OF 'norelaw12.CourtRound'. -/
def courtRoundUptoCard : Claim7 := { stood := { row := courtRoundUptoRow, standIns := [], harness := (true, "9a6ea421806c1c153fe0dca1c109f116880d9d7a5e101dce762efae8d0a18b82"), looks := true }, kinds := [], alts := [], laidByText := true, laidKinds := [.data, .data, .data, .data, .sentinel, .sentinel, .pinned], laidTests := true, laidLooks := .later }
def CourtRoundUptoCardSaid : Prop := Claim7.holds Tryz.pinned (.plain (OpenSpec.upto courtRoundSpec)) courtRoundUptoCard

/-- THE SECOND FORM's CARD OF 'norelaw12.CourtTimes'. -/
def courtTimesUptoCard : Claim7 := { stood := { row := courtTimesUptoRow, standIns := [], harness := (true, "9a6ea421806c1c153fe0dca1c109f116880d9d7a5e101dce762efae8d0a18b82"), looks := true }, kinds := [], alts := [], laidByText := true, laidKinds := [.data, .data, .data, .data, .sentinel, .sentinel, .pinned], laidTests := true, laidLooks := .later }
def CourtTimesUptoCardSaid : Prop := Claim7.holds Tryz.pinned (.plain (OpenSpec.upto courtTimesSpec)) courtTimesUptoCard

/-- THE SECOND FORM's CARD OF 'norelaw12.CourtTrue'. -/
def courtTrueUptoCard : Claim7 := { stood := { row := courtTrueUptoRow, standIns := [], harness := (true, "9a6ea421806c1c153fe0dca1c109f116880d9d7a5e101dce762efae8d0a18b82"), looks := true }, kinds := [], alts := [], laidByText := true, laidKinds := [.data, .data, .data, .data, .sentinel, .sentinel, .pinned], laidTests := true, laidLooks := .later }
def CourtTrueUptoCardSaid : Prop := Claim7.holds Tryz.pinned (.plain (OpenSpec.upto courtTrueSpec)) courtTrueUptoCard

/-- THE SECOND FORM's CARD OF 'norelaw12.CourtReached'. -/
def courtReachedUptoCard : Claim7 := { stood := { row := courtReachedUptoRow, standIns := [], harness := (true, "9a6ea421806c1c153fe0dca1c109f116880d9d7a5e101dce762efae8d0a18b82"), looks := true }, kinds := [], alts := [], laidByText := true, laidKinds := [.data, .data, .data, .data, .sentinel, .sentinel, .pinned], laidTests := true, laidLooks := .later }
def CourtReachedUptoCardSaid : Prop := Claim7.holds Tryz.pinned (.plain (OpenSpec.upto courtReachedSpec)) courtReachedUptoCard

/-- THE SECOND FORM's CARD OF 'norelaw12.CourtFewest'. -/
def courtFewestUptoCard : Claim7 := { stood := { row := courtFewestUptoRow, standIns := [], harness := (true, "9a6ea421806c1c153fe0dca1c109f116880d9d7a5e101dce762efae8d0a18b82"), looks := true }, kinds := [], alts := [], laidByText := true, laidKinds := [.data, .data, .data, .data, .sentinel, .sentinel, .pinned], laidTests := true, laidLooks := .later }
def CourtFewestUptoCardSaid : Prop := Claim7.holds Tryz.pinned (.plain (OpenSpec.upto courtFewestSpec)) courtFewestUptoCard
end Rows
end Go.Proofs.YtlngokonhalcdaaGreatDoor
