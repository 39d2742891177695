/-
  DERIVED. GIVEN WITH THE SEED: THE CARDS: each row of YtaaalkppbbpacaaGreatDoorRows.lean that lists a variable, with what it lists TIED to the program's text (the seventh form; the later family's looks); each row that meets fmt, with fmt's text TOLD by the authors' own Lean function (tested against real Go, not proved from fmt's source: count such statements apart). THE CARD IS WHAT COUNTS. Prove the row's statement (the work); the ties are given (YtaaalkppbbpacaaGreatDoorTie.lean); close each card by the builder's one call (the guide's Derived/Test/ToyasCard.lean, 'card_holds'). Laid BY PROGRAM, IN A SANDBOX (cutbox-door.mjs). By AI agents, Wed Nov 11 2026. No macro, syntax, notation, axiom, sorry.
-/
import Derived.Test.YtaaalkppbbpacaaGreatDoorRows
import GoSem.ClaimSeven
namespace Go.Proofs.YtaaalkppbbpacaaGreatDoor
namespace Rows

/-- THE TIED CARD OF 'noretop.TopClear'. -/
def topClearCard : Claim7 := { stood := { row := topClearRow, standIns := [], harness := (true, "50cbdb67f63c12e386c9d486983096014435a8b528b121bc6d6ee433d870bcff"), looks := true }, kinds := [], alts := [], laidByText := true, laidKinds := [.data, .data, .data, .data, .sentinel, .sentinel, .pinned], laidTests := true, laidLooks := .later }
def TopClearCardSaid : Prop := Claim7.holds Tryz.pinned (.plain (OpenSpec.ofChange topClearSpec)) topClearCard

/-- THE TIED CARD OF 'noretop.TopSands'. -/
def topSandsCard : Claim7 := { stood := { row := topSandsRow, standIns := [], harness := (true, "50cbdb67f63c12e386c9d486983096014435a8b528b121bc6d6ee433d870bcff"), looks := true }, kinds := [], alts := [], laidByText := true, laidKinds := [.data, .data, .data, .data, .sentinel, .sentinel, .pinned], laidTests := true, laidLooks := .later }
def TopSandsCardSaid : Prop := Claim7.holds Tryz.pinned (.plain (OpenSpec.ofChange topSandsSpec)) topSandsCard

/-- THE SECOND FORM's CARD OF 'noretop.TopClear'. -/
def topClearUptoCard : Claim7 := { stood := { row := topClearUptoRow, standIns := [], harness := (true, "50cbdb67f63c12e386c9d486983096014435a8b528b121bc6d6ee433d870bcff"), looks := true }, kinds := [], alts := [], laidByText := true, laidKinds := [.data, .data, .data, .data, .sentinel, .sentinel, .pinned], laidTests := true, laidLooks := .later }
def TopClearUptoCardSaid : Prop := Claim7.holds Tryz.pinned (.plain (OpenSpec.upto topClearSpec)) topClearUptoCard

/-- THE SECOND FORM's CARD OF 'noretop.TopSands'. -/
def topSandsUptoCard : Claim7 := { stood := { row := topSandsUptoRow, standIns := [], harness := (true, "50cbdb67f63c12e386c9d486983096014435a8b528b121bc6d6ee433d870bcff"), looks := true }, kinds := [], alts := [], laidByText := true, laidKinds := [.data, .data, .data, .data, .sentinel, .sentinel, .pinned], laidTests := true, laidLooks := .later }
def TopSandsUptoCardSaid : Prop := Claim7.holds Tryz.pinned (.plain (OpenSpec.upto topSandsSpec)) topSandsUptoCard
end Rows
end Go.Proofs.YtaaalkppbbpacaaGreatDoor
