/-
  DERIVED. GIVEN WITH THE SEED: THE CARDS: each row of YthkpjcjiolelnaaGreatDoorRows.lean that lists a variable, with what it lists TIED to the program's text (the seventh form; the later family's looks); each row that meets fmt, with fmt's text TOLD by the authors' own Lean function (tested against real Go, not proved from fmt's source: count such statements apart). THE CARD IS WHAT COUNTS. Prove the row's statement (the work); the ties are given (YthkpjcjiolelnaaGreatDoorTie.lean); close each card by the builder's one call (the guide's Derived/Test/ToyasCard.lean, 'card_holds'). Laid BY PROGRAM, IN A SANDBOX (cutbox-door.mjs). By AI agents, Wed Nov 11 2026. No macro, syntax, notation, axiom, sorry.
-/
import Derived.Test.YthkpjcjiolelnaaGreatDoorRows
import GoSem.ClaimSeven
namespace Go.Proofs.YthkpjcjiolelnaaGreatDoor
namespace Rows

/-- THE TIED CARD OF 'noretop.TopSworn'. -/
def topSwornCard : Claim7 := { stood := { row := topSwornRow, standIns := [], harness := (true, "342751a13a29dae2b22892144ffa5a7711ccf8eb65193d21d5aacfd7a52d23d1"), looks := true }, kinds := [], alts := [], laidByText := true, laidKinds := [.data, .data, .data, .data, .sentinel, .sentinel, .pinned], laidTests := true, laidLooks := .later }
def TopSwornCardSaid : Prop := Claim7.holds Tryz.pinned (.plain (OpenSpec.ofChange topSwornSpec)) topSwornCard

/-- THE SECOND FORM's CARD OF 'noretop.TopSworn'. -/
def topSwornUptoCard : Claim7 := { stood := { row := topSwornUptoRow, standIns := [], harness := (true, "342751a13a29dae2b22892144ffa5a7711ccf8eb65193d21d5aacfd7a52d23d1"), looks := true }, kinds := [], alts := [], laidByText := true, laidKinds := [.data, .data, .data, .data, .sentinel, .sentinel, .pinned], laidTests := true, laidLooks := .later }
def TopSwornUptoCardSaid : Prop := Claim7.holds Tryz.pinned (.plain (OpenSpec.upto topSwornSpec)) topSwornUptoCard
end Rows
end Go.Proofs.YthkpjcjiolelnaaGreatDoor
