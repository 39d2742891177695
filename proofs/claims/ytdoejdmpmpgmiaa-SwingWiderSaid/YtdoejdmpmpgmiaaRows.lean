/-
  No cell of these rows narrows 'for every input' (looked for: loops, veiled, ifaces, maps, wideKeys, modest, calm, conditions, laid).
  DERIVED. THE GIVEN ROWS OF THIS SEAT. 14 by the template 'for every input the law returns true; each argument reads behind the call as it read before'; 0 by the template 'total and deterministic' (their statements: YtdoejdmpmpgmiaaTotals.lean).
  GIVEN WITH THE SEED: the statements are not yours to turn. If you find one false, say at which input.
  Laid BY PROGRAM, IN A SANDBOX (cutbox-rows.mjs): the forced cells as the released guide's own fill.sh prints them over the translation 5cd63b2495b47baf… (all of the seat's roots in one cut). By AI agents, Wed Nov 11 2026. No macro, syntax, notation, axiom, sorry.
-/
import Derived.Test.YtdoejdmpmpgmiaaChecked
import GoSem.Claim
import GoSem.ClaimJoined
import GoSem.ClaimMapViews
import Derived.JoinedTies
import Derived.KernelRfl
namespace Go.Proofs.Ytdoejdmpmpgmiaa
/- THE CELL 'sum', in the pinned program and in every row, IS THE sha256 OF THE DUMP (.gsa) THAT YtdoejdmpmpgmiaaProg.lean LOADS. Nothing in Lean hashes anything: it is a label: what it is worth is what the hold of that sum in a sandbox is worth. -/
noncomputable def Try.pinned : Pinned := { name := "ytdoejdmpmpgmiaa", sum := "5cd63b2495b47bafa05ecf76f727e4c69ef025de4103e5ae176cba232dd1091b", checked := Try.checked }
namespace Rows
def none {H : Type} : Left H := { results := [], args := [] }

/-- 'norelaw04.SwingAnchors': WHATEVER THE INPUT: true; the input reads as it did. -/
def swingAnchorsSpec : ChangeSpec := { name := "swingAnchors", fn := fun _ => fun
  | [d1, d2] => { results := [.lit (.bool true)], args := [d1, d2] }
  | _ => none }
def swingAnchorsRow : OpenClaim := { program := "ytdoejdmpmpgmiaa", sum := "5cd63b2495b47bafa05ecf76f727e4c69ef025de4103e5ae176cba232dd1091b", func := "nore/norelaw04.SwingAnchors", spec := "swingAnchors", unfollowed := true, recurses := true, apart := false }
def SwingAnchorsSaid : Prop := swingAnchorsRow.holds Try.pinned (OpenSpec.ofChange swingAnchorsSpec)

/-- ITS FALSE NEIGHBOUR: 'it returns false'. Refute it at one input. -/
def swingAnchorsWrong : ChangeSpec := { name := "swingAnchors", fn := fun _ => fun
  | [d1, d2] => { results := [.lit (.bool false)], args := [d1, d2] }
  | _ => none }
def SwingAnchorsWrongFalsely : Prop := swingAnchorsRow.holds Try.pinned (OpenSpec.ofChange swingAnchorsWrong)

/-- 'norelaw04.SwingLies': WHATEVER THE INPUT: true; the input reads as it did. -/
def swingLiesSpec : ChangeSpec := { name := "swingLies", fn := fun _ => fun
  | [d1, d2, d3] => { results := [.lit (.bool true)], args := [d1, d2, d3] }
  | _ => none }
def swingLiesRow : OpenClaim := { program := "ytdoejdmpmpgmiaa", sum := "5cd63b2495b47bafa05ecf76f727e4c69ef025de4103e5ae176cba232dd1091b", func := "nore/norelaw04.SwingLies", spec := "swingLies", unfollowed := true, recurses := true, apart := false }
def SwingLiesSaid : Prop := swingLiesRow.holds Try.pinned (OpenSpec.ofChange swingLiesSpec)

/-- ITS FALSE NEIGHBOUR: 'it returns false'. Refute it at one input. -/
def swingLiesWrong : ChangeSpec := { name := "swingLies", fn := fun _ => fun
  | [d1, d2, d3] => { results := [.lit (.bool false)], args := [d1, d2, d3] }
  | _ => none }
def SwingLiesWrongFalsely : Prop := swingLiesRow.holds Try.pinned (OpenSpec.ofChange swingLiesWrong)

/-- 'norelaw04.SwingDrags': WHATEVER THE INPUT: true; the input reads as it did. -/
def swingDragsSpec : ChangeSpec := { name := "swingDrags", fn := fun _ => fun
  | [d1, d2] => { results := [.lit (.bool true)], args := [d1, d2] }
  | _ => none }
def swingDragsRow : OpenClaim := { program := "ytdoejdmpmpgmiaa", sum := "5cd63b2495b47bafa05ecf76f727e4c69ef025de4103e5ae176cba232dd1091b", func := "nore/norelaw04.SwingDrags", spec := "swingDrags", unfollowed := true, recurses := true, apart := false }
def SwingDragsSaid : Prop := swingDragsRow.holds Try.pinned (OpenSpec.ofChange swingDragsSpec)

/-- ITS FALSE NEIGHBOUR: 'it returns false'. Refute it at one input. -/
def swingDragsWrong : ChangeSpec := { name := "swingDrags", fn := fun _ => fun
  | [d1, d2] => { results := [.lit (.bool false)], args := [d1, d2] }
  | _ => none }
def SwingDragsWrongFalsely : Prop := swingDragsRow.holds Try.pinned (OpenSpec.ofChange swingDragsWrong)

/-- 'norelaw04.SwingDangers': WHATEVER THE INPUT: true; the input reads as it did. -/
def swingDangersSpec : ChangeSpec := { name := "swingDangers", fn := fun _ => fun
  | [d1, d2, d3] => { results := [.lit (.bool true)], args := [d1, d2, d3] }
  | _ => none }
def swingDangersRow : OpenClaim := { program := "ytdoejdmpmpgmiaa", sum := "5cd63b2495b47bafa05ecf76f727e4c69ef025de4103e5ae176cba232dd1091b", func := "nore/norelaw04.SwingDangers", spec := "swingDangers", unfollowed := true, recurses := true, apart := false }
def SwingDangersSaid : Prop := swingDangersRow.holds Try.pinned (OpenSpec.ofChange swingDangersSpec)

/-- ITS FALSE NEIGHBOUR: 'it returns false'. Refute it at one input. -/
def swingDangersWrong : ChangeSpec := { name := "swingDangers", fn := fun _ => fun
  | [d1, d2, d3] => { results := [.lit (.bool false)], args := [d1, d2, d3] }
  | _ => none }
def SwingDangersWrongFalsely : Prop := swingDangersRow.holds Try.pinned (OpenSpec.ofChange swingDangersWrong)

/-- 'norelaw04.SwingKnown': WHATEVER THE INPUT: true; the input reads as it did. -/
def swingKnownSpec : ChangeSpec := { name := "swingKnown", fn := fun _ => fun
  | [] => { results := [.lit (.bool true)], args := [] }
  | _ => none }
def swingKnownRow : OpenClaim := { program := "ytdoejdmpmpgmiaa", sum := "5cd63b2495b47bafa05ecf76f727e4c69ef025de4103e5ae176cba232dd1091b", func := "nore/norelaw04.SwingKnown", spec := "swingKnown", unfollowed := true, recurses := true, apart := false }
def SwingKnownSaid : Prop := swingKnownRow.holds Try.pinned (OpenSpec.ofChange swingKnownSpec)

/-- ITS FALSE NEIGHBOUR: 'it returns false'. Refute it at one input. -/
def swingKnownWrong : ChangeSpec := { name := "swingKnown", fn := fun _ => fun
  | [] => { results := [.lit (.bool false)], args := [] }
  | _ => none }
def SwingKnownWrongFalsely : Prop := swingKnownRow.holds Try.pinned (OpenSpec.ofChange swingKnownWrong)

/-- 'norelaw04.SwingTrue': WHATEVER THE INPUT: true; the input reads as it did. -/
def swingTrueSpec : ChangeSpec := { name := "swingTrue", fn := fun _ => fun
  | [d1, d2] => { results := [.lit (.bool true)], args := [d1, d2] }
  | _ => none }
def swingTrueRow : OpenClaim := { program := "ytdoejdmpmpgmiaa", sum := "5cd63b2495b47bafa05ecf76f727e4c69ef025de4103e5ae176cba232dd1091b", func := "nore/norelaw04.SwingTrue", spec := "swingTrue", unfollowed := true, recurses := true, apart := false }
def SwingTrueSaid : Prop := swingTrueRow.holds Try.pinned (OpenSpec.ofChange swingTrueSpec)

/-- ITS FALSE NEIGHBOUR: 'it returns false'. Refute it at one input. -/
def swingTrueWrong : ChangeSpec := { name := "swingTrue", fn := fun _ => fun
  | [d1, d2] => { results := [.lit (.bool false)], args := [d1, d2] }
  | _ => none }
def SwingTrueWrongFalsely : Prop := swingTrueRow.holds Try.pinned (OpenSpec.ofChange swingTrueWrong)

/-- 'norelaw04.SwingMore': WHATEVER THE INPUT: true; the input reads as it did. -/
def swingMoreSpec : ChangeSpec := { name := "swingMore", fn := fun _ => fun
  | [d1, d2, d3] => { results := [.lit (.bool true)], args := [d1, d2, d3] }
  | _ => none }
def swingMoreRow : OpenClaim := { program := "ytdoejdmpmpgmiaa", sum := "5cd63b2495b47bafa05ecf76f727e4c69ef025de4103e5ae176cba232dd1091b", func := "nore/norelaw04.SwingMore", spec := "swingMore", unfollowed := true, recurses := true, apart := false }
def SwingMoreSaid : Prop := swingMoreRow.holds Try.pinned (OpenSpec.ofChange swingMoreSpec)

/-- ITS FALSE NEIGHBOUR: 'it returns false'. Refute it at one input. -/
def swingMoreWrong : ChangeSpec := { name := "swingMore", fn := fun _ => fun
  | [d1, d2, d3] => { results := [.lit (.bool false)], args := [d1, d2, d3] }
  | _ => none }
def SwingMoreWrongFalsely : Prop := swingMoreRow.holds Try.pinned (OpenSpec.ofChange swingMoreWrong)

/-- 'norelaw04.SwingDragged': WHATEVER THE INPUT: true; the input reads as it did. -/
def swingDraggedSpec : ChangeSpec := { name := "swingDragged", fn := fun _ => fun
  | [d1, d2, d3] => { results := [.lit (.bool true)], args := [d1, d2, d3] }
  | _ => none }
def swingDraggedRow : OpenClaim := { program := "ytdoejdmpmpgmiaa", sum := "5cd63b2495b47bafa05ecf76f727e4c69ef025de4103e5ae176cba232dd1091b", func := "nore/norelaw04.SwingDragged", spec := "swingDragged", unfollowed := true, recurses := true, apart := false }
def SwingDraggedSaid : Prop := swingDraggedRow.holds Try.pinned (OpenSpec.ofChange swingDraggedSpec)

/-- ITS FALSE NEIGHBOUR: 'it returns false'. Refute it at one input. -/
def swingDraggedWrong : ChangeSpec := { name := "swingDragged", fn := fun _ => fun
  | [d1, d2, d3] => { results := [.lit (.bool false)], args := [d1, d2, d3] }
  | _ => none }
def SwingDraggedWrongFalsely : Prop := swingDraggedRow.holds Try.pinned (OpenSpec.ofChange swingDraggedWrong)

/-- 'norelaw04.SwingFewest': WHATEVER THE INPUT: true; the input reads as it did. -/
def swingFewestSpec : ChangeSpec := { name := "swingFewest", fn := fun _ => fun
  | [d1, d2, d3] => { results := [.lit (.bool true)], args := [d1, d2, d3] }
  | _ => none }
def swingFewestRow : OpenClaim := { program := "ytdoejdmpmpgmiaa", sum := "5cd63b2495b47bafa05ecf76f727e4c69ef025de4103e5ae176cba232dd1091b", func := "nore/norelaw04.SwingFewest", spec := "swingFewest", unfollowed := true, recurses := true, apart := false }
def SwingFewestSaid : Prop := swingFewestRow.holds Try.pinned (OpenSpec.ofChange swingFewestSpec)

/-- ITS FALSE NEIGHBOUR: 'it returns false'. Refute it at one input. -/
def swingFewestWrong : ChangeSpec := { name := "swingFewest", fn := fun _ => fun
  | [d1, d2, d3] => { results := [.lit (.bool false)], args := [d1, d2, d3] }
  | _ => none }
def SwingFewestWrongFalsely : Prop := swingFewestRow.holds Try.pinned (OpenSpec.ofChange swingFewestWrong)

/-- 'norelaw04.SwingClear': WHATEVER THE INPUT: true; the input reads as it did. -/
def swingClearSpec : ChangeSpec := { name := "swingClear", fn := fun _ => fun
  | [d1, d2, d3] => { results := [.lit (.bool true)], args := [d1, d2, d3] }
  | _ => none }
def swingClearRow : OpenClaim := { program := "ytdoejdmpmpgmiaa", sum := "5cd63b2495b47bafa05ecf76f727e4c69ef025de4103e5ae176cba232dd1091b", func := "nore/norelaw04.SwingClear", spec := "swingClear", unfollowed := true, recurses := true, apart := false }
def SwingClearSaid : Prop := swingClearRow.holds Try.pinned (OpenSpec.ofChange swingClearSpec)

/-- ITS FALSE NEIGHBOUR: 'it returns false'. Refute it at one input. -/
def swingClearWrong : ChangeSpec := { name := "swingClear", fn := fun _ => fun
  | [d1, d2, d3] => { results := [.lit (.bool false)], args := [d1, d2, d3] }
  | _ => none }
def SwingClearWrongFalsely : Prop := swingClearRow.holds Try.pinned (OpenSpec.ofChange swingClearWrong)

/-- 'norelaw04.SwingWrong': WHATEVER THE INPUT: true; the input reads as it did. -/
def swingWrongSpec : ChangeSpec := { name := "swingWrong", fn := fun _ => fun
  | [d1, d2, d3] => { results := [.lit (.bool true)], args := [d1, d2, d3] }
  | _ => none }
def swingWrongRow : OpenClaim := { program := "ytdoejdmpmpgmiaa", sum := "5cd63b2495b47bafa05ecf76f727e4c69ef025de4103e5ae176cba232dd1091b", func := "nore/norelaw04.SwingWrong", spec := "swingWrong", unfollowed := true, recurses := true, apart := false }
def SwingWrongSaid : Prop := swingWrongRow.holds Try.pinned (OpenSpec.ofChange swingWrongSpec)

/-- ITS FALSE NEIGHBOUR: 'it returns false'. Refute it at one input. -/
def swingWrongWrong : ChangeSpec := { name := "swingWrong", fn := fun _ => fun
  | [d1, d2, d3] => { results := [.lit (.bool false)], args := [d1, d2, d3] }
  | _ => none }
def SwingWrongWrongFalsely : Prop := swingWrongRow.holds Try.pinned (OpenSpec.ofChange swingWrongWrong)

/-- 'norelaw04.SwingFalse': WHATEVER THE INPUT: true; the input reads as it did. -/
def swingFalseSpec : ChangeSpec := { name := "swingFalse", fn := fun _ => fun
  | [d1, d2, d3] => { results := [.lit (.bool true)], args := [d1, d2, d3] }
  | _ => none }
def swingFalseRow : OpenClaim := { program := "ytdoejdmpmpgmiaa", sum := "5cd63b2495b47bafa05ecf76f727e4c69ef025de4103e5ae176cba232dd1091b", func := "nore/norelaw04.SwingFalse", spec := "swingFalse", unfollowed := true, recurses := true, apart := false }
def SwingFalseSaid : Prop := swingFalseRow.holds Try.pinned (OpenSpec.ofChange swingFalseSpec)

/-- ITS FALSE NEIGHBOUR: 'it returns false'. Refute it at one input. -/
def swingFalseWrong : ChangeSpec := { name := "swingFalse", fn := fun _ => fun
  | [d1, d2, d3] => { results := [.lit (.bool false)], args := [d1, d2, d3] }
  | _ => none }
def SwingFalseWrongFalsely : Prop := swingFalseRow.holds Try.pinned (OpenSpec.ofChange swingFalseWrong)

/-- 'norelaw04.SwingWider': WHATEVER THE INPUT: true; the input reads as it did. -/
def swingWiderSpec : ChangeSpec := { name := "swingWider", fn := fun _ => fun
  | [d1, d2, d3] => { results := [.lit (.bool true)], args := [d1, d2, d3] }
  | _ => none }
def swingWiderRow : OpenClaim := { program := "ytdoejdmpmpgmiaa", sum := "5cd63b2495b47bafa05ecf76f727e4c69ef025de4103e5ae176cba232dd1091b", func := "nore/norelaw04.SwingWider", spec := "swingWider", unfollowed := true, recurses := true, apart := false }
def SwingWiderSaid : Prop := swingWiderRow.holds Try.pinned (OpenSpec.ofChange swingWiderSpec)

/-- ITS FALSE NEIGHBOUR: 'it returns false'. Refute it at one input. -/
def swingWiderWrong : ChangeSpec := { name := "swingWider", fn := fun _ => fun
  | [d1, d2, d3] => { results := [.lit (.bool false)], args := [d1, d2, d3] }
  | _ => none }
def SwingWiderWrongFalsely : Prop := swingWiderRow.holds Try.pinned (OpenSpec.ofChange swingWiderWrong)

/-- 'norelaw04.SwingTurned': WHATEVER THE INPUT: true; the input reads as it did. -/
def swingTurnedSpec : ChangeSpec := { name := "swingTurned", fn := fun _ => fun
  | [d1, d2, d3] => { results := [.lit (.bool true)], args := [d1, d2, d3] }
  | _ => none }
def swingTurnedRow : OpenClaim := { program := "ytdoejdmpmpgmiaa", sum := "5cd63b2495b47bafa05ecf76f727e4c69ef025de4103e5ae176cba232dd1091b", func := "nore/norelaw04.SwingTurned", spec := "swingTurned", unfollowed := true, recurses := true, apart := false }
def SwingTurnedSaid : Prop := swingTurnedRow.holds Try.pinned (OpenSpec.ofChange swingTurnedSpec)

/-- ITS FALSE NEIGHBOUR: 'it returns false'. Refute it at one input. -/
def swingTurnedWrong : ChangeSpec := { name := "swingTurned", fn := fun _ => fun
  | [d1, d2, d3] => { results := [.lit (.bool false)], args := [d1, d2, d3] }
  | _ => none }
def SwingTurnedWrongFalsely : Prop := swingTurnedRow.holds Try.pinned (OpenSpec.ofChange swingTurnedWrong)

/- THE SECOND FORM. 'bulk': how many values and letters a reading holds, each counted each time it is reached (what is shared counts as often as it is met; a slice's spare places count too). A statement '..UptoSaid' is the law's where the arguments, and the package variables that the reading takes, are together of bulk at most 1048576: NARROWER than '..Said'. Prove '..Said' where nothing that the law and all that it calls make is longer than what came in: it says more and counts as full. Else prove '..UptoSaid'. A law counts once. -/
mutual
def uptoBulk {H : Type} : DataW H → Nat
  | .lit (.string bytes) => bytes.length + 1
  | .lit _ => 1
  | .nil => 1
  | .ptr d => uptoBulk d + 1
  | .slice elems spare => uptoBulkAll elems + uptoBulkAll spare + 1
  | .agg parts => uptoBulkAll parts + 1
  | .iface _ d => uptoBulk d + 1
  | .map entries => uptoBulkEntries entries + 1
  | .held _ => 1
def uptoBulkAll {H : Type} : List (DataW H) → Nat
  | [] => 0
  | d :: r => uptoBulk d + uptoBulkAll r
def uptoBulkEntries {H : Type} : List (Lit × DataW H) → Nat
  | [] => 0
  | x :: r => uptoBulkEntry x + uptoBulkEntries r
def uptoBulkEntry {H : Type} : Lit × DataW H → Nat
  | (.string bytes, d) => bytes.length + uptoBulk d + 1
  | (_, d) => uptoBulk d + 1
 end
def uptoSmall : (H : Type) → List (DataW H) → Bool := fun _ ds => decide (uptoBulkAll ds ≤ 1048576)
def OpenSpec.upto (s : _root_.Go.ChangeSpec) : _root_.Go.OpenSpec := { _root_.Go.OpenSpec.ofChange s with cond := some uptoSmall }

/-- 'norelaw04.SwingAnchors', WHERE WHAT IT READS IS OF BULK AT MOST 1048576: true; the input reads as it did. -/
def swingAnchorsUptoRow : OpenClaim := { program := "ytdoejdmpmpgmiaa", sum := "5cd63b2495b47bafa05ecf76f727e4c69ef025de4103e5ae176cba232dd1091b", func := "nore/norelaw04.SwingAnchors", spec := "swingAnchors", unfollowed := true, recurses := true, apart := false, narrowed := true }
def SwingAnchorsUptoSaid : Prop := swingAnchorsUptoRow.holds Try.pinned (OpenSpec.upto swingAnchorsSpec)

/-- 'norelaw04.SwingLies', WHERE WHAT IT READS IS OF BULK AT MOST 1048576: true; the input reads as it did. -/
def swingLiesUptoRow : OpenClaim := { program := "ytdoejdmpmpgmiaa", sum := "5cd63b2495b47bafa05ecf76f727e4c69ef025de4103e5ae176cba232dd1091b", func := "nore/norelaw04.SwingLies", spec := "swingLies", unfollowed := true, recurses := true, apart := false, narrowed := true }
def SwingLiesUptoSaid : Prop := swingLiesUptoRow.holds Try.pinned (OpenSpec.upto swingLiesSpec)

/-- 'norelaw04.SwingDrags', WHERE WHAT IT READS IS OF BULK AT MOST 1048576: true; the input reads as it did. -/
def swingDragsUptoRow : OpenClaim := { program := "ytdoejdmpmpgmiaa", sum := "5cd63b2495b47bafa05ecf76f727e4c69ef025de4103e5ae176cba232dd1091b", func := "nore/norelaw04.SwingDrags", spec := "swingDrags", unfollowed := true, recurses := true, apart := false, narrowed := true }
def SwingDragsUptoSaid : Prop := swingDragsUptoRow.holds Try.pinned (OpenSpec.upto swingDragsSpec)

/-- 'norelaw04.SwingDangers', WHERE WHAT IT READS IS OF BULK AT MOST 1048576: true; the input reads as it did. -/
def swingDangersUptoRow : OpenClaim := { program := "ytdoejdmpmpgmiaa", sum := "5cd63b2495b47bafa05ecf76f727e4c69ef025de4103e5ae176cba232dd1091b", func := "nore/norelaw04.SwingDangers", spec := "swingDangers", unfollowed := true, recurses := true, apart := false, narrowed := true }
def SwingDangersUptoSaid : Prop := swingDangersUptoRow.holds Try.pinned (OpenSpec.upto swingDangersSpec)

/-- 'norelaw04.SwingKnown', WHERE WHAT IT READS IS OF BULK AT MOST 1048576: true; the input reads as it did. -/
def swingKnownUptoRow : OpenClaim := { program := "ytdoejdmpmpgmiaa", sum := "5cd63b2495b47bafa05ecf76f727e4c69ef025de4103e5ae176cba232dd1091b", func := "nore/norelaw04.SwingKnown", spec := "swingKnown", unfollowed := true, recurses := true, apart := false, narrowed := true }
def SwingKnownUptoSaid : Prop := swingKnownUptoRow.holds Try.pinned (OpenSpec.upto swingKnownSpec)

/-- 'norelaw04.SwingTrue', WHERE WHAT IT READS IS OF BULK AT MOST 1048576: true; the input reads as it did. -/
def swingTrueUptoRow : OpenClaim := { program := "ytdoejdmpmpgmiaa", sum := "5cd63b2495b47bafa05ecf76f727e4c69ef025de4103e5ae176cba232dd1091b", func := "nore/norelaw04.SwingTrue", spec := "swingTrue", unfollowed := true, recurses := true, apart := false, narrowed := true }
def SwingTrueUptoSaid : Prop := swingTrueUptoRow.holds Try.pinned (OpenSpec.upto swingTrueSpec)

/-- 'norelaw04.SwingMore', WHERE WHAT IT READS IS OF BULK AT MOST 1048576: true; the input reads as it did. -/
def swingMoreUptoRow : OpenClaim := { program := "ytdoejdmpmpgmiaa", sum := "5cd63b2495b47bafa05ecf76f727e4c69ef025de4103e5ae176cba232dd1091b", func := "nore/norelaw04.SwingMore", spec := "swingMore", unfollowed := true, recurses := true, apart := false, narrowed := true }
def SwingMoreUptoSaid : Prop := swingMoreUptoRow.holds Try.pinned (OpenSpec.upto swingMoreSpec)

/-- 'norelaw04.SwingDragged', WHERE WHAT IT READS IS OF BULK AT MOST 1048576: true; the input reads as it did. -/
def swingDraggedUptoRow : OpenClaim := { program := "ytdoejdmpmpgmiaa", sum := "5cd63b2495b47bafa05ecf76f727e4c69ef025de4103e5ae176cba232dd1091b", func := "nore/norelaw04.SwingDragged", spec := "swingDragged", unfollowed := true, recurses := true, apart := false, narrowed := true }
def SwingDraggedUptoSaid : Prop := swingDraggedUptoRow.holds Try.pinned (OpenSpec.upto swingDraggedSpec)

/-- 'norelaw04.SwingFewest', WHERE WHAT IT READS IS OF BULK AT MOST 1048576: true; the input reads as it did. -/
def swingFewestUptoRow : OpenClaim := { program := "ytdoejdmpmpgmiaa", sum := "5cd63b2495b47bafa05ecf76f727e4c69ef025de4103e5ae176cba232dd1091b", func := "nore/norelaw04.SwingFewest", spec := "swingFewest", unfollowed := true, recurses := true, apart := false, narrowed := true }
def SwingFewestUptoSaid : Prop := swingFewestUptoRow.holds Try.pinned (OpenSpec.upto swingFewestSpec)

/-- 'norelaw04.SwingClear', WHERE WHAT IT READS IS OF BULK AT MOST 1048576: true; the input reads as it did. -/
def swingClearUptoRow : OpenClaim := { program := "ytdoejdmpmpgmiaa", sum := "5cd63b2495b47bafa05ecf76f727e4c69ef025de4103e5ae176cba232dd1091b", func := "nore/norelaw04.SwingClear", spec := "swingClear", unfollowed := true, recurses := true, apart := false, narrowed := true }
def SwingClearUptoSaid : Prop := swingClearUptoRow.holds Try.pinned (OpenSpec.upto swingClearSpec)

/-- 'norelaw04.SwingWrong', WHERE WHAT IT READS IS OF BULK AT MOST 1048576: true; the input reads as it did. -/
def swingWrongUptoRow : OpenClaim := { program := "ytdoejdmpmpgmiaa", sum := "5cd63b2495b47bafa05ecf76f727e4c69ef025de4103e5ae176cba232dd1091b", func := "nore/norelaw04.SwingWrong", spec := "swingWrong", unfollowed := true, recurses := true, apart := false, narrowed := true }
def SwingWrongUptoSaid : Prop := swingWrongUptoRow.holds Try.pinned (OpenSpec.upto swingWrongSpec)

/-- 'norelaw04.SwingFalse', WHERE WHAT IT READS IS OF BULK AT MOST 1048576: true; the input reads as it did. -/
def swingFalseUptoRow : OpenClaim := { program := "ytdoejdmpmpgmiaa", sum := "5cd63b2495b47bafa05ecf76f727e4c69ef025de4103e5ae176cba232dd1091b", func := "nore/norelaw04.SwingFalse", spec := "swingFalse", unfollowed := true, recurses := true, apart := false, narrowed := true }
def SwingFalseUptoSaid : Prop := swingFalseUptoRow.holds Try.pinned (OpenSpec.upto swingFalseSpec)

/-- 'norelaw04.SwingWider', WHERE WHAT IT READS IS OF BULK AT MOST 1048576: true; the input reads as it did. -/
def swingWiderUptoRow : OpenClaim := { program := "ytdoejdmpmpgmiaa", sum := "5cd63b2495b47bafa05ecf76f727e4c69ef025de4103e5ae176cba232dd1091b", func := "nore/norelaw04.SwingWider", spec := "swingWider", unfollowed := true, recurses := true, apart := false, narrowed := true }
def SwingWiderUptoSaid : Prop := swingWiderUptoRow.holds Try.pinned (OpenSpec.upto swingWiderSpec)

/-- 'norelaw04.SwingTurned', WHERE WHAT IT READS IS OF BULK AT MOST 1048576: true; the input reads as it did. -/
def swingTurnedUptoRow : OpenClaim := { program := "ytdoejdmpmpgmiaa", sum := "5cd63b2495b47bafa05ecf76f727e4c69ef025de4103e5ae176cba232dd1091b", func := "nore/norelaw04.SwingTurned", spec := "swingTurned", unfollowed := true, recurses := true, apart := false, narrowed := true }
def SwingTurnedUptoSaid : Prop := swingTurnedUptoRow.holds Try.pinned (OpenSpec.upto swingTurnedSpec)

end Rows
end Go.Proofs.Ytdoejdmpmpgmiaa
