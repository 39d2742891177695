/-
  No cell of these rows narrows 'for every input' (looked for: loops, veiled, ifaces, maps, wideKeys, modest, calm, conditions, laid).
  DERIVED. THE GIVEN ROWS OF THIS SEAT. 8 by the template 'for every input the law returns true; each argument reads behind the call as it read before'; 0 by the template 'total and deterministic' (their statements: YtehofdemanfenaaTotals.lean).
  GIVEN WITH THE SEED: the statements are not yours to turn. If you find one false, say at which input.
  Laid BY PROGRAM, IN A SANDBOX (cutbox-rows.mjs): the forced cells as the released guide's own fill.sh prints them over the translation 7d866138c9d4e952… (all of the seat's roots in one cut). By AI agents, Wed Nov 11 2026. No macro, syntax, notation, axiom, sorry.
-/
import Derived.Test.YtehofdemanfenaaChecked
import GoSem.Claim
import GoSem.ClaimJoined
import GoSem.ClaimMapViews
import Derived.JoinedTies
import Derived.KernelRfl
namespace Go.Proofs.Ytehofdemanfenaa
/- THE CELL 'sum', in the pinned program and in every row, IS THE sha256 OF THE DUMP (.gsa) THAT YtehofdemanfenaaProg.lean LOADS. Nothing in Lean hashes anything: it is a label: what it is worth is what the hold of that sum in a sandbox is worth. -/
noncomputable def Try.pinned : Pinned := { name := "ytehofdemanfenaa", sum := "7d866138c9d4e9523097a65e76b2cf4e3a5c6893a9960828d574e742b8ea9e0d", checked := Try.checked }
namespace Rows
def none {H : Type} : Left H := { results := [], args := [] }

/-- 'norelaw02.FixKnown': WHATEVER THE INPUT: true; the input reads as it did. -/
def fixKnownSpec : ChangeSpec := { name := "fixKnown", fn := fun _ => fun
  | [] => { results := [.lit (.bool true)], args := [] }
  | _ => none }
def fixKnownRow : OpenClaim := { program := "ytehofdemanfenaa", sum := "7d866138c9d4e9523097a65e76b2cf4e3a5c6893a9960828d574e742b8ea9e0d", func := "nore/norelaw02.FixKnown", spec := "fixKnown", unfollowed := true, recurses := true, plainKeys := false, apart := false }
def FixKnownSaid : Prop := fixKnownRow.holds Try.pinned (OpenSpec.ofChange fixKnownSpec)

/-- ITS FALSE NEIGHBOUR: 'it returns false'. Refute it at one input. -/
def fixKnownWrong : ChangeSpec := { name := "fixKnown", fn := fun _ => fun
  | [] => { results := [.lit (.bool false)], args := [] }
  | _ => none }
def FixKnownWrongFalsely : Prop := fixKnownRow.holds Try.pinned (OpenSpec.ofChange fixKnownWrong)

/-- 'norelaw02.FixMore': WHATEVER THE INPUT: true; the input reads as it did. -/
def fixMoreSpec : ChangeSpec := { name := "fixMore", fn := fun _ => fun
  | [d1, d2, d3] => { results := [.lit (.bool true)], args := [d1, d2, d3] }
  | _ => none }
def fixMoreRow : OpenClaim := { program := "ytehofdemanfenaa", sum := "7d866138c9d4e9523097a65e76b2cf4e3a5c6893a9960828d574e742b8ea9e0d", func := "nore/norelaw02.FixMore", spec := "fixMore", unfollowed := true, recurses := true, plainKeys := false, apart := false }
def FixMoreSaid : Prop := fixMoreRow.holds Try.pinned (OpenSpec.ofChange fixMoreSpec)

/-- ITS FALSE NEIGHBOUR: 'it returns false'. Refute it at one input. -/
def fixMoreWrong : ChangeSpec := { name := "fixMore", fn := fun _ => fun
  | [d1, d2, d3] => { results := [.lit (.bool false)], args := [d1, d2, d3] }
  | _ => none }
def FixMoreWrongFalsely : Prop := fixMoreRow.holds Try.pinned (OpenSpec.ofChange fixMoreWrong)

/-- 'norelaw02.FixFewest': WHATEVER THE INPUT: true; the input reads as it did. -/
def fixFewestSpec : ChangeSpec := { name := "fixFewest", fn := fun _ => fun
  | [d1, d2, d3] => { results := [.lit (.bool true)], args := [d1, d2, d3] }
  | _ => none }
def fixFewestRow : OpenClaim := { program := "ytehofdemanfenaa", sum := "7d866138c9d4e9523097a65e76b2cf4e3a5c6893a9960828d574e742b8ea9e0d", func := "nore/norelaw02.FixFewest", spec := "fixFewest", unfollowed := true, recurses := true, plainKeys := false, apart := false }
def FixFewestSaid : Prop := fixFewestRow.holds Try.pinned (OpenSpec.ofChange fixFewestSpec)

/-- ITS FALSE NEIGHBOUR: 'it returns false'. Refute it at one input. -/
def fixFewestWrong : ChangeSpec := { name := "fixFewest", fn := fun _ => fun
  | [d1, d2, d3] => { results := [.lit (.bool false)], args := [d1, d2, d3] }
  | _ => none }
def FixFewestWrongFalsely : Prop := fixFewestRow.holds Try.pinned (OpenSpec.ofChange fixFewestWrong)

/-- 'norelaw02.FixAsked': WHATEVER THE INPUT: true; the input reads as it did. -/
def fixAskedSpec : ChangeSpec := { name := "fixAsked", fn := fun _ => fun
  | [d1, d2, d3] => { results := [.lit (.bool true)], args := [d1, d2, d3] }
  | _ => none }
def fixAskedRow : OpenClaim := { program := "ytehofdemanfenaa", sum := "7d866138c9d4e9523097a65e76b2cf4e3a5c6893a9960828d574e742b8ea9e0d", func := "nore/norelaw02.FixAsked", spec := "fixAsked", unfollowed := true, recurses := true, plainKeys := false, apart := false }
def FixAskedSaid : Prop := fixAskedRow.holds Try.pinned (OpenSpec.ofChange fixAskedSpec)

/-- ITS FALSE NEIGHBOUR: 'it returns false'. Refute it at one input. -/
def fixAskedWrong : ChangeSpec := { name := "fixAsked", fn := fun _ => fun
  | [d1, d2, d3] => { results := [.lit (.bool false)], args := [d1, d2, d3] }
  | _ => none }
def FixAskedWrongFalsely : Prop := fixAskedRow.holds Try.pinned (OpenSpec.ofChange fixAskedWrong)

/-- 'norelaw02.FixOrder': WHATEVER THE INPUT: true; the input reads as it did. -/
def fixOrderSpec : ChangeSpec := { name := "fixOrder", fn := fun _ => fun
  | [d1, d2, d3] => { results := [.lit (.bool true)], args := [d1, d2, d3] }
  | _ => none }
def fixOrderRow : OpenClaim := { program := "ytehofdemanfenaa", sum := "7d866138c9d4e9523097a65e76b2cf4e3a5c6893a9960828d574e742b8ea9e0d", func := "nore/norelaw02.FixOrder", spec := "fixOrder", unfollowed := true, recurses := true, plainKeys := false, apart := false }
def FixOrderSaid : Prop := fixOrderRow.holds Try.pinned (OpenSpec.ofChange fixOrderSpec)

/-- ITS FALSE NEIGHBOUR: 'it returns false'. Refute it at one input. -/
def fixOrderWrong : ChangeSpec := { name := "fixOrder", fn := fun _ => fun
  | [d1, d2, d3] => { results := [.lit (.bool false)], args := [d1, d2, d3] }
  | _ => none }
def FixOrderWrongFalsely : Prop := fixOrderRow.holds Try.pinned (OpenSpec.ofChange fixOrderWrong)

/-- 'norelaw02.FixWider': WHATEVER THE INPUT: true; the input reads as it did. -/
def fixWiderSpec : ChangeSpec := { name := "fixWider", fn := fun _ => fun
  | [d1, d2, d3] => { results := [.lit (.bool true)], args := [d1, d2, d3] }
  | _ => none }
def fixWiderRow : OpenClaim := { program := "ytehofdemanfenaa", sum := "7d866138c9d4e9523097a65e76b2cf4e3a5c6893a9960828d574e742b8ea9e0d", func := "nore/norelaw02.FixWider", spec := "fixWider", unfollowed := true, recurses := true, plainKeys := false, apart := false }
def FixWiderSaid : Prop := fixWiderRow.holds Try.pinned (OpenSpec.ofChange fixWiderSpec)

/-- ITS FALSE NEIGHBOUR: 'it returns false'. Refute it at one input. -/
def fixWiderWrong : ChangeSpec := { name := "fixWider", fn := fun _ => fun
  | [d1, d2, d3] => { results := [.lit (.bool false)], args := [d1, d2, d3] }
  | _ => none }
def FixWiderWrongFalsely : Prop := fixWiderRow.holds Try.pinned (OpenSpec.ofChange fixWiderWrong)

/-- 'norelaw02.FixTurned': WHATEVER THE INPUT: true; the input reads as it did. -/
def fixTurnedSpec : ChangeSpec := { name := "fixTurned", fn := fun _ => fun
  | [d1, d2] => { results := [.lit (.bool true)], args := [d1, d2] }
  | _ => none }
def fixTurnedRow : OpenClaim := { program := "ytehofdemanfenaa", sum := "7d866138c9d4e9523097a65e76b2cf4e3a5c6893a9960828d574e742b8ea9e0d", func := "nore/norelaw02.FixTurned", spec := "fixTurned", unfollowed := true, recurses := true, plainKeys := false, apart := false }
def FixTurnedSaid : Prop := fixTurnedRow.holds Try.pinned (OpenSpec.ofChange fixTurnedSpec)

/-- ITS FALSE NEIGHBOUR: 'it returns false'. Refute it at one input. -/
def fixTurnedWrong : ChangeSpec := { name := "fixTurned", fn := fun _ => fun
  | [d1, d2] => { results := [.lit (.bool false)], args := [d1, d2] }
  | _ => none }
def FixTurnedWrongFalsely : Prop := fixTurnedRow.holds Try.pinned (OpenSpec.ofChange fixTurnedWrong)

/-- 'norelaw02.FixChart': WHATEVER THE INPUT: true; the input reads as it did. -/
def fixChartSpec : ChangeSpec := { name := "fixChart", fn := fun _ => fun
  | [d1, d2, d3] => { results := [.lit (.bool true)], args := [d1, d2, d3] }
  | _ => none }
def fixChartRow : OpenClaim := { program := "ytehofdemanfenaa", sum := "7d866138c9d4e9523097a65e76b2cf4e3a5c6893a9960828d574e742b8ea9e0d", func := "nore/norelaw02.FixChart", spec := "fixChart", unfollowed := true, recurses := true, plainKeys := false, apart := false }
def FixChartSaid : Prop := fixChartRow.holds Try.pinned (OpenSpec.ofChange fixChartSpec)

/-- ITS FALSE NEIGHBOUR: 'it returns false'. Refute it at one input. -/
def fixChartWrong : ChangeSpec := { name := "fixChart", fn := fun _ => fun
  | [d1, d2, d3] => { results := [.lit (.bool false)], args := [d1, d2, d3] }
  | _ => none }
def FixChartWrongFalsely : Prop := fixChartRow.holds Try.pinned (OpenSpec.ofChange fixChartWrong)

/- THE SECOND FORM. 'bulk': how many values and letters a reading holds, each counted each time it is reached (what is shared counts as often as it is met; a slice's spare places count too). A statement '..UptoSaid' is the law's where the arguments, and the package variables that the reading takes, are together of bulk at most 1048576: NARROWER than '..Said'. Prove '..Said' where nothing that the law and all that it calls make is longer than what came in: it says more and counts as full. Else prove '..UptoSaid'. A law counts once. -/
mutual
def uptoBulk {H : Type} : DataW H → Nat
  | .lit (.string bytes) => bytes.length + 1
  | .lit _ => 1
  | .nil => 1
  | .ptr d => uptoBulk d + 1
  | .slice elems spare => uptoBulkAll elems + uptoBulkAll spare + 1
  | .agg parts => uptoBulkAll parts + 1
  | .iface _ d => uptoBulk d + 1
  | .map entries => uptoBulkEntries entries + 1
  | .held _ => 1
def uptoBulkAll {H : Type} : List (DataW H) → Nat
  | [] => 0
  | d :: r => uptoBulk d + uptoBulkAll r
def uptoBulkEntries {H : Type} : List (Lit × DataW H) → Nat
  | [] => 0
  | x :: r => uptoBulkEntry x + uptoBulkEntries r
def uptoBulkEntry {H : Type} : Lit × DataW H → Nat
  | (.string bytes, d) => bytes.length + uptoBulk d + 1
  | (_, d) => uptoBulk d + 1
 end
def uptoSmall : (H : Type) → List (DataW H) → Bool := fun _ ds => decide (uptoBulkAll ds ≤ 1048576)
def OpenSpec.upto (s : _root_.Go.ChangeSpec) : _root_.Go.OpenSpec := { _root_.Go.OpenSpec.ofChange s with cond := some uptoSmall }

/-- 'norelaw02.FixKnown', WHERE WHAT IT READS IS OF BULK AT MOST 1048576: true; the input reads as it did. -/
def fixKnownUptoRow : OpenClaim := { program := "ytehofdemanfenaa", sum := "7d866138c9d4e9523097a65e76b2cf4e3a5c6893a9960828d574e742b8ea9e0d", func := "nore/norelaw02.FixKnown", spec := "fixKnown", unfollowed := true, recurses := true, plainKeys := false, apart := false, narrowed := true }
def FixKnownUptoSaid : Prop := fixKnownUptoRow.holds Try.pinned (OpenSpec.upto fixKnownSpec)

/-- 'norelaw02.FixMore', WHERE WHAT IT READS IS OF BULK AT MOST 1048576: true; the input reads as it did. -/
def fixMoreUptoRow : OpenClaim := { program := "ytehofdemanfenaa", sum := "7d866138c9d4e9523097a65e76b2cf4e3a5c6893a9960828d574e742b8ea9e0d", func := "nore/norelaw02.FixMore", spec := "fixMore", unfollowed := true, recurses := true, plainKeys := false, apart := false, narrowed := true }
def FixMoreUptoSaid : Prop := fixMoreUptoRow.holds Try.pinned (OpenSpec.upto fixMoreSpec)

/-- 'norelaw02.FixFewest', WHERE WHAT IT READS IS OF BULK AT MOST 1048576: true; the input reads as it did. -/
def fixFewestUptoRow : OpenClaim := { program := "ytehofdemanfenaa", sum := "7d866138c9d4e9523097a65e76b2cf4e3a5c6893a9960828d574e742b8ea9e0d", func := "nore/norelaw02.FixFewest", spec := "fixFewest", unfollowed := true, recurses := true, plainKeys := false, apart := false, narrowed := true }
def FixFewestUptoSaid : Prop := fixFewestUptoRow.holds Try.pinned (OpenSpec.upto fixFewestSpec)

/-- 'norelaw02.FixAsked', WHERE WHAT IT READS IS OF BULK AT MOST 1048576: true; the input reads as it did. -/
def fixAskedUptoRow : OpenClaim := { program := "ytehofdemanfenaa", sum := "7d866138c9d4e9523097a65e76b2cf4e3a5c6893a9960828d574e742b8ea9e0d", func := "nore/norelaw02.FixAsked", spec := "fixAsked", unfollowed := true, recurses := true, plainKeys := false, apart := false, narrowed := true }
def FixAskedUptoSaid : Prop := fixAskedUptoRow.holds Try.pinned (OpenSpec.upto fixAskedSpec)

/-- 'norelaw02.FixOrder', WHERE WHAT IT READS IS OF BULK AT MOST 1048576: true; the input reads as it did. -/
def fixOrderUptoRow : OpenClaim := { program := "ytehofdemanfenaa", sum := "7d866138c9d4e9523097a65e76b2cf4e3a5c6893a9960828d574e742b8ea9e0d", func := "nore/norelaw02.FixOrder", spec := "fixOrder", unfollowed := true, recurses := true, plainKeys := false, apart := false, narrowed := true }
def FixOrderUptoSaid : Prop := fixOrderUptoRow.holds Try.pinned (OpenSpec.upto fixOrderSpec)

/-- 'norelaw02.FixWider', WHERE WHAT IT READS IS OF BULK AT MOST 1048576: true; the input reads as it did. -/
def fixWiderUptoRow : OpenClaim := { program := "ytehofdemanfenaa", sum := "7d866138c9d4e9523097a65e76b2cf4e3a5c6893a9960828d574e742b8ea9e0d", func := "nore/norelaw02.FixWider", spec := "fixWider", unfollowed := true, recurses := true, plainKeys := false, apart := false, narrowed := true }
def FixWiderUptoSaid : Prop := fixWiderUptoRow.holds Try.pinned (OpenSpec.upto fixWiderSpec)

/-- 'norelaw02.FixTurned', WHERE WHAT IT READS IS OF BULK AT MOST 1048576: true; the input reads as it did. -/
def fixTurnedUptoRow : OpenClaim := { program := "ytehofdemanfenaa", sum := "7d866138c9d4e9523097a65e76b2cf4e3a5c6893a9960828d574e742b8ea9e0d", func := "nore/norelaw02.FixTurned", spec := "fixTurned", unfollowed := true, recurses := true, plainKeys := false, apart := false, narrowed := true }
def FixTurnedUptoSaid : Prop := fixTurnedUptoRow.holds Try.pinned (OpenSpec.upto fixTurnedSpec)

/-- 'norelaw02.FixChart', WHERE WHAT IT READS IS OF BULK AT MOST 1048576: true; the input reads as it did. -/
def fixChartUptoRow : OpenClaim := { program := "ytehofdemanfenaa", sum := "7d866138c9d4e9523097a65e76b2cf4e3a5c6893a9960828d574e742b8ea9e0d", func := "nore/norelaw02.FixChart", spec := "fixChart", unfollowed := true, recurses := true, plainKeys := false, apart := false, narrowed := true }
def FixChartUptoSaid : Prop := fixChartUptoRow.holds Try.pinned (OpenSpec.upto fixChartSpec)

end Rows
end Go.Proofs.Ytehofdemanfenaa
