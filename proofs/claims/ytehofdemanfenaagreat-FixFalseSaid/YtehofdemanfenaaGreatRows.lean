/-
  No cell of these rows narrows 'for every input' (looked for: loops, veiled, ifaces, maps, wideKeys, modest, calm, conditions, laid).
  DERIVED. THE GIVEN ROWS OF THIS SEAT. 6 by the template 'for every input the law returns true; each argument reads behind the call as it read before'; 0 by the template 'total and deterministic' (their statements: YtehofdemanfenaaGreatTotals.lean).
  GIVEN WITH THE SEED: the statements are not yours to turn. If you find one false, say at which input.
  Laid BY PROGRAM, IN A SANDBOX (cutbox-rows.mjs): the forced cells as the released guide's own fill.sh prints them over the translation 7257e9105487b36e… (all of the seat's roots in one cut). By AI agents, Wed Nov 11 2026. No macro, syntax, notation, axiom, sorry.
-/
import Derived.Test.YtehofdemanfenaaGreatChecked
import GoSem.Claim
import GoSem.ClaimJoined
import GoSem.ClaimMapViews
import Derived.JoinedTies
import Derived.KernelRfl
namespace Go.Proofs.YtehofdemanfenaaGreat
/- THE CELL 'sum', in the pinned program and in every row, IS THE sha256 OF THE DUMP (.gsa) THAT YtehofdemanfenaaGreatProg.lean LOADS. Nothing in Lean hashes anything: it is a label: what it is worth is what the hold of that sum in a sandbox is worth. -/
noncomputable def Tryz.pinned : Pinned := { name := "ytehofdemanfenaagreat", sum := "7257e9105487b36e75d2334275700205c7f4d393c456d7d197d10fc2b7a6cab5", checked := Tryz.checked }
namespace Rows
def none {H : Type} : Left H := { results := [], args := [] }

/-- 'norelaw02.FixPlaces': WHATEVER THE INPUT: true; the input reads as it did. -/
def fixPlacesSpec : ChangeSpec := { name := "fixPlaces", fn := fun _ => fun
  | [d1, d2] => { results := [.lit (.bool true)], args := [d1, d2] }
  | _ => none }
def fixPlacesRow : OpenClaim := { program := "ytehofdemanfenaagreat", sum := "7257e9105487b36e75d2334275700205c7f4d393c456d7d197d10fc2b7a6cab5", func := "nore/norelaw02.FixPlaces", spec := "fixPlaces", unfollowed := true, recurses := true, plainKeys := false, apart := false }
def FixPlacesSaid : Prop := fixPlacesRow.holds Tryz.pinned (OpenSpec.ofChange fixPlacesSpec)

/-- ITS FALSE NEIGHBOUR: 'it returns false'. Refute it at one input. -/
def fixPlacesWrong : ChangeSpec := { name := "fixPlaces", fn := fun _ => fun
  | [d1, d2] => { results := [.lit (.bool false)], args := [d1, d2] }
  | _ => none }
def FixPlacesWrongFalsely : Prop := fixPlacesRow.holds Tryz.pinned (OpenSpec.ofChange fixPlacesWrong)

/-- 'norelaw02.FixWrongs': WHATEVER THE INPUT: true; the input reads as it did. -/
def fixWrongsSpec : ChangeSpec := { name := "fixWrongs", fn := fun _ => fun
  | [d1, d2] => { results := [.lit (.bool true)], args := [d1, d2] }
  | _ => none }
def fixWrongsRow : OpenClaim := { program := "ytehofdemanfenaagreat", sum := "7257e9105487b36e75d2334275700205c7f4d393c456d7d197d10fc2b7a6cab5", func := "nore/norelaw02.FixWrongs", spec := "fixWrongs", unfollowed := true, recurses := true, plainKeys := false, apart := false }
def FixWrongsSaid : Prop := fixWrongsRow.holds Tryz.pinned (OpenSpec.ofChange fixWrongsSpec)

/-- ITS FALSE NEIGHBOUR: 'it returns false'. Refute it at one input. -/
def fixWrongsWrong : ChangeSpec := { name := "fixWrongs", fn := fun _ => fun
  | [d1, d2] => { results := [.lit (.bool false)], args := [d1, d2] }
  | _ => none }
def FixWrongsWrongFalsely : Prop := fixWrongsRow.holds Tryz.pinned (OpenSpec.ofChange fixWrongsWrong)

/-- 'norelaw02.FixAsk': WHATEVER THE INPUT: true; the input reads as it did. -/
def fixAskSpec : ChangeSpec := { name := "fixAsk", fn := fun _ => fun
  | [d1, d2] => { results := [.lit (.bool true)], args := [d1, d2] }
  | _ => none }
def fixAskRow : OpenClaim := { program := "ytehofdemanfenaagreat", sum := "7257e9105487b36e75d2334275700205c7f4d393c456d7d197d10fc2b7a6cab5", func := "nore/norelaw02.FixAsk", spec := "fixAsk", unfollowed := true, recurses := true, plainKeys := false, apart := false }
def FixAskSaid : Prop := fixAskRow.holds Tryz.pinned (OpenSpec.ofChange fixAskSpec)

/-- ITS FALSE NEIGHBOUR: 'it returns false'. Refute it at one input. -/
def fixAskWrong : ChangeSpec := { name := "fixAsk", fn := fun _ => fun
  | [d1, d2] => { results := [.lit (.bool false)], args := [d1, d2] }
  | _ => none }
def FixAskWrongFalsely : Prop := fixAskRow.holds Tryz.pinned (OpenSpec.ofChange fixAskWrong)

/-- 'norelaw02.FixTrue': WHATEVER THE INPUT: true; the input reads as it did. -/
def fixTrueSpec : ChangeSpec := { name := "fixTrue", fn := fun _ => fun
  | [d1, d2] => { results := [.lit (.bool true)], args := [d1, d2] }
  | _ => none }
def fixTrueRow : OpenClaim := { program := "ytehofdemanfenaagreat", sum := "7257e9105487b36e75d2334275700205c7f4d393c456d7d197d10fc2b7a6cab5", func := "nore/norelaw02.FixTrue", spec := "fixTrue", unfollowed := true, recurses := true, plainKeys := false, apart := false }
def FixTrueSaid : Prop := fixTrueRow.holds Tryz.pinned (OpenSpec.ofChange fixTrueSpec)

/-- ITS FALSE NEIGHBOUR: 'it returns false'. Refute it at one input. -/
def fixTrueWrong : ChangeSpec := { name := "fixTrue", fn := fun _ => fun
  | [d1, d2] => { results := [.lit (.bool false)], args := [d1, d2] }
  | _ => none }
def FixTrueWrongFalsely : Prop := fixTrueRow.holds Tryz.pinned (OpenSpec.ofChange fixTrueWrong)

/-- 'norelaw02.FixFalse': WHATEVER THE INPUT: true; the input reads as it did. -/
def fixFalseSpec : ChangeSpec := { name := "fixFalse", fn := fun _ => fun
  | [d1, d2, d3] => { results := [.lit (.bool true)], args := [d1, d2, d3] }
  | _ => none }
def fixFalseRow : OpenClaim := { program := "ytehofdemanfenaagreat", sum := "7257e9105487b36e75d2334275700205c7f4d393c456d7d197d10fc2b7a6cab5", func := "nore/norelaw02.FixFalse", spec := "fixFalse", unfollowed := true, recurses := true, plainKeys := false, apart := false }
def FixFalseSaid : Prop := fixFalseRow.holds Tryz.pinned (OpenSpec.ofChange fixFalseSpec)

/-- ITS FALSE NEIGHBOUR: 'it returns false'. Refute it at one input. -/
def fixFalseWrong : ChangeSpec := { name := "fixFalse", fn := fun _ => fun
  | [d1, d2, d3] => { results := [.lit (.bool false)], args := [d1, d2, d3] }
  | _ => none }
def FixFalseWrongFalsely : Prop := fixFalseRow.holds Tryz.pinned (OpenSpec.ofChange fixFalseWrong)

/-- 'norelaw02.FixOffs': WHATEVER THE INPUT: true; the input reads as it did. -/
def fixOffsSpec : ChangeSpec := { name := "fixOffs", fn := fun _ => fun
  | [d1, d2, d3] => { results := [.lit (.bool true)], args := [d1, d2, d3] }
  | _ => none }
def fixOffsRow : OpenClaim := { program := "ytehofdemanfenaagreat", sum := "7257e9105487b36e75d2334275700205c7f4d393c456d7d197d10fc2b7a6cab5", func := "nore/norelaw02.FixOffs", spec := "fixOffs", unfollowed := true, recurses := true, plainKeys := false, apart := false }
def FixOffsSaid : Prop := fixOffsRow.holds Tryz.pinned (OpenSpec.ofChange fixOffsSpec)

/-- ITS FALSE NEIGHBOUR: 'it returns false'. Refute it at one input. -/
def fixOffsWrong : ChangeSpec := { name := "fixOffs", fn := fun _ => fun
  | [d1, d2, d3] => { results := [.lit (.bool false)], args := [d1, d2, d3] }
  | _ => none }
def FixOffsWrongFalsely : Prop := fixOffsRow.holds Tryz.pinned (OpenSpec.ofChange fixOffsWrong)

/- THE SECOND FORM. 'bulk': how many values and letters a reading holds, each counted each time it is reached (what is shared counts as often as it is met; a slice's spare places count too). A statement '..UptoSaid' is the law's where the arguments, and the package variables that the reading takes, are together of bulk at most 1048576: NARROWER than '..Said'. Prove '..Said' where nothing that the law and all that it calls make is longer than what came in: it says more and counts as full. Else prove '..UptoSaid'. A law counts once. -/
mutual
def uptoBulk {H : Type} : DataW H → Nat
  | .lit (.string bytes) => bytes.length + 1
  | .lit _ => 1
  | .nil => 1
  | .ptr d => uptoBulk d + 1
  | .slice elems spare => uptoBulkAll elems + uptoBulkAll spare + 1
  | .agg parts => uptoBulkAll parts + 1
  | .iface _ d => uptoBulk d + 1
  | .map entries => uptoBulkEntries entries + 1
  | .held _ => 1
def uptoBulkAll {H : Type} : List (DataW H) → Nat
  | [] => 0
  | d :: r => uptoBulk d + uptoBulkAll r
def uptoBulkEntries {H : Type} : List (Lit × DataW H) → Nat
  | [] => 0
  | x :: r => uptoBulkEntry x + uptoBulkEntries r
def uptoBulkEntry {H : Type} : Lit × DataW H → Nat
  | (.string bytes, d) => bytes.length + uptoBulk d + 1
  | (_, d) => uptoBulk d + 1
 end
def uptoSmall : (H : Type) → List (DataW H) → Bool := fun _ ds => decide (uptoBulkAll ds ≤ 1048576)
def OpenSpec.upto (s : _root_.Go.ChangeSpec) : _root_.Go.OpenSpec := { _root_.Go.OpenSpec.ofChange s with cond := some uptoSmall }

/-- 'norelaw02.FixPlaces', WHERE WHAT IT READS IS OF BULK AT MOST 1048576: true; the input reads as it did. -/
def fixPlacesUptoRow : OpenClaim := { program := "ytehofdemanfenaagreat", sum := "7257e9105487b36e75d2334275700205c7f4d393c456d7d197d10fc2b7a6cab5", func := "nore/norelaw02.FixPlaces", spec := "fixPlaces", unfollowed := true, recurses := true, plainKeys := false, apart := false, narrowed := true }
def FixPlacesUptoSaid : Prop := fixPlacesUptoRow.holds Tryz.pinned (OpenSpec.upto fixPlacesSpec)

/-- 'norelaw02.FixWrongs', WHERE WHAT IT READS IS OF BULK AT MOST 1048576: true; the input reads as it did. -/
def fixWrongsUptoRow : OpenClaim := { program := "ytehofdemanfenaagreat", sum := "7257e9105487b36e75d2334275700205c7f4d393c456d7d197d10fc2b7a6cab5", func := "nore/norelaw02.FixWrongs", spec := "fixWrongs", unfollowed := true, recurses := true, plainKeys := false, apart := false, narrowed := true }
def FixWrongsUptoSaid : Prop := fixWrongsUptoRow.holds Tryz.pinned (OpenSpec.upto fixWrongsSpec)

/-- 'norelaw02.FixAsk', WHERE WHAT IT READS IS OF BULK AT MOST 1048576: true; the input reads as it did. -/
def fixAskUptoRow : OpenClaim := { program := "ytehofdemanfenaagreat", sum := "7257e9105487b36e75d2334275700205c7f4d393c456d7d197d10fc2b7a6cab5", func := "nore/norelaw02.FixAsk", spec := "fixAsk", unfollowed := true, recurses := true, plainKeys := false, apart := false, narrowed := true }
def FixAskUptoSaid : Prop := fixAskUptoRow.holds Tryz.pinned (OpenSpec.upto fixAskSpec)

/-- 'norelaw02.FixTrue', WHERE WHAT IT READS IS OF BULK AT MOST 1048576: true; the input reads as it did. -/
def fixTrueUptoRow : OpenClaim := { program := "ytehofdemanfenaagreat", sum := "7257e9105487b36e75d2334275700205c7f4d393c456d7d197d10fc2b7a6cab5", func := "nore/norelaw02.FixTrue", spec := "fixTrue", unfollowed := true, recurses := true, plainKeys := false, apart := false, narrowed := true }
def FixTrueUptoSaid : Prop := fixTrueUptoRow.holds Tryz.pinned (OpenSpec.upto fixTrueSpec)

/-- 'norelaw02.FixFalse', WHERE WHAT IT READS IS OF BULK AT MOST 1048576: true; the input reads as it did. -/
def fixFalseUptoRow : OpenClaim := { program := "ytehofdemanfenaagreat", sum := "7257e9105487b36e75d2334275700205c7f4d393c456d7d197d10fc2b7a6cab5", func := "nore/norelaw02.FixFalse", spec := "fixFalse", unfollowed := true, recurses := true, plainKeys := false, apart := false, narrowed := true }
def FixFalseUptoSaid : Prop := fixFalseUptoRow.holds Tryz.pinned (OpenSpec.upto fixFalseSpec)

/-- 'norelaw02.FixOffs', WHERE WHAT IT READS IS OF BULK AT MOST 1048576: true; the input reads as it did. -/
def fixOffsUptoRow : OpenClaim := { program := "ytehofdemanfenaagreat", sum := "7257e9105487b36e75d2334275700205c7f4d393c456d7d197d10fc2b7a6cab5", func := "nore/norelaw02.FixOffs", spec := "fixOffs", unfollowed := true, recurses := true, plainKeys := false, apart := false, narrowed := true }
def FixOffsUptoSaid : Prop := fixOffsUptoRow.holds Tryz.pinned (OpenSpec.upto fixOffsSpec)

end Rows
end Go.Proofs.YtehofdemanfenaaGreat
