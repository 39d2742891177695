/- The tables of the program, and that they are right. -/
import Derived.Test.YtfiegoekphpjlaaGreatDoorA3
import Derived.Test.YtfiegoekphpjlaaGreatDoorL
import Derived.Test.YtfiegoekphpjlaaGreatDoorProg
import Derived.Shelf.LaysM
import Derived.Shelf.LaysC
import Derived.Shelf.Strconv.Itoa3
import Derived.Shelf.Strconv.AtoiAll
import Derived.Shelf.Strings.Shaped
import Derived.Shelf.Strings.SplitShaped
import Derived.Shelf.Strings.Search1
import Derived.Shelf.SlicesE.Clone
import Derived.Shelf.Sort.Plain
import Derived.Shelf.Slices.In.SortNone
import Derived.Ground.SlgnProg
import Derived.Shelf.Strings.Builder1
import Derived.Lib.Walk
import Derived.TacticsInMore
import Derived.RegionIn
import Derived.RecoverIn
import Derived.KernelRfl
set_option linter.unusedSectionVars false
set_option linter.unusedVariables false
set_option linter.unusedSimpArgs false
namespace Go.Proofs.YtfiegoekphpjlaaGreatDoor
open Go.Ab Go.Proofs
def tyT : Tr TI := (.node (.node (.node (.node (.node (.node .leaf none (.node (.node .leaf (some ⟨(.array 24 5), 24, 24, [(.int .u8 (0)), (.int .u8 (0)), (.int .u8 (0)), (.int .u8 (0)), (.int .u8 (0)), (.int .u8 (0)), (.int .u8 (0)), (.int .u8 (0)), (.int .u8 (0)), (.int .u8 (0)), (.int .u8 (0)), (.int .u8 (0)), (.int .u8 (0)), (.int .u8 (0)), (.int .u8 (0)), (.int .u8 (0)), (.int .u8 (0)), (.int .u8 (0)), (.int .u8 (0)), (.int .u8 (0)), (.int .u8 (0)), (.int .u8 (0)), (.int .u8 (0)), (.int .u8 (0))], true, false, [], false⟩) .leaf) (some ⟨.iface, 1, 16, [.nilif], false, false, [], false⟩) .leaf)) none (.node (.node .leaf none (.node .leaf (some ⟨(.int .u64), 1, 8, [(.int .u64 (0))], false, false, [], false⟩) .leaf)) (some ⟨(.slice 3), 1, 24, [.nils], false, false, [], false⟩) (.node .leaf (some ⟨.func, 1, 8, [.nilfn], false, false, [], false⟩) .leaf))) (some ⟨(.struct [(2, 0), (3, 1), (4, 2), (6, 3)]), 4, 24, [(.int .i64 (0)), (.int .i64 (0)), (.bool false), (.int .u8 (0))], true, true, [], false⟩) (.node (.node (.node .leaf none (.node .leaf (some ⟨(.struct [(5, 0), (5, 1)]), 2, 2, [(.int .u8 (0)), (.int .u8 (0))], true, true, [], false⟩) .leaf)) none .leaf) (some ⟨(.slice 54), 1, 24, [.nils], false, false, [], false⟩) (.node .leaf none (.node (.node .leaf (some ⟨(.array 20 160), 20, 160, [(.int .u64 (0)), (.int .u64 (0)), (.int .u64 (0)), (.int .u64 (0)), (.int .u64 (0)), (.int .u64 (0)), (.int .u64 (0)), (.int .u64 (0)), (.int .u64 (0)), (.int .u64 (0)), (.int .u64 (0)), (.int .u64 (0)), (.int .u64 (0)), (.int .u64 (0)), (.int .u64 (0)), (.int .u64 (0)), (.int .u64 (0)), (.int .u64 (0)), (.int .u64 (0)), (.int .u64 (0))], true, false, [], false⟩) .leaf) none .leaf)))) (some ⟨(.int .i64), 1, 8, [(.int .i64 (0))], false, false, [], false⟩) (.node (.node (.node (.node (.node .leaf (some ⟨.func, 1, 8, [.nilfn], false, false, [], false⟩) .leaf) none .leaf) none (.node .leaf none (.node .leaf (some ⟨(.int .i32), 1, 4, [(.int .i32 (0))], false, false, [], false⟩) .leaf))) none (.node (.node .leaf (some ⟨.func, 1, 8, [.nilfn], false, false, [], false⟩) .leaf) (some ⟨(.struct [(3, 0), (3, 1)]), 2, 16, [(.int .i64 (0)), (.int .i64 (0))], true, true, [], false⟩) .leaf)) (some ⟨.string, 1, 16, [(.str ⟨#[]⟩)], false, false, [], false⟩) (.node (.node (.node (.node .leaf (some ⟨(.struct [(3, 0), (3, 1)]), 2, 16, [(.int .i64 (0)), (.int .i64 (0))], true, true, [], false⟩) .leaf) none .leaf) (some ⟨(.slice 9), 1, 24, [.nils], false, false, [], false⟩) .leaf) none (.node (.node .leaf (some ⟨(.slice 5), 1, 24, [.nils], false, false, [], false⟩) .leaf) none .leaf)))) (some ⟨.func, 1, 8, [.nilfn], false, false, [], false⟩) (.node (.node (.node (.node (.node .leaf (some ⟨(.slice 52), 1, 24, [.nils], false, false, [], false⟩) .leaf) none (.node .leaf none (.node .leaf (some ⟨(.int .u8), 1, 1, [(.int .u8 (0))], false, false, [], false⟩) .leaf))) none (.node .leaf (some ⟨(.struct [(9, 0), (3, 1), (3, 2)]), 3, 32, [(.str ⟨#[]⟩), (.int .i64 (0)), (.int .i64 (0))], true, true, [], false⟩) .leaf)) (some ⟨.string, 1, 16, [(.str ⟨#[]⟩)], false, false, [], false⟩) (.node (.node (.node (.node .leaf (some ⟨.func, 1, 8, [.nilfn], false, false, [], false⟩) .leaf) none .leaf) (some ⟨.func, 1, 8, [.nilfn], false, false, [], false⟩) (.node (.node .leaf (some ⟨.func, 1, 8, [.nilfn], false, false, [], false⟩) .leaf) (some ⟨(.struct [(25, 0), (68, 2)]), 3, 72, [.nils, .nils, .nils], false, false, [], false⟩) .leaf)) (some ⟨(.struct [(22, 0), (23, 1)]), 2, 48, [.nils, .nils], false, false, [], false⟩) (.node (.node (.node .leaf (some ⟨(.int .i64), 1, 8, [(.int .i64 (0))], false, false, [], false⟩) .leaf) (some ⟨.func, 1, 8, [.nilfn], false, false, [], false⟩) .leaf) none (.node (.node .leaf (some ⟨(.array 65 5), 65, 65, [(.int .u8 (0)), (.int .u8 (0)), (.int .u8 (0)), (.int .u8 (0)), (.int .u8 (0)), (.int .u8 (0)), (.int .u8 (0)), (.int .u8 (0)), (.int .u8 (0)), (.int .u8 (0)), (.int .u8 (0)), (.int .u8 (0)), (.int .u8 (0)), (.int .u8 (0)), (.int .u8 (0)), (.int .u8 (0)), (.int .u8 (0)), (.int .u8 (0)), (.int .u8 (0)), (.int .u8 (0)), (.int .u8 (0)), (.int .u8 (0)), (.int .u8 (0)), (.int .u8 (0)), (.int .u8 (0)), (.int .u8 (0)), (.int .u8 (0)), (.int .u8 (0)), (.int .u8 (0)), (.int .u8 (0)), (.int .u8 (0)), (.int .u8 (0)), (.int .u8 (0)), (.int .u8 (0)), (.int .u8 (0)), (.int .u8 (0)), (.int .u8 (0)), (.int .u8 (0)), (.int .u8 (0)), (.int .u8 (0)), (.int .u8 (0)), (.int .u8 (0)), (.int .u8 (0)), (.int .u8 (0)), (.int .u8 (0)), (.int .u8 (0)), (.int .u8 (0)), (.int .u8 (0)), (.int .u8 (0)), (.int .u8 (0)), (.int .u8 (0)), (.int .u8 (0)), (.int .u8 (0)), (.int .u8 (0)), (.int .u8 (0)), (.int .u8 (0)), (.int .u8 (0)), (.int .u8 (0)), (.int .u8 (0)), (.int .u8 (0)), (.int .u8 (0)), (.int .u8 (0)), (.int .u8 (0)), (.int .u8 (0)), (.int .u8 (0))], true, false, [], false⟩) .leaf) none .leaf)))) (some ⟨(.int .u8), 1, 1, [(.int .u8 (0))], false, false, [], false⟩) (.node (.node (.node (.node (.node .leaf (some ⟨(.slice 140), 1, 24, [.nils], false, false, [], false⟩) .leaf) none (.node .leaf (some ⟨(.array 256 5), 256, 256, [(.int .u8 (0)), (.int .u8 (0)), (.int .u8 (0)), (.int .u8 (0)), (.int .u8 (0)), (.int .u8 (0)), (.int .u8 (0)), (.int .u8 (0)), (.int .u8 (0)), (.int .u8 (0)), (.int .u8 (0)), (.int .u8 (0)), (.int .u8 (0)), (.int .u8 (0)), (.int .u8 (0)), (.int .u8 (0)), (.int .u8 (0)), (.int .u8 (0)), (.int .u8 (0)), (.int .u8 (0)), (.int .u8 (0)), (.int .u8 (0)), (.int .u8 (0)), (.int .u8 (0)), (.int .u8 (0)), (.int .u8 (0)), (.int .u8 (0)), (.int .u8 (0)), (.int .u8 (0)), (.int .u8 (0)), (.int .u8 (0)), (.int .u8 (0)), (.int .u8 (0)), (.int .u8 (0)), (.int .u8 (0)), (.int .u8 (0)), (.int .u8 (0)), (.int .u8 (0)), (.int .u8 (0)), (.int .u8 (0)), (.int .u8 (0)), (.int .u8 (0)), (.int .u8 (0)), (.int .u8 (0)), (.int .u8 (0)), (.int .u8 (0)), (.int .u8 (0)), (.int .u8 (0)), (.int .u8 (0)), (.int .u8 (0)), (.int .u8 (0)), (.int .u8 (0)), (.int .u8 (0)), (.int .u8 (0)), (.int .u8 (0)), (.int .u8 (0)), (.int .u8 (0)), (.int .u8 (0)), (.int .u8 (0)), (.int .u8 (0)), (.int .u8 (0)), (.int .u8 (0)), (.int .u8 (0)), (.int .u8 (0)), (.int .u8 (0)), (.int .u8 (0)), (.int .u8 (0)), (.int .u8 (0)), (.int .u8 (0)), (.int .u8 (0)), (.int .u8 (0)), (.int .u8 (0)), (.int .u8 (0)), (.int .u8 (0)), (.int .u8 (0)), (.int .u8 (0)), (.int .u8 (0)), (.int .u8 (0)), (.int .u8 (0)), (.int .u8 (0)), (.int .u8 (0)), (.int .u8 (0)), (.int .u8 (0)), (.int .u8 (0)), (.int .u8 (0)), (.int .u8 (0)), (.int .u8 (0)), (.int .u8 (0)), (.int .u8 (0)), (.int .u8 (0)), (.int .u8 (0)), (.int .u8 (0)), (.int .u8 (0)), (.int .u8 (0)), (.int .u8 (0)), (.int .u8 (0)), (.int .u8 (0)), (.int .u8 (0)), (.int .u8 (0)), (.int .u8 (0)), (.int .u8 (0)), (.int .u8 (0)), (.int .u8 (0)), (.int .u8 (0)), (.int .u8 (0)), (.int .u8 (0)), (.int .u8 (0)), (.int .u8 (0)), (.int .u8 (0)), (.int .u8 (0)), (.int .u8 (0)), (.int .u8 (0)), (.int .u8 (0)), (.int .u8 (0)), (.int .u8 (0)), (.int .u8 (0)), (.int .u8 (0)), (.int .u8 (0)), (.int .u8 (0)), (.int .u8 (0)), (.int .u8 (0)), (.int .u8 (0)), (.int .u8 (0)), (.int .u8 (0)), (.int .u8 (0)), (.int .u8 (0)), (.int .u8 (0)), (.int .u8 (0)), (.int .u8 (0)), (.int .u8 (0)), (.int .u8 (0)), (.int .u8 (0)), (.int .u8 (0)), (.int .u8 (0)), (.int .u8 (0)), (.int .u8 (0)), (.int .u8 (0)), (.int .u8 (0)), (.int .u8 (0)), (.int .u8 (0)), (.int .u8 (0)), (.int .u8 (0)), (.int .u8 (0)), (.int .u8 (0)), (.int .u8 (0)), (.int .u8 (0)), (.int .u8 (0)), (.int .u8 (0)), (.int .u8 (0)), (.int .u8 (0)), (.int .u8 (0)), (.int .u8 (0)), (.int .u8 (0)), (.int .u8 (0)), (.int .u8 (0)), (.int .u8 (0)), (.int .u8 (0)), (.int .u8 (0)), (.int .u8 (0)), (.int .u8 (0)), (.int .u8 (0)), (.int .u8 (0)), (.int .u8 (0)), (.int .u8 (0)), (.int .u8 (0)), (.int .u8 (0)), (.int .u8 (0)), (.int .u8 (0)), (.int .u8 (0)), (.int .u8 (0)), (.int .u8 (0)), (.int .u8 (0)), (.int .u8 (0)), (.int .u8 (0)), (.int .u8 (0)), (.int .u8 (0)), (.int .u8 (0)), (.int .u8 (0)), (.int .u8 (0)), (.int .u8 (0)), (.int .u8 (0)), (.int .u8 (0)), (.int .u8 (0)), (.int .u8 (0)), (.int .u8 (0)), (.int .u8 (0)), (.int .u8 (0)), (.int .u8 (0)), (.int .u8 (0)), (.int .u8 (0)), (.int .u8 (0)), (.int .u8 (0)), (.int .u8 (0)), (.int .u8 (0)), (.int .u8 (0)), (.int .u8 (0)), (.int .u8 (0)), (.int .u8 (0)), (.int .u8 (0)), (.int .u8 (0)), (.int .u8 (0)), (.int .u8 (0)), (.int .u8 (0)), (.int .u8 (0)), (.int .u8 (0)), (.int .u8 (0)), (.int .u8 (0)), (.int .u8 (0)), (.int .u8 (0)), (.int .u8 (0)), (.int .u8 (0)), (.int .u8 (0)), (.int .u8 (0)), (.int .u8 (0)), (.int .u8 (0)), (.int .u8 (0)), (.int .u8 (0)), (.int .u8 (0)), (.int .u8 (0)), (.int .u8 (0)), (.int .u8 (0)), (.int .u8 (0)), (.int .u8 (0)), (.int .u8 (0)), (.int .u8 (0)), (.int .u8 (0)), (.int .u8 (0)), (.int .u8 (0)), (.int .u8 (0)), (.int .u8 (0)), (.int .u8 (0)), (.int .u8 (0)), (.int .u8 (0)), (.int .u8 (0)), (.int .u8 (0)), (.int .u8 (0)), (.int .u8 (0)), (.int .u8 (0)), (.int .u8 (0)), (.int .u8 (0)), (.int .u8 (0)), (.int .u8 (0)), (.int .u8 (0)), (.int .u8 (0)), (.int .u8 (0)), (.int .u8 (0)), (.int .u8 (0)), (.int .u8 (0)), (.int .u8 (0)), (.int .u8 (0)), (.int .u8 (0)), (.int .u8 (0)), (.int .u8 (0)), (.int .u8 (0)), (.int .u8 (0)), (.int .u8 (0))], true, false, [], false⟩) .leaf)) none .leaf) (some ⟨(.int .i32), 1, 4, [(.int .i32 (0))], false, false, [], false⟩) (.node (.node .leaf (some ⟨.func, 1, 8, [.nilfn], false, false, [], false⟩) (.node .leaf (some ⟨(.array 32 5), 32, 32, [(.int .u8 (0)), (.int .u8 (0)), (.int .u8 (0)), (.int .u8 (0)), (.int .u8 (0)), (.int .u8 (0)), (.int .u8 (0)), (.int .u8 (0)), (.int .u8 (0)), (.int .u8 (0)), (.int .u8 (0)), (.int .u8 (0)), (.int .u8 (0)), (.int .u8 (0)), (.int .u8 (0)), (.int .u8 (0)), (.int .u8 (0)), (.int .u8 (0)), (.int .u8 (0)), (.int .u8 (0)), (.int .u8 (0)), (.int .u8 (0)), (.int .u8 (0)), (.int .u8 (0)), (.int .u8 (0)), (.int .u8 (0)), (.int .u8 (0)), (.int .u8 (0)), (.int .u8 (0)), (.int .u8 (0)), (.int .u8 (0)), (.int .u8 (0))], true, false, [], false⟩) .leaf)) (some ⟨(.struct [(3, 0), (3, 1), (52, 2)]), 4, 32, [(.int .i64 (0)), (.int .i64 (0)), (.int .i64 (0)), (.int .i64 (0))], true, true, [], false⟩) .leaf)) (some ⟨(.struct [(9, 0), (12, 1)]), 2, 24, [(.str ⟨#[]⟩), (.int .u64 (0))], false, false, [], false⟩) (.node (.node (.node .leaf none (.node .leaf (some ⟨(.struct [(9, 0)]), 1, 16, [(.str ⟨#[]⟩)], true, true, [], false⟩) .leaf)) none (.node (.node .leaf (some ⟨(.int .u64), 1, 8, [(.int .u64 (0))], false, false, [], false⟩) .leaf) (some ⟨(.array 10 52), 20, 160, [(.int .i64 (0)), (.int .i64 (0)), (.int .i64 (0)), (.int .i64 (0)), (.int .i64 (0)), (.int .i64 (0)), (.int .i64 (0)), (.int .i64 (0)), (.int .i64 (0)), (.int .i64 (0)), (.int .i64 (0)), (.int .i64 (0)), (.int .i64 (0)), (.int .i64 (0)), (.int .i64 (0)), (.int .i64 (0)), (.int .i64 (0)), (.int .i64 (0)), (.int .i64 (0)), (.int .i64 (0))], true, false, [], false⟩) .leaf)) none (.node (.node .leaf (some ⟨(.struct [(90, 0), (91, 1)]), 2, 32, [.nilp, .nils], false, false, [], false⟩) .leaf) none .leaf))))) none (.node (.node (.node (.node (.node .leaf none (.node (.node .leaf (some ⟨(.int .u64), 1, 8, [(.int .u64 (0))], false, false, [], false⟩) .leaf) none (.node .leaf (some ⟨(.int .u8), 1, 1, [(.int .u8 (0))], false, false, [], false⟩) .leaf))) none .leaf) (some ⟨(.struct [(2, 0), (3, 1), (4, 2), (6, 3)]), 4, 24, [(.int .i64 (0)), (.int .i64 (0)), (.bool false), (.int .u8 (0))], true, true, [], false⟩) (.node (.node (.node (.node .leaf (some ⟨.func, 1, 8, [.nilfn], false, false, [], false⟩) .leaf) none (.node .leaf (some ⟨(.array 16 199), 32, 32, [(.int .u8 (0)), (.int .u8 (0)), (.int .u8 (0)), (.int .u8 (0)), (.int .u8 (0)), (.int .u8 (0)), (.int .u8 (0)), (.int .u8 (0)), (.int .u8 (0)), (.int .u8 (0)), (.int .u8 (0)), (.int .u8 (0)), (.int .u8 (0)), (.int .u8 (0)), (.int .u8 (0)), (.int .u8 (0)), (.int .u8 (0)), (.int .u8 (0)), (.int .u8 (0)), (.int .u8 (0)), (.int .u8 (0)), (.int .u8 (0)), (.int .u8 (0)), (.int .u8 (0)), (.int .u8 (0)), (.int .u8 (0)), (.int .u8 (0)), (.int .u8 (0)), (.int .u8 (0)), (.int .u8 (0)), (.int .u8 (0)), (.int .u8 (0))], true, false, [], false⟩) .leaf)) (some ⟨.func, 1, 8, [.nilfn], false, false, [], false⟩) (.node (.node .leaf (some ⟨.func, 1, 8, [.nilfn], false, false, [], false⟩) .leaf) (some ⟨(.struct [(25, 0), (68, 2)]), 3, 72, [.nils, .nils, .nils], false, false, [], false⟩) .leaf)) (some ⟨(.struct [(22, 0), (23, 1)]), 2, 48, [.nils, .nils], false, false, [], false⟩) (.node .leaf none (.node (.node .leaf (some ⟨(.int .u32), 1, 4, [(.int .u32 (0))], false, false, [], false⟩) .leaf) (some ⟨.func, 1, 8, [.nilfn], false, false, [], false⟩) .leaf)))) (some ⟨.bool, 1, 1, [(.bool false)], false, false, [], false⟩) (.node (.node (.node (.node (.node .leaf (some ⟨.func, 1, 8, [.nilfn], false, false, [], false⟩) .leaf) (some ⟨(.slice 70), 1, 24, [.nils], false, false, [], false⟩) .leaf) none (.node .leaf none (.node .leaf (some ⟨(.int .i32), 1, 4, [(.int .i32 (0))], false, false, [], false⟩) .leaf))) (some ⟨.iface, 1, 16, [.nilif], false, false, [], false⟩) (.node .leaf (some ⟨(.struct [(3, 0), (3, 1)]), 2, 16, [(.int .i64 (0)), (.int .i64 (0))], true, true, [], false⟩) .leaf)) (some ⟨(.int .u64), 1, 8, [(.int .u64 (0))], false, false, [], false⟩) (.node (.node (.node (.node .leaf (some ⟨(.struct [(3, 0), (3, 1)]), 2, 16, [(.int .i64 (0)), (.int .i64 (0))], true, true, [], false⟩) .leaf) none .leaf) none (.node .leaf (some ⟨(.array 10 52), 20, 160, [(.int .i64 (0)), (.int .i64 (0)), (.int .i64 (0)), (.int .i64 (0)), (.int .i64 (0)), (.int .i64 (0)), (.int .i64 (0)), (.int .i64 (0)), (.int .i64 (0)), (.int .i64 (0)), (.int .i64 (0)), (.int .i64 (0)), (.int .i64 (0)), (.int .i64 (0)), (.int .i64 (0)), (.int .i64 (0)), (.int .i64 (0)), (.int .i64 (0)), (.int .i64 (0)), (.int .i64 (0))], true, false, [], false⟩) .leaf)) none (.node .leaf none (.node (.node .leaf (some ⟨(.int .i64), 1, 8, [(.int .i64 (0))], false, false, [], false⟩) .leaf) none .leaf))))) (some ⟨(.int .i64), 1, 8, [(.int .i64 (0))], false, false, [], false⟩) (.node (.node (.node (.node .leaf none (.node .leaf (some ⟨.func, 1, 8, [.nilfn], false, false, [], false⟩) .leaf)) none (.node .leaf (some ⟨(.struct [(9, 0), (3, 1), (3, 2)]), 3, 32, [(.str ⟨#[]⟩), (.int .i64 (0)), (.int .i64 (0))], true, true, [], false⟩) .leaf)) (some ⟨.string, 1, 16, [(.str ⟨#[]⟩)], false, false, [], false⟩) (.node .leaf (some ⟨(.int .i64), 1, 8, [(.int .i64 (0))], false, false, [], false⟩) (.node (.node .leaf (some ⟨(.ptr 93), 1, 8, [.nilp], false, false, [], false⟩) .leaf) none (.node .leaf (some ⟨(.ptr 5), 1, 8, [.nilp], false, false, [], false⟩) .leaf)))) (some ⟨(.int .u8), 1, 1, [(.int .u8 (0))], false, false, [], false⟩) (.node (.node (.node (.node .leaf (some ⟨(.struct [(3, 0), (3, 1), (52, 2)]), 4, 32, [(.int .i64 (0)), (.int .i64 (0)), (.int .i64 (0)), (.int .i64 (0))], true, true, [], false⟩) (.node .leaf (some ⟨(.struct [(5, 0), (5, 1)]), 2, 2, [(.int .u8 (0)), (.int .u8 (0))], true, true, [], false⟩) .leaf)) none (.node (.node .leaf (some ⟨.func, 1, 8, [.nilfn], false, false, [], false⟩) .leaf) none .leaf)) (some ⟨(.slice 50), 1, 24, [.nils], false, false, [], false⟩) (.node (.node .leaf (some ⟨.func, 1, 8, [.nilfn], false, false, [], false⟩) (.node .leaf (some ⟨(.array 64 5), 64, 64, [(.int .u8 (0)), (.int .u8 (0)), (.int .u8 (0)), (.int .u8 (0)), (.int .u8 (0)), (.int .u8 (0)), (.int .u8 (0)), (.int .u8 (0)), (.int .u8 (0)), (.int .u8 (0)), (.int .u8 (0)), (.int .u8 (0)), (.int .u8 (0)), (.int .u8 (0)), (.int .u8 (0)), (.int .u8 (0)), (.int .u8 (0)), (.int .u8 (0)), (.int .u8 (0)), (.int .u8 (0)), (.int .u8 (0)), (.int .u8 (0)), (.int .u8 (0)), (.int .u8 (0)), (.int .u8 (0)), (.int .u8 (0)), (.int .u8 (0)), (.int .u8 (0)), (.int .u8 (0)), (.int .u8 (0)), (.int .u8 (0)), (.int .u8 (0)), (.int .u8 (0)), (.int .u8 (0)), (.int .u8 (0)), (.int .u8 (0)), (.int .u8 (0)), (.int .u8 (0)), (.int .u8 (0)), (.int .u8 (0)), (.int .u8 (0)), (.int .u8 (0)), (.int .u8 (0)), (.int .u8 (0)), (.int .u8 (0)), (.int .u8 (0)), (.int .u8 (0)), (.int .u8 (0)), (.int .u8 (0)), (.int .u8 (0)), (.int .u8 (0)), (.int .u8 (0)), (.int .u8 (0)), (.int .u8 (0)), (.int .u8 (0)), (.int .u8 (0)), (.int .u8 (0)), (.int .u8 (0)), (.int .u8 (0)), (.int .u8 (0)), (.int .u8 (0)), (.int .u8 (0)), (.int .u8 (0)), (.int .u8 (0))], true, false, [], false⟩) .leaf)) (some ⟨(.struct [(3, 0), (3, 1), (52, 2)]), 4, 32, [(.int .i64 (0)), (.int .i64 (0)), (.int .i64 (0)), (.int .i64 (0))], true, true, [], false⟩) .leaf)) (some ⟨(.struct [(9, 0), (12, 1)]), 2, 24, [(.str ⟨#[]⟩), (.int .u64 (0))], false, false, [], false⟩) (.node (.node (.node (.node .leaf (some ⟨(.map 3 3), 1, 8, [.nilmap], false, false, [], false⟩) .leaf) none (.node .leaf (some ⟨(.struct [(9, 0)]), 1, 16, [(.str ⟨#[]⟩)], true, true, [], false⟩) .leaf)) none (.node .leaf (some ⟨.func, 1, 8, [.nilfn], false, false, [], false⟩) .leaf)) none .leaf)))))
noncomputable def bodyOf (f:Func):Code:=match f.body with|some c=>c|none=>.skip
noncomputable def mkF (f:Func) (m:Nat) (hs:List Z4b) (pu:Bool) (xm:List (Nat×Nat)) (rm:Nat) (ca:Bool) (pb:List (Nat×Nat)) (mr:List (Nat×Nat×Nat×TypeId×Nat)) (pm:Nat) (df:Bool):FI:=⟨bodyOf f,f.ntmps,f.results.toList,m,hs,pu,xm,rm,ca,pb,mr,pm,df⟩
noncomputable def g3:FI:=mkF Tryz.f3 562951027171319 [] true [] 16 false [] [] 0 false
noncomputable def g4:FI:=mkF Tryz.f4 18155136039796215 [] true [] 16 false [] [] 0 false
noncomputable def g5:FI:=mkF Tryz.f5 16463 [] true [] 12 false [] [] 0 false
noncomputable def g6:FI:=mkF Tryz.f6 16463 [] true [] 12 false [] [] 0 false
noncomputable def g7:FI:=mkF Tryz.f7 140737656177917 [⟨0,16397,[.cell 2 0 50,.cell 2 1 54],false⟩] true [(2,0),(1,0),(0,13)] 12 false [] [] 12 true
noncomputable def g8:FI:=mkF Tryz.f8 2535301200465682175167702246653 [⟨0,117,[.cell 4 0 50,.cell 4 1 54],false⟩] true [(1,117),(0,21)] 12 false [] [] 0 false
noncomputable def g9:FI:=mkF Tryz.f9 288266660173840511 [⟨0,44,[],false⟩,⟨2,76,[],false⟩] true [(1,44),(0,12),(3,76),(2,0)] 16 false [] [] 0 false
noncomputable def g10:FI:=mkF Tryz.f10 8797166818301 [⟨0,16444,[],false⟩] true [(1,0),(0,12)] 12 false [] [] 0 false
noncomputable def g11:FI:=mkF Tryz.f11 1125901014406141 [⟨0,112,[],false⟩] true [(1,112),(0,0)] 12 false [] [] 0 false
noncomputable def g12:FI:=mkF Tryz.f12 786431 [] true [] 1 false [] [] 0 false
noncomputable def g13:FI:=mkF Tryz.f13 39 [] true [] 4 false [] [] 0 false
noncomputable def g14:FI:=mkF Tryz.f14 140806241452095 [] true [] 28 false [] [] 0 false
noncomputable def g15:FI:=mkF Tryz.f15 16106189503 [⟨0,28714,[.cell 3 1 5],false⟩,⟨2,7516192808,[.cell 3 1 5],false⟩] true [(1,28714),(0,42),(3,7516192808),(2,8)] 4 false [] [] 0 false
noncomputable def g16:FI:=mkF Tryz.f16 41538414791847272223429363643727871 [⟨0,98,[.slot 5 9],false⟩,⟨2,514,[],false⟩,⟨4,12290,[],false⟩] true [(1,98),(0,2),(3,514),(2,2),(5,12290),(4,0)] 28 false [] [] 0 false
noncomputable def g17:FI:=mkF Tryz.f17 302231454912453386733567 [⟨0,26,[.slot 3 9],false⟩,⟨2,74,[.slot 3 9],false⟩,⟨4,1800,[],false⟩] true [(1,26),(0,10),(3,74),(2,8),(5,1800),(4,256)] 4 false [] [] 0 false
noncomputable def g18:FI:=mkF Tryz.f18 39 [] false [] 0 false [] [] 0 false
noncomputable def g19:FI:=mkF Tryz.f19 7 [] false [] 4 false [] [] 0 false
noncomputable def g20:FI:=mkF Tryz.f20 19 [] true [] 16 false [] [] 0 false
noncomputable def g21:FI:=mkF Tryz.f21 19 [] true [] 16 false [] [] 0 false
noncomputable def g22:FI:=mkF Tryz.f22 9 [] false [] 0 false [] [] 0 false
noncomputable def g23:FI:=mkF Tryz.f23 246227 [⟨0,114704,[.slot 4 3],false⟩] false [(1,114704),(0,16)] 16 false [] [] 0 false
noncomputable def g24:FI:=mkF Tryz.f24 264435 [⟨0,227,[.slot 5 9],false⟩] true [(1,227),(0,97)] 16 false [] [] 0 false
noncomputable def g25:FI:=mkF Tryz.f25 17184325661 [⟨0,25,[],false⟩] true [(1,25),(0,8)] 4 false [] [] 0 false
noncomputable def g26:FI:=mkF Tryz.f26 51 [] true [] 48 false [] [] 0 false
noncomputable def g27:FI:=mkF Tryz.f27 19 [] true [] 16 false [] [] 0 false
noncomputable def g28:FI:=mkF Tryz.f28 947 [⟨0,387,[],false⟩] true [(1,387),(0,1)] 16 false [] [] 0 false
noncomputable def g29:FI:=mkF Tryz.f29 5 [] true [] 4 false [] [] 0 false
noncomputable def g30:FI:=mkF Tryz.f30 2148665597 [⟨0,97,[],false⟩] true [(1,97),(0,33)] 28 false [] [] 0 false
noncomputable def g31:FI:=mkF Tryz.f31 563 [⟨0,35,[],false⟩] true [(1,35),(0,1)] 16 false [] [] 0 false
noncomputable def g32:FI:=mkF Tryz.f32 1 [] true [] 1 false [] [] 0 false
noncomputable def g33:FI:=mkF Tryz.f33 72057597842690039 [⟨0,4195076,[],false⟩,⟨2,1610614016,[],false⟩] true [(3,1610614016),(2,0),(1,0),(0,772)] 48 false [] [] 0 false
noncomputable def g34:FI:=mkF Tryz.f34 7 [] false [] 4 false [] [] 0 false
noncomputable def g35:FI:=mkF Tryz.f35 1 [] true [] 1 false [] [] 0 false
noncomputable def g36:FI:=mkF Tryz.f36 18258071327 [] true [(0,1036)] 768 false [] [] 0 false
noncomputable def g37:FI:=mkF Tryz.f37 263151 [] true [] 192 false [] [] 0 false
noncomputable def g38:FI:=mkF Tryz.f38 71 [] true [] 64 false [] [] 0 false
noncomputable def g39:FI:=mkF Tryz.f39 2251803576240111 [⟨1,1610612842,[.slot 6 3],false⟩] true [(0,106),(2,1610612842),(1,64)] 192 false [] [] 0 false
noncomputable def g40:FI:=mkF Tryz.f40 10035046790773455982583 [⟨0,25165910,[.slot 4 3],false⟩,⟨2,964690902,[.slot 9 70,.slot 8 3],false⟩] true [(3,964690902),(2,25166678),(1,25165910),(0,16)] 48 false [] [] 0 false
noncomputable def g41:FI:=mkF Tryz.f41 19 [] true [] 16 false [] [] 0 false
noncomputable def g42:FI:=mkF Tryz.f42 33571891 [⟨0,35,[],false⟩] true [(1,35),(0,0)] 16 false [] [] 0 false
noncomputable def g43:FI:=mkF Tryz.f43 33571891 [⟨0,35,[],false⟩] true [(1,35),(0,0)] 16 false [] [] 0 false
noncomputable def g44:FI:=mkF Tryz.f44 95 [] true [] 64 false [] [] 0 false
noncomputable def g45:FI:=mkF Tryz.f45 2105331 [⟨0,3586,[],false⟩] false [(1,3586),(0,0)] 48 true [] [] 0 false
noncomputable def g46:FI:=mkF Tryz.f46 264311 [] false [(0,0)] 32 false [] [] 0 false
noncomputable def g47:FI:=mkF Tryz.f47 265133 [⟨0,137,[],false⟩] true [(2,161),(1,137),(0,9)] 4 false [] [] 0 false
noncomputable def g48:FI:=mkF Tryz.f48 19 [] false [] 16 false [] [] 0 false
noncomputable def g49:FI:=mkF Tryz.f49 15 [] false [] 8 false [] [] 0 false
noncomputable def g50:FI:=mkF Tryz.f50 2105331 [⟨0,3586,[],false⟩] false [(1,3586),(0,0)] 48 true [] [] 0 false
noncomputable def g51:FI:=mkF Tryz.f51 55 [] false [] 32 false [] [] 0 false
noncomputable def g52:FI:=mkF Tryz.f52 137438969919 [] true [(0,0)] 16 false [] [] 0 false
noncomputable def g53:FI:=mkF Tryz.f53 32823 [] false [] 32 false [] [] 0 false
noncomputable def g54:FI:=mkF Tryz.f54 3983 [⟨0,1805,[],false⟩] false [(1,1805),(0,13)] 0 false [] [] 0 false
noncomputable def g55:FI:=mkF Tryz.f55 51 [] false [] 48 false [] [] 0 false
noncomputable def g56:FI:=mkF Tryz.f56 5 [] false [] 4 false [] [] 0 false
noncomputable def g57:FI:=mkF Tryz.f57 71 [] true [] 64 false [] [] 0 false
noncomputable def g58:FI:=mkF Tryz.f58 2195 [] true [] 16 false [] [] 0 false
noncomputable def g59:FI:=mkF Tryz.f59 33587615 [] true [] 256 false [] [] 0 false
noncomputable def g60:FI:=mkF Tryz.f60 1045 [] true [] 4 false [] [] 0 false
noncomputable def g61:FI:=mkF Tryz.f61 16779419 [⟨0,3,[],false⟩] false [(1,3),(0,0)] 0 false [] [] 0 false
noncomputable def g62:FI:=mkF Tryz.f62 19 [] true [] 16 false [] [] 0 false
noncomputable def g64:FI:=mkF Tryz.f64 147 [] true [] 16 false [] [] 0 false
noncomputable def g66:FI:=mkF Tryz.f66 71 [] true [] 64 false [] [] 0 false
noncomputable def g67:FI:=mkF Tryz.f67 563 [] true [] 48 false [] [] 0 false
noncomputable def g68:FI:=mkF Tryz.f68 132147 [⟨0,35,[],false⟩] true [(1,35),(0,0)] 16 false [] [] 0 false
noncomputable def g70:FI:=mkF Tryz.f70 183 [] true [] 48 false [] [] 0 false
noncomputable def g71:FI:=mkF Tryz.f71 7 [] false [] 4 false [] [] 0 false
noncomputable def g73:FI:=mkF Tryz.f73 55 [⟨0,20,[],false⟩] true [(1,0),(0,4)] 4 false [] [] 0 false
noncomputable def g74:FI:=mkF Tryz.f74 688269427663 [⟨0,393422,[],false⟩,⟨2,137438953536,[.slot 6 3],false⟩] true [(1,393422),(0,192),(3,137438953536),(2,64)] 64 false [] [(2,(37,(6,(3,70093866271296))))] 0 false
noncomputable def g75:FI:=mkF Tryz.f75 34429076463 [] true [(0,320)] 192 false [] [] 0 false
noncomputable def g76:FI:=mkF Tryz.f76 532543 [] true [(0,0)] 16 false [] [] 0 false
noncomputable def g78:FI:=mkF Tryz.f78 34628706291 [⟨0,3587,[],false⟩] true [(1,3587),(0,3)] 16 false [] [] 0 false
noncomputable def g79:FI:=mkF Tryz.f79 19 [] false [] 16 false [] [] 0 false
noncomputable def g80:FI:=mkF Tryz.f80 23 [] false [] 16 false [] [] 0 false
noncomputable def g81:FI:=mkF Tryz.f81 66483 [⟨0,387,[],false⟩] false [(1,387),(0,0)] 16 false [] [] 0 false
noncomputable def g83:FI:=mkF Tryz.f83 35184380479629 [⟨0,9,[],false⟩] true [(1,9),(0,0)] 4 false [] [] 0 false
noncomputable def g84:FI:=mkF Tryz.f84 131635 [⟨0,35,[],false⟩] true [(1,35),(0,0)] 16 false [] [] 0 false
noncomputable def g85:FI:=mkF Tryz.f85 79 [] true [] 64 false [] [] 0 false
noncomputable def g86:FI:=mkF Tryz.f86 19 [] true [] 16 false [] [] 0 false
noncomputable def g90:FI:=mkF Tryz.f90 19 [] true [] 16 false [] [] 0 false
noncomputable def g94:FI:=mkF Tryz.f94 139319 [] true [] 48 false [] [] 0 false
noncomputable def g95:FI:=mkF Tryz.f95 7807 [⟨0,3598,[],false⟩] false [(1,3598),(0,14)] 0 true [] [] 0 false
noncomputable def g96:FI:=mkF Tryz.f96 162298890911060791960072274116607 [⟨0,8796093027304,[],false⟩] false [(1,0),(0,512)] 512 true [] [] 0 false
noncomputable def g97:FI:=mkF Tryz.f97 81549309680231488798624078815 [⟨0,1573204,[],false⟩,⟨2,1924146922324,[],false⟩,⟨4,4436,[],false⟩,⟨6,1083197534374707740536738132,[],false⟩] true [(3,1924146922324),(2,1573204),(1,1573204),(0,340),(7,1083197534374707740536738132),(6,4436),(5,4436),(4,336)] 192 false [(25,4)] [] 0 false
noncomputable def g98:FI:=mkF Tryz.f98 127 [] false [] 64 false [] [] 0 false
noncomputable def g100:FI:=mkF Tryz.f100 23 [] true [] 16 false [] [] 0 false
noncomputable def g102:FI:=mkF Tryz.f102 19 [] true [] 16 false [] [] 0 false
noncomputable def g103:FI:=mkF Tryz.f103 604275 [] true [] 16 false [] [] 0 false
noncomputable def g104:FI:=mkF Tryz.f104 66483 [⟨0,387,[],false⟩] false [(1,387),(0,0)] 16 false [] [] 0 false
noncomputable def g106:FI:=mkF Tryz.f106 35201551962567 [⟨0,391,[],false⟩] true [(1,391),(0,128)] 64 false [] [] 0 false
noncomputable def g121:FI:=mkF Tryz.f121 2105331 [⟨0,3586,[],false⟩] false [(1,3586),(0,0)] 48 true [] [] 0 false
noncomputable def g122:FI:=mkF Tryz.f122 55 [] false [] 32 false [] [] 0 false
noncomputable def g123:FI:=mkF Tryz.f123 19 [] false [] 16 false [] [] 0 false
noncomputable def g124:FI:=mkF Tryz.f124 7 [] true [] 4 false [] [] 0 false
noncomputable def g125:FI:=mkF Tryz.f125 35201803616751 [⟨0,117440621,[],false⟩] false [(1,117440621),(0,0)] 0 false [] [] 0 false
noncomputable def g129:FI:=mkF Tryz.f129 66483 [⟨0,387,[],false⟩] true [(1,387),(0,0)] 16 false [] [] 0 false
noncomputable def g130:FI:=mkF Tryz.f130 5 [] true [] 4 false [] [] 0 false
noncomputable def g143:FI:=mkF Tryz.f143 66483 [⟨0,387,[],false⟩] false [(1,387),(0,0)] 16 false [] [] 0 false
noncomputable def fnT:Tr FI:=(.node (.node (.node (.node (.node (.node .leaf (some g31) (.node .leaf (some g95) .leaf)) (some g15) (.node (.node (.node .leaf (some g143) .leaf) (some g79) .leaf) (some g47) .leaf)) (some g7) (.node (.node (.node .leaf (some g71) .leaf) (some g39) (.node .leaf (some g103) .leaf)) (some g23) (.node .leaf (some g55) .leaf))) (some g3) (.node (.node (.node (.node .leaf (some g67) .leaf) (some g35) .leaf) (some g19) (.node (.node .leaf (some g83) .leaf) (some g51) .leaf)) (some g11) (.node (.node (.node .leaf (some g75) .leaf) (some g43) .leaf) (some g27) (.node .leaf (some g59) (.node .leaf (some g123) .leaf))))) none (.node (.node (.node (.node (.node (.node .leaf (some g129) .leaf) none .leaf) (some g33) (.node .leaf (some g97) .leaf)) (some g17) (.node (.node .leaf (some g81) .leaf) (some g49) .leaf)) (some g9) (.node (.node (.node .leaf (some g73) .leaf) (some g41) .leaf) (some g25) (.node .leaf (some g57) (.node .leaf (some g121) .leaf)))) (some g5) (.node (.node (.node .leaf (some g37) .leaf) (some g21) (.node (.node .leaf (some g85) .leaf) (some g53) .leaf)) (some g13) (.node (.node .leaf (some g45) .leaf) (some g29) (.node .leaf (some g61) (.node .leaf (some g125) .leaf)))))) none (.node (.node (.node (.node (.node (.node .leaf (some g64) .leaf) (some g32) (.node .leaf (some g96) .leaf)) (some g16) (.node (.node .leaf (some g80) .leaf) (some g48) .leaf)) (some g8) (.node (.node .leaf (some g40) (.node .leaf (some g104) .leaf)) (some g24) (.node .leaf (some g56) .leaf))) (some g4) (.node (.node (.node (.node .leaf (some g68) .leaf) (some g36) (.node .leaf (some g100) .leaf)) (some g20) (.node (.node .leaf (some g84) .leaf) (some g52) .leaf)) (some g12) (.node (.node (.node .leaf (some g76) .leaf) (some g44) .leaf) (some g28) (.node .leaf (some g60) (.node .leaf (some g124) .leaf))))) none (.node (.node (.node (.node (.node (.node .leaf (some g130) .leaf) (some g66) .leaf) (some g34) (.node .leaf (some g98) .leaf)) (some g18) (.node .leaf (some g50) .leaf)) (some g10) (.node (.node (.node .leaf (some g74) .leaf) (some g42) (.node .leaf (some g106) .leaf)) (some g26) (.node (.node .leaf (some g90) .leaf) (some g58) (.node .leaf (some g122) .leaf)))) (some g6) (.node (.node (.node (.node .leaf (some g70) .leaf) (some g38) (.node .leaf (some g102) .leaf)) (some g22) (.node (.node .leaf (some g86) .leaf) (some g54) .leaf)) (some g14) (.node (.node (.node .leaf (some g78) .leaf) (some g46) .leaf) (some g30) (.node (.node .leaf (some g94) .leaf) (some g62) .leaf))))))
noncomputable def powN:String:=((Tryz.prog.globals[3]?).map (·.name)).getD default
def leafT:Tr (List DV->Option DV):=(.node (.node .leaf none (.node (.node (.node (.node (.node .leaf (some (Z62 156)) .leaf) none .leaf) none .leaf) none .leaf) none (.node .leaf none (.node .leaf (some Zai) .leaf)))) none (.node (.node .leaf none (.node (.node .leaf (some Z4P) .leaf) none .leaf)) none (.node .leaf none (.node (.node .leaf none (.node (.node .leaf (some Z2I) .leaf) none .leaf)) none .leaf))))
def ccT:Tr TypeId:=(.node .leaf none (.node .leaf none (.node (.node (.node .leaf none (.node (.node .leaf (some 93) .leaf) none .leaf)) none .leaf) none .leaf)))
def clnT:Tr TypeId:=(.node (.node (.node .leaf none (.node (.node (.node .leaf none (.node .leaf (some 140) .leaf)) none .leaf) none .leaf)) none (.node .leaf none (.node .leaf none (.node (.node (.node .leaf (some 54) .leaf) none .leaf) none .leaf)))) none (.node (.node (.node .leaf none (.node (.node (.node .leaf (some 52) .leaf) none .leaf) none .leaf)) none .leaf) none (.node .leaf none (.node .leaf none (.node .leaf none (.node .leaf none (.node .leaf (some 70) .leaf)))))))
def srtT:Tr TypeId:=(.node (.node .leaf none (.node .leaf none (.node (.node (.node .leaf none (.node .leaf (some 3) .leaf)) none .leaf) none .leaf))) none .leaf)
noncomputable def E:Env:=⟨tyT.get,fnT.get,leafT.get,ccT.get,clnT.get,fun t=>Nat.beq t 93,srtT.get,fun g=>Nat.beq g 18,fun w=>(∃m,w.cell? ⟨0,0,none⟩=some (.int .i64 m))/\Lib.TabIs Tryz.prog w powN .u64 Lib.pow10Tab/\ZjK 1 w/\ZjK 2 w,fun _ _ h hb=>⟨Zcw h.1 hb,ZeV h.2.1 hb,ZaK h.2.2.1 hb,ZaK h.2.2.2 hb⟩⟩
end Go.Proofs.YtfiegoekphpjlaaGreatDoor
namespace Go.Proofs
open Go.Shelf
def Tryz.laysM171_ren:Go.Shelf.Ren:=⟨fun|171=>29|243=>69|246=>93|283=>117|284=>118|285=>119|286=>120|129=>139|317=>138|318=>140|319=>141|320=>142|337=>157|338=>158|n=>n,fun|3=>3|9=>9|2=>2|4=>4|171=>159|0=>0|53=>160|37=>91|5=>5|173=>163|212=>183|51=>184|20=>20|213=>185|46=>173|232=>213|233=>214|n=>n,fun|17=>3|18=>6|19=>7|n=>n⟩
theorem Tryz.laysM171:Go.Proofs.LaysM.n171 Tryz.prog Tryz.laysM171_ren:={
 mixed:=by kernel_rfl
 f129:=Tryz.func139.trans (congrArg some (by kernel_rfl))
 f171:=Tryz.func29.trans (congrArg some (by kernel_rfl))
 f243:=Tryz.func69.trans (congrArg some (by kernel_rfl))
 f246:=Tryz.func93.trans (congrArg some (by kernel_rfl))
 f283:=Tryz.func117.trans (congrArg some (by kernel_rfl))
 f284:=Tryz.func118.trans (congrArg some (by kernel_rfl))
 f285:=Tryz.func119.trans (congrArg some (by kernel_rfl))
 f286:=Tryz.func120.trans (congrArg some (by kernel_rfl))
 f317:=Tryz.func138.trans (congrArg some (by kernel_rfl))
 f318:=Tryz.func140.trans (congrArg some (by kernel_rfl))
 f319:=Tryz.func141.trans (congrArg some (by kernel_rfl))
 f320:=Tryz.func142.trans (congrArg some (by kernel_rfl))
 f337:=Tryz.func157.trans (congrArg some (by kernel_rfl))
 f338:=Tryz.func158.trans (congrArg some (by kernel_rfl))
 t0:=Tryz.underlying0
 a0:=Tryz.isAgg0
 z0:=Tryz.sizeOf0
 v0:=Tryz.zeroValue0
 t2:=Tryz.underlying2
 a2:=Tryz.isAgg2
 z2:=Tryz.sizeOf2
 v2:=Tryz.zeroValue2
 t3:=Tryz.underlying3
 a3:=Tryz.isAgg3
 z3:=Tryz.sizeOf3
 v3:=Tryz.zeroValue3
 t4:=Tryz.underlying4
 a4:=Tryz.isAgg4
 z4:=Tryz.sizeOf4
 v4:=Tryz.zeroValue4
 t5:=Tryz.underlying5
 a5:=Tryz.isAgg5
 z5:=Tryz.sizeOf5
 v5:=Tryz.zeroValue5
 t9:=Tryz.underlying9
 a9:=Tryz.isAgg9
 z9:=Tryz.sizeOf9
 v9:=Tryz.zeroValue9
 t20:=Tryz.underlying20
 a20:=Tryz.isAgg20
 z20:=Tryz.sizeOf20
 v20:=Tryz.zeroValue20
 t37:=Tryz.underlying91
 a37:=Tryz.isAgg91
 z37:=Tryz.sizeOf91
 v37:=Tryz.zeroValue91
 t46:=Tryz.underlying173
 a46:=Tryz.isAgg173
 z46:=Tryz.sizeOf173
 v46:=Tryz.zeroValue173
 t51:=Tryz.underlying184
 a51:=Tryz.isAgg184
 z51:=Tryz.sizeOf184
 v51:=Tryz.zeroValue184
 t53:=Tryz.underlying160
 a53:=Tryz.isAgg160
 z53:=Tryz.sizeOf160
 v53:=Tryz.zeroValue160
 t171:=Tryz.underlying159
 a171:=Tryz.isAgg159
 z171:=Tryz.sizeOf159
 v171:=Tryz.zeroValue159
 t173:=Tryz.underlying163
 a173:=Tryz.isAgg163
 z173:=Tryz.sizeOf163
 v173:=Tryz.zeroValue163
 t212:=Tryz.underlying183
 a212:=Tryz.isAgg183
 z212:=Tryz.sizeOf183
 v212:=Tryz.zeroValue183
 t213:=Tryz.underlying185
 a213:=Tryz.isAgg185
 z213:=Tryz.sizeOf185
 t232:=Tryz.underlying213
 a232:=Tryz.isAgg213
 z232:=Tryz.sizeOf213
 v232:=Tryz.zeroValue213
 t233:=Tryz.underlying214
 a233:=Tryz.isAgg214
 z233:=Tryz.sizeOf214
 v233:=Tryz.zeroValue214
 g17:=by kernel_rfl
 g18:=by kernel_rfl
 g19:=by kernel_rfl
 i0:=by kernel_rfl
 i2:=by kernel_rfl
 i3:=by kernel_rfl
 i4:=by kernel_rfl
 i5:=by kernel_rfl
 i9:=by kernel_rfl
 i20:=by kernel_rfl
 i37:=by kernel_rfl
 i46:=by kernel_rfl
 i51:=by kernel_rfl
 i53:=by kernel_rfl
 i171:=by kernel_rfl
 i173:=by kernel_rfl
 i212:=by kernel_rfl
 i232:=by kernel_rfl
 i233:=by kernel_rfl
 m17:=by kernel_rfl
 m18:=by kernel_rfl
 m19:=by kernel_rfl }
def Tryz.laysC172_ren:Go.Shelf.Ren:=⟨fun|172=>65|244=>91|245=>92|247=>112|279=>113|280=>114|281=>115|282=>116|287=>135|316=>136|171=>29|205=>137|321=>155|322=>156|243=>69|246=>93|283=>117|284=>118|285=>119|286=>120|129=>139|317=>138|318=>140|319=>141|320=>142|337=>157|338=>158|n=>n,fun|9=>9|3=>3|75=>95|76=>96|4=>4|5=>5|167=>153|37=>91|0=>0|85=>154|2=>2|168=>156|53=>160|175=>176|46=>173|210=>180|127=>122|145=>206|143=>204|21=>21|171=>159|173=>163|212=>183|51=>184|20=>20|213=>185|232=>213|233=>214|80=>99|n=>n,fun|15=>1|16=>2|17=>3|18=>6|19=>7|n=>n⟩
theorem Tryz.laysC172:Go.Proofs.LaysC.n172 Tryz.prog Tryz.laysC172_ren:={
 mixed:=by kernel_rfl
 f129:=Tryz.func139.trans (congrArg some (by kernel_rfl))
 f171:=Tryz.func29.trans (congrArg some (by kernel_rfl))
 f172:=Tryz.func65.trans (congrArg some (by kernel_rfl))
 f205:=Tryz.func137.trans (congrArg some (by kernel_rfl))
 f243:=Tryz.func69.trans (congrArg some (by kernel_rfl))
 f244:=Tryz.func91.trans (congrArg some (by kernel_rfl))
 f245:=Tryz.func92.trans (congrArg some (by kernel_rfl))
 f246:=Tryz.func93.trans (congrArg some (by kernel_rfl))
 f247:=Tryz.func112.trans (congrArg some (by kernel_rfl))
 f279:=Tryz.func113.trans (congrArg some (by kernel_rfl))
 f280:=Tryz.func114.trans (congrArg some (by kernel_rfl))
 f281:=Tryz.func115.trans (congrArg some (by kernel_rfl))
 f282:=Tryz.func116.trans (congrArg some (by kernel_rfl))
 f283:=Tryz.func117.trans (congrArg some (by kernel_rfl))
 f284:=Tryz.func118.trans (congrArg some (by kernel_rfl))
 f285:=Tryz.func119.trans (congrArg some (by kernel_rfl))
 f286:=Tryz.func120.trans (congrArg some (by kernel_rfl))
 f287:=Tryz.func135.trans (congrArg some (by kernel_rfl))
 f316:=Tryz.func136.trans (congrArg some (by kernel_rfl))
 f317:=Tryz.func138.trans (congrArg some (by kernel_rfl))
 f318:=Tryz.func140.trans (congrArg some (by kernel_rfl))
 f319:=Tryz.func141.trans (congrArg some (by kernel_rfl))
 f320:=Tryz.func142.trans (congrArg some (by kernel_rfl))
 f321:=Tryz.func155.trans (congrArg some (by kernel_rfl))
 f322:=Tryz.func156.trans (congrArg some (by kernel_rfl))
 f337:=Tryz.func157.trans (congrArg some (by kernel_rfl))
 f338:=Tryz.func158.trans (congrArg some (by kernel_rfl))
 t0:=Tryz.underlying0
 a0:=Tryz.isAgg0
 z0:=Tryz.sizeOf0
 v0:=Tryz.zeroValue0
 t2:=Tryz.underlying2
 a2:=Tryz.isAgg2
 z2:=Tryz.sizeOf2
 v2:=Tryz.zeroValue2
 t3:=Tryz.underlying3
 a3:=Tryz.isAgg3
 z3:=Tryz.sizeOf3
 v3:=Tryz.zeroValue3
 t4:=Tryz.underlying4
 a4:=Tryz.isAgg4
 z4:=Tryz.sizeOf4
 v4:=Tryz.zeroValue4
 t5:=Tryz.underlying5
 a5:=Tryz.isAgg5
 z5:=Tryz.sizeOf5
 v5:=Tryz.zeroValue5
 t9:=Tryz.underlying9
 a9:=Tryz.isAgg9
 z9:=Tryz.sizeOf9
 v9:=Tryz.zeroValue9
 t20:=Tryz.underlying20
 a20:=Tryz.isAgg20
 z20:=Tryz.sizeOf20
 v20:=Tryz.zeroValue20
 t21:=Tryz.underlying21
 a21:=Tryz.isAgg21
 z21:=Tryz.sizeOf21
 v21:=Tryz.zeroValue21
 t37:=Tryz.underlying91
 a37:=Tryz.isAgg91
 z37:=Tryz.sizeOf91
 v37:=Tryz.zeroValue91
 t46:=Tryz.underlying173
 a46:=Tryz.isAgg173
 z46:=Tryz.sizeOf173
 v46:=Tryz.zeroValue173
 t51:=Tryz.underlying184
 a51:=Tryz.isAgg184
 z51:=Tryz.sizeOf184
 v51:=Tryz.zeroValue184
 t53:=Tryz.underlying160
 a53:=Tryz.isAgg160
 z53:=Tryz.sizeOf160
 v53:=Tryz.zeroValue160
 t75:=Tryz.underlying95
 a75:=Tryz.isAgg95
 z75:=Tryz.sizeOf95
 v75:=Tryz.zeroValue95
 t76:=Tryz.underlying96
 a76:=Tryz.isAgg96
 z76:=Tryz.sizeOf96
 v76:=Tryz.zeroValue96
 t85:=Tryz.underlying154
 a85:=Tryz.isAgg154
 z85:=Tryz.sizeOf154
 v85:=Tryz.zeroValue154
 t127:=Tryz.underlying122
 a127:=Tryz.isAgg122
 z127:=Tryz.sizeOf122
 v127:=Tryz.zeroValue122
 t143:=Tryz.underlying204
 a143:=Tryz.isAgg204
 z143:=Tryz.sizeOf204
 v143:=Tryz.zeroValue204
 t145:=Tryz.underlying206
 a145:=Tryz.isAgg206
 z145:=Tryz.sizeOf206
 v145:=Tryz.zeroValue206
 t167:=Tryz.underlying153
 a167:=Tryz.isAgg153
 z167:=Tryz.sizeOf153
 v167:=Tryz.zeroValue153
 t168:=Tryz.underlying156
 a168:=Tryz.isAgg156
 z168:=Tryz.sizeOf156
 v168:=Tryz.zeroValue156
 t171:=Tryz.underlying159
 a171:=Tryz.isAgg159
 z171:=Tryz.sizeOf159
 v171:=Tryz.zeroValue159
 t173:=Tryz.underlying163
 a173:=Tryz.isAgg163
 z173:=Tryz.sizeOf163
 v173:=Tryz.zeroValue163
 t175:=Tryz.underlying176
 a175:=Tryz.isAgg176
 z175:=Tryz.sizeOf176
 v175:=Tryz.zeroValue176
 t210:=Tryz.underlying180
 a210:=Tryz.isAgg180
 z210:=Tryz.sizeOf180
 v210:=Tryz.zeroValue180
 t212:=Tryz.underlying183
 a212:=Tryz.isAgg183
 z212:=Tryz.sizeOf183
 v212:=Tryz.zeroValue183
 t213:=Tryz.underlying185
 a213:=Tryz.isAgg185
 z213:=Tryz.sizeOf185
 t232:=Tryz.underlying213
 a232:=Tryz.isAgg213
 z232:=Tryz.sizeOf213
 v232:=Tryz.zeroValue213
 t233:=Tryz.underlying214
 a233:=Tryz.isAgg214
 z233:=Tryz.sizeOf214
 v233:=Tryz.zeroValue214
 g15:=by kernel_rfl
 g16:=by kernel_rfl
 g17:=by kernel_rfl
 g18:=by kernel_rfl
 g19:=by kernel_rfl
 t80:=Tryz.underlying99
 a80:=Tryz.isAgg99
 z80:=Tryz.sizeOf99
 v80:=Tryz.zeroValue99
 i0:=by kernel_rfl
 i2:=by kernel_rfl
 i3:=by kernel_rfl
 i4:=by kernel_rfl
 i5:=by kernel_rfl
 i9:=by kernel_rfl
 i20:=by kernel_rfl
 i21:=by kernel_rfl
 i37:=by kernel_rfl
 i46:=by kernel_rfl
 i51:=by kernel_rfl
 i53:=by kernel_rfl
 i75:=by kernel_rfl
 i76:=by kernel_rfl
 i80:=by kernel_rfl
 i85:=by kernel_rfl
 i127:=by kernel_rfl
 i143:=by kernel_rfl
 i145:=by kernel_rfl
 i167:=by kernel_rfl
 i168:=by kernel_rfl
 i171:=by kernel_rfl
 i173:=by kernel_rfl
 i175:=by kernel_rfl
 i210:=by kernel_rfl
 i212:=by kernel_rfl
 i232:=by kernel_rfl
 i233:=by kernel_rfl
 m15:=by kernel_rfl
 m16:=by kernel_rfl
 m17:=by kernel_rfl
 m18:=by kernel_rfl
 m19:=by kernel_rfl
 c0:=by kernel_rfl
 c2:=by kernel_rfl
 c3:=by kernel_rfl
 c4:=by kernel_rfl
 c5:=by kernel_rfl
 c9:=by kernel_rfl
 c20:=by kernel_rfl
 c21:=by kernel_rfl
 c37:=by kernel_rfl
 c46:=by kernel_rfl
 c51:=by kernel_rfl
 c53:=by kernel_rfl
 c75:=by kernel_rfl
 c76:=by kernel_rfl
 c80:=by kernel_rfl
 c85:=by kernel_rfl
 c127:=by kernel_rfl
 c143:=by kernel_rfl
 c145:=by kernel_rfl
 c167:=by kernel_rfl
 c168:=by kernel_rfl
 c171:=by kernel_rfl
 c173:=by kernel_rfl
 c175:=by kernel_rfl
 c210:=by kernel_rfl
 c212:=by kernel_rfl
 c213:=by kernel_rfl
 c232:=by kernel_rfl
 c233:=by kernel_rfl }
def Tryz.laysM146_ren:Go.Shelf.Ren:=⟨fun|146=>20|221=>63|268=>87|138=>88|143=>89|195=>108|197=>109|218=>110|219=>111|260=>131|217=>86|225=>132|224=>133|267=>134|266=>107|314=>154|n=>n,fun|9=>9|31=>43|3=>3|4=>4|0=>0|105=>151|21=>21|5=>5|46=>173|119=>197|139=>200|138=>199|146=>201|51=>184|n=>n,fun|1=>0|3=>4|4=>5|n=>n⟩
theorem Tryz.laysM146:Go.Proofs.LaysM.n146 Tryz.prog Tryz.laysM146_ren:={
 mixed:=by kernel_rfl
 f138:=Tryz.func88.trans (congrArg some (by kernel_rfl))
 f143:=Tryz.func89.trans (congrArg some (by kernel_rfl))
 f146:=Tryz.func20.trans (congrArg some (by kernel_rfl))
 f195:=Tryz.func108.trans (congrArg some (by kernel_rfl))
 f197:=Tryz.func109.trans (congrArg some (by kernel_rfl))
 f217:=Tryz.func86.trans (congrArg some (by kernel_rfl))
 f218:=Tryz.func110.trans (congrArg some (by kernel_rfl))
 f219:=Tryz.func111.trans (congrArg some (by kernel_rfl))
 f221:=Tryz.func63.trans (congrArg some (by kernel_rfl))
 f224:=Tryz.func133.trans (congrArg some (by kernel_rfl))
 f225:=Tryz.func132.trans (congrArg some (by kernel_rfl))
 f260:=Tryz.func131.trans (congrArg some (by kernel_rfl))
 f266:=Tryz.func107.trans (congrArg some (by kernel_rfl))
 f267:=Tryz.func134.trans (congrArg some (by kernel_rfl))
 f268:=Tryz.func87.trans (congrArg some (by kernel_rfl))
 f314:=Tryz.func154.trans (congrArg some (by kernel_rfl))
 t0:=Tryz.underlying0
 a0:=Tryz.isAgg0
 z0:=Tryz.sizeOf0
 v0:=Tryz.zeroValue0
 t3:=Tryz.underlying3
 a3:=Tryz.isAgg3
 z3:=Tryz.sizeOf3
 v3:=Tryz.zeroValue3
 t4:=Tryz.underlying4
 a4:=Tryz.isAgg4
 z4:=Tryz.sizeOf4
 v4:=Tryz.zeroValue4
 t5:=Tryz.underlying5
 a5:=Tryz.isAgg5
 z5:=Tryz.sizeOf5
 v5:=Tryz.zeroValue5
 t9:=Tryz.underlying9
 a9:=Tryz.isAgg9
 z9:=Tryz.sizeOf9
 v9:=Tryz.zeroValue9
 t21:=Tryz.underlying21
 a21:=Tryz.isAgg21
 z21:=Tryz.sizeOf21
 v21:=Tryz.zeroValue21
 t31:=Tryz.underlying43
 a31:=Tryz.isAgg43
 z31:=Tryz.sizeOf43
 v31:=Tryz.zeroValue43
 t46:=Tryz.underlying173
 a46:=Tryz.isAgg173
 z46:=Tryz.sizeOf173
 v46:=Tryz.zeroValue173
 t51:=Tryz.underlying184
 a51:=Tryz.isAgg184
 z51:=Tryz.sizeOf184
 v51:=Tryz.zeroValue184
 t105:=Tryz.underlying151
 a105:=Tryz.isAgg151
 z105:=Tryz.sizeOf151
 v105:=Tryz.zeroValue151
 t119:=Tryz.underlying197
 a119:=Tryz.isAgg197
 z119:=Tryz.sizeOf197
 t138:=Tryz.underlying199
 a138:=Tryz.isAgg199
 z138:=Tryz.sizeOf199
 v138:=Tryz.zeroValue199
 t139:=Tryz.underlying200
 a139:=Tryz.isAgg200
 z139:=Tryz.sizeOf200
 v139:=Tryz.zeroValue200
 t146:=Tryz.underlying201
 a146:=Tryz.isAgg201
 z146:=Tryz.sizeOf201
 v146:=Tryz.zeroValue201
 g1:=by kernel_rfl
 g3:=by kernel_rfl
 g4:=by kernel_rfl
 i0:=by kernel_rfl
 i3:=by kernel_rfl
 i4:=by kernel_rfl
 i5:=by kernel_rfl
 i9:=by kernel_rfl
 i21:=by kernel_rfl
 i31:=by kernel_rfl
 i46:=by kernel_rfl
 i51:=by kernel_rfl
 i105:=by kernel_rfl
 i138:=by kernel_rfl
 i139:=by kernel_rfl
 i146:=by kernel_rfl
 m1:=by kernel_rfl
 s1_3:=fun w h=>Go.Proofs.cell_of_shapedOpen_int (zero := #[.int .i64 0]) (t:=3) h (of_decide_eq_true (by kernel_rfl)) (by kernel_rfl) rfl (by kernel_rfl) (by kernel_rfl) Tryz.underlying3
 m3:=by kernel_rfl
 m4:=by kernel_rfl }
def Tryz.lays217_ren:Go.Shelf.Ren:=⟨fun|217=>86|266=>107|n=>n,fun|9=>9|5=>5|3=>3|n=>n,fun|n=>n⟩
theorem Tryz.lays217:Go.Proofs.Lays.n217 Tryz.prog Tryz.lays217_ren:={
 mixed:=by kernel_rfl
 f217:=Tryz.func86.trans (congrArg some (by kernel_rfl))
 f266:=Tryz.func107.trans (congrArg some (by kernel_rfl))
 t3:=Tryz.underlying3
 a3:=Tryz.isAgg3
 z3:=Tryz.sizeOf3
 v3:=Tryz.zeroValue3
 t5:=Tryz.underlying5
 a5:=Tryz.isAgg5
 z5:=Tryz.sizeOf5
 v5:=Tryz.zeroValue5
 t9:=Tryz.underlying9
 a9:=Tryz.isAgg9
 z9:=Tryz.sizeOf9
 v9:=Tryz.zeroValue9 }
def Tryz.lays189_ren:Go.Shelf.Ren:=⟨fun|189=>101|125=>128|257=>127|128=>153|129=>139|294=>144|295=>145|296=>146|297=>147|298=>148|299=>149|216=>150|300=>151|301=>152|328=>159|329=>160|330=>161|331=>162|332=>163|215=>130|343=>164|n=>n,fun|28=>47|3=>3|46=>173|0=>0|51=>184|53=>160|4=>4|183=>189|182=>188|131=>194|5=>5|9=>9|218=>207|222=>211|228=>215|229=>216|n=>n,fun|n=>n⟩
theorem Tryz.lays189:Go.Proofs.Lays.n189 Tryz.prog Tryz.lays189_ren:={
 mixed:=by kernel_rfl
 f125:=Tryz.func128.trans (congrArg some (by kernel_rfl))
 f128:=Tryz.func153.trans (congrArg some (by kernel_rfl))
 f129:=Tryz.func139.trans (congrArg some (by kernel_rfl))
 f189:=Tryz.func101.trans (congrArg some (by kernel_rfl))
 f215:=Tryz.func130.trans (congrArg some (by kernel_rfl))
 f216:=Tryz.func150.trans (congrArg some (by kernel_rfl))
 f257:=Tryz.func127.trans (congrArg some (by kernel_rfl))
 f294:=Tryz.func144.trans (congrArg some (by kernel_rfl))
 f295:=Tryz.func145.trans (congrArg some (by kernel_rfl))
 f296:=Tryz.func146.trans (congrArg some (by kernel_rfl))
 f297:=Tryz.func147.trans (congrArg some (by kernel_rfl))
 f298:=Tryz.func148.trans (congrArg some (by kernel_rfl))
 f299:=Tryz.func149.trans (congrArg some (by kernel_rfl))
 f300:=Tryz.func151.trans (congrArg some (by kernel_rfl))
 f301:=Tryz.func152.trans (congrArg some (by kernel_rfl))
 f328:=Tryz.func159.trans (congrArg some (by kernel_rfl))
 f329:=Tryz.func160.trans (congrArg some (by kernel_rfl))
 f330:=Tryz.func161.trans (congrArg some (by kernel_rfl))
 f331:=Tryz.func162.trans (congrArg some (by kernel_rfl))
 f332:=Tryz.func163.trans (congrArg some (by kernel_rfl))
 f343:=Tryz.func164.trans (congrArg some (by kernel_rfl))
 t0:=Tryz.underlying0
 a0:=Tryz.isAgg0
 z0:=Tryz.sizeOf0
 v0:=Tryz.zeroValue0
 t3:=Tryz.underlying3
 a3:=Tryz.isAgg3
 z3:=Tryz.sizeOf3
 v3:=Tryz.zeroValue3
 t4:=Tryz.underlying4
 a4:=Tryz.isAgg4
 z4:=Tryz.sizeOf4
 v4:=Tryz.zeroValue4
 t5:=Tryz.underlying5
 a5:=Tryz.isAgg5
 z5:=Tryz.sizeOf5
 v5:=Tryz.zeroValue5
 t9:=Tryz.underlying9
 a9:=Tryz.isAgg9
 z9:=Tryz.sizeOf9
 v9:=Tryz.zeroValue9
 t28:=Tryz.underlying47
 a28:=Tryz.isAgg47
 z28:=Tryz.sizeOf47
 v28:=Tryz.zeroValue47
 t46:=Tryz.underlying173
 a46:=Tryz.isAgg173
 z46:=Tryz.sizeOf173
 v46:=Tryz.zeroValue173
 t51:=Tryz.underlying184
 a51:=Tryz.isAgg184
 z51:=Tryz.sizeOf184
 v51:=Tryz.zeroValue184
 t53:=Tryz.underlying160
 a53:=Tryz.isAgg160
 z53:=Tryz.sizeOf160
 v53:=Tryz.zeroValue160
 t131:=Tryz.underlying194
 a131:=Tryz.isAgg194
 z131:=Tryz.sizeOf194
 v131:=Tryz.zeroValue194
 t182:=Tryz.underlying188
 a182:=Tryz.isAgg188
 z182:=Tryz.sizeOf188
 v182:=Tryz.zeroValue188
 t183:=Tryz.underlying189
 a183:=Tryz.isAgg189
 z183:=Tryz.sizeOf189
 v183:=Tryz.zeroValue189
 t218:=Tryz.underlying207
 a218:=Tryz.isAgg207
 z218:=Tryz.sizeOf207
 v218:=Tryz.zeroValue207
 t222:=Tryz.underlying211
 a222:=Tryz.isAgg211
 z222:=Tryz.sizeOf211
 v222:=Tryz.zeroValue211
 t228:=Tryz.underlying215
 a228:=Tryz.isAgg215
 z228:=Tryz.sizeOf215
 v228:=Tryz.zeroValue215
 t229:=Tryz.underlying216
 a229:=Tryz.isAgg216
 z229:=Tryz.sizeOf216
 v229:=Tryz.zeroValue216 }
def Tryz.laysSlE041_f72_ren:Go.Shelf.Ren:=⟨fun|41=>72|n=>n,fun|22=>65|23=>52|4=>4|n=>n,fun|n=>n⟩
theorem Tryz.laysSlE041_f72:Go.Proofs.SlLaysE0.n41 Tryz.prog Tryz.laysSlE041_f72_ren:={
 mixed:=by kernel_rfl
 f41:=⟨Tryz.f72.name,by decide,Tryz.func72.trans (congrArg some (by kernel_rfl))⟩
 t4:=Tryz.underlying4
 a4:=Tryz.isAgg4
 z4:=Tryz.sizeOf4
 v4:=Tryz.zeroValue4
 t22:=Tryz.underlying65
 a22:=Tryz.isAgg65
 z22:=Tryz.sizeOf65
 v22:=Tryz.zeroValue65 }
def Tryz.laysSlE041_f77_ren:Go.Shelf.Ren:=⟨fun|41=>77|n=>n,fun|22=>23|23=>54|4=>4|n=>n,fun|n=>n⟩
theorem Tryz.laysSlE041_f77:Go.Proofs.SlLaysE0.n41 Tryz.prog Tryz.laysSlE041_f77_ren:={
 mixed:=by kernel_rfl
 f41:=⟨Tryz.f77.name,by decide,Tryz.func77.trans (congrArg some (by kernel_rfl))⟩
 t4:=Tryz.underlying4
 a4:=Tryz.isAgg4
 z4:=Tryz.sizeOf4
 v4:=Tryz.zeroValue4
 t22:=Tryz.underlying23
 a22:=Tryz.isAgg23
 z22:=Tryz.sizeOf23
 v22:=Tryz.zeroValue23 }
def Tryz.laysSlE041_f99_ren:Go.Shelf.Ren:=⟨fun|41=>99|n=>n,fun|22=>133|23=>140|4=>4|n=>n,fun|n=>n⟩
theorem Tryz.laysSlE041_f99:Go.Proofs.SlLaysE0.n41 Tryz.prog Tryz.laysSlE041_f99_ren:={
 mixed:=by kernel_rfl
 f41:=⟨Tryz.f99.name,by decide,Tryz.func99.trans (congrArg some (by kernel_rfl))⟩
 t4:=Tryz.underlying4
 a4:=Tryz.isAgg4
 z4:=Tryz.sizeOf4
 v4:=Tryz.zeroValue4
 t22:=Tryz.underlying133
 a22:=Tryz.isAgg133
 z22:=Tryz.sizeOf133
 v22:=Tryz.zeroValue133 }
def Tryz.laysSlE041_f126_ren:Go.Shelf.Ren:=⟨fun|41=>126|n=>n,fun|22=>68|23=>70|4=>4|n=>n,fun|n=>n⟩
theorem Tryz.laysSlE041_f126:Go.Proofs.SlLaysE0.n41 Tryz.prog Tryz.laysSlE041_f126_ren:={
 mixed:=by kernel_rfl
 f41:=⟨Tryz.f126.name,by decide,Tryz.func126.trans (congrArg some (by kernel_rfl))⟩
 t4:=Tryz.underlying4
 a4:=Tryz.isAgg4
 z4:=Tryz.sizeOf4
 v4:=Tryz.zeroValue4
 t22:=Tryz.underlying68
 a22:=Tryz.isAgg68
 z22:=Tryz.sizeOf68
 v22:=Tryz.zeroValue68 }
end Go.Proofs
namespace Go.Proofs.YtfiegoekphpjlaaGreatDoor
open Go.Ab Go.Proofs Go.RowKit Go.Shelf
set_option maxRecDepth 100000 in
theorem dfr18:Zgp Tryz.prog 18:=fun n cap w=>by
 refine⟨?_,?_⟩
 ·have h:=YH Tryz.func18 (c:=bodyOf Tryz.f18) rfl (by kernel_rfl) cap w
  have e:(invoke (.fn (.func 18) cap) #[]).run Tryz.prog w=(callFunc 18 cap).run Tryz.prog w:=by simp[go_sem,invoke]
  rw[e];exact h
 ·refine callsDIn_of_wpSIn Tryz.func18 rfl trivial fun c₀ cs hu=>?_;have hs:(cap++Array.replicate (Tryz.f18.ntmps-cap.size) undef).size=max cap.size 9:=by
   rw[Tryz.ntmps18];simp;omega
  generalize cap++Array.replicate (Tryz.f18.ntmps-cap.size) undef=tm at hs⊢;apply wpSIn_seq;apply wpSIn_region;simp[wpOpsSIn,go_sem,recoverD,hu,Exit.thenS];have l2:2<max cap.size 9:=by omega
  have l3:3<max cap.size 9:=by omega
  have l4:4<max cap.size 9:=by omega
  have l5:5<max cap.size 9:=by omega
  have hb:(binOp .neq 20 .nilIface .nilIface).run Tryz.prog w=.ok (.bool false) w:=by simp[binOp,Z51 Tryz.underlying20]
  apply wpSIn_seq;apply wpSIn_region;simp[wpOpsSIn,go_sem,hs,Exit.thenS,l2,l3,l4,hb];refine wpSIn_cond (t:=false) (by simp[Act.eval,hs,l5]) ?_
  simp only[Bool.false_eq_true,if_false];refine wpSIn_of_wpIn rfl (wpIn_skip ?_);cases c₀;simp_all [bodyPostS,results,Tryz.results18]
set_option maxHeartbeats 1000000 in
set_option maxRecDepth 100000 in
theorem cc82_used (b:Nat) (w:World) (h0:w.cell? ⟨b,0,none⟩=some (.pointer (some ⟨b,0,none⟩))) :
  Calls Tryz.prog 82 #[.pointer (some ⟨b,0,none⟩)] w fun e w'=>e=.returned (.tuple #[])/\w'=w:=by
 obtain⟨j,hj,_⟩:=Option.map_eq_some_iff.1 (show(Tryz.prog.info? 93).map (·.size)=some 2 by kernel_rfl)
 go_enter Tryz.func82,Tryz.ntmps82
 go_wp2
 rw[Lib.run_neq_ptr_same w _ Tryz.underlying90 hj]
 go_wp2
 go_end0
 exact⟨rfl,rfl⟩
set_option maxHeartbeats 1000000 in
set_option maxRecDepth 100000 in
theorem cc82_fresh (b:Nat) (w:World) (h0:w.cell? ⟨b,0,none⟩=some (.pointer none)) (hsh:w.shape? b=some (93,2)) (hfz:w.frozen? ⟨b,0,none⟩=false) :
  Calls Tryz.prog 82 #[.pointer (some ⟨b,0,none⟩)] w fun e w'=>e=.returned (.tuple #[])/\w'=w.setCell ⟨b,0,none⟩ (.pointer (some ⟨b,0,none⟩)):=by
 obtain⟨j,hj,hjs⟩:=Option.map_eq_some_iff.1 (show(Tryz.prog.info? 93).map (·.size)=some 2 by kernel_rfl)
 go_enter Tryz.func82,Tryz.ntmps82
 go_wp2
 rw[Lib.run_to_unsafe w ⟨b,0,none⟩ Tryz.underlying90 Tryz.underlying148 hj (by rw[hjs];decide) hsh (Nat.zero_lt_succ 1)]
 simp only[Result.andThen];rw[Oper.upon_value]
 go_wp2
 rw[run_callFunc_extern Tryz.func105 (by kernel_rfl) (by kernel_rfl) (by kernel_rfl) (e:=Extern.AbiNoEscape.same) (by kernel_rfl)]
 rw[Lib.run_noEscape];simp only[Result.andThen];rw[Oper.upon_value]
 go_wp2
 rw[Lib.run_from_unsafe w ⟨b,0,none⟩ Tryz.underlying148 Tryz.underlying90 hj hsh (show liesAt Tryz.prog Tryz.prog.depth 93 (2 / Tryz.prog.cellsOf 93) 0 93 1=true by kernel_rfl)]
 simp only[Result.andThen];rw[Oper.upon_value]
 go_wp2
 go_end0
 exact⟨rfl,rfl⟩
theorem ccOk82:ZkY Tryz.prog 82 93:=ZjQ (YH Tryz.func82 (c:=bodyOf Tryz.f82) rfl (by kernel_rfl)) cc82_used cc82_fresh
theorem leafOk86:Z4C Tryz.prog E.inv 86 Z2I:=Zah (YH Tryz.func86 (c:=bodyOf Tryz.f86) rfl (by kernel_rfl)) fun s c w _=>Any.stringslite_IndexByte Tryz.lays217 s c w
theorem leafOk20:Z4C Tryz.prog E.inv 20 Z4P:=ZfC (YH Tryz.func20 (c:=bodyOf Tryz.f20) rfl (by kernel_rfl)) fun s q hs h1 w hi=>(let⟨m,hm⟩:=hi.1;Any.strings_Split { Tryz.laysM146 with } Tryz.laysM146.i9 s q m w hs hm h1)
theorem leafOk65:Z4C Tryz.prog E.inv 65 (Z62 156):=ZfB (YH Tryz.func65 (c:=bodyOf Tryz.f65) rfl (by kernel_rfl))
 (fun s hm v hv w _=>Calls.mono (Any.strconv_Atoi_ok Tryz.laysC172 s (Nat.le_trans hm (by decide)) v hv w) fun e w' h=>⟨h.1,by rcases h.2 with h2|⟨t,h2⟩<;>rw[h2]<;>first|exact Below.refl _ _|exact Zdq w _ t⟩)
 (fun s hm g1 g2 w hi=>(let⟨ev,h1,h2⟩:=hi.2.2.1;Calls.mono (Any.strconv_Atoi_syntax Tryz.laysC172 s hm (by cases hq:Lib.atoiAll s.data.toList<;>first|rfl|exact absurd hq (g1 _)|exact absurd hq g2) ev w h1 h2) fun e w' h=>(let⟨N,k1,_,_,k4⟩:=h;⟨⟨N,k1⟩,k4⟩)))
 (fun s hm hv w hi=>(let⟨ev,h1,h2⟩:=hi.2.2.2;Calls.mono (Any.strconv_Atoi_range Tryz.laysC172 s hm hv ev w h1 h2) fun e w' h=>(let⟨N,k1,_,_,k4⟩:=h;⟨⟨N,k1⟩,k4⟩)))
theorem leafOk29:Z4C Tryz.prog E.inv 29 Zai:=ZhF (YH Tryz.func29 (c:=bodyOf Tryz.f29) rfl (by kernel_rfl)) fun n h0 h1 w hi=>Calls.mono (Any.strconv_Itoa Tryz.laysM171 n h0 h1 w (Eq.mp (congrArg (fun s=>Lib.TabIs Tryz.prog w s .u64 Lib.pow10Tab) (by kernel_rfl)) hi.2.1)) fun e w' h=>⟨h.1,by obtain⟨k,os,h2⟩:=h.2;rw[h2];exact Zfe w k os⟩
theorem srtOk101:Zdf Tryz.prog 101 3:=Zjx (YH Tryz.func101 (c:=bodyOf Tryz.f101) rfl (by kernel_rfl)) Tryz.lays189 (by kernel_rfl)
theorem clnOk126:∃ei,E.ty 70=some ei/\Z8I Tryz.prog 126 70 ei.size ei.bytes:=⟨⟨(.struct [(3,0),(3,1),(52,2)]),4,32,[(.int .i64 (0)),(.int .i64 (0)),(.int .i64 (0)),(.int .i64 (0))],true,true,[],false⟩,by kernel_rfl,Z7a (YH Tryz.func126 (c:=bodyOf Tryz.f126) rfl (by kernel_rfl)) Tryz.laysSlE041_f126 (by kernel_rfl) (by kernel_rfl) (Z7T (by kernel_rfl)) (by decide)⟩
theorem clnOk99:∃ei,E.ty 140=some ei/\Z8I Tryz.prog 99 140 ei.size ei.bytes:=⟨⟨(.struct [(3,0),(3,1)]),2,16,[(.int .i64 (0)),(.int .i64 (0))],true,true,[],false⟩,by kernel_rfl,Z7a (YH Tryz.func99 (c:=bodyOf Tryz.f99) rfl (by kernel_rfl)) Tryz.laysSlE041_f99 (by kernel_rfl) (by kernel_rfl) (Z7T (by kernel_rfl)) (by decide)⟩
theorem clnOk77:∃ei,E.ty 54=some ei/\Z8I Tryz.prog 77 54 ei.size ei.bytes:=⟨⟨(.struct [(3,0),(3,1),(52,2)]),4,32,[(.int .i64 (0)),(.int .i64 (0)),(.int .i64 (0)),(.int .i64 (0))],true,true,[],false⟩,by kernel_rfl,Z7a (YH Tryz.func77 (c:=bodyOf Tryz.f77) rfl (by kernel_rfl)) Tryz.laysSlE041_f77 (by kernel_rfl) (by kernel_rfl) (Z7T (by kernel_rfl)) (by decide)⟩
theorem clnOk72:∃ei,E.ty 52=some ei/\Z8I Tryz.prog 72 52 ei.size ei.bytes:=⟨⟨(.struct [(3,0),(3,1)]),2,16,[(.int .i64 (0)),(.int .i64 (0))],true,true,[],false⟩,by kernel_rfl,Z7a (YH Tryz.func72 (c:=bodyOf Tryz.f72) rfl (by kernel_rfl)) Tryz.laysSlE041_f72 (by kernel_rfl) (by kernel_rfl) (Z7T (by kernel_rfl)) (by decide)⟩
theorem clnAll:Zc7 (fun g e=>∃ei,E.ty e=some ei/\Z8I Tryz.prog g e ei.size ei.bytes) clnT 1 0:=⟨⟨⟨trivial,trivial,⟨⟨⟨trivial,trivial,⟨trivial,clnOk99,trivial⟩⟩,trivial,trivial⟩,trivial,trivial⟩⟩,trivial,⟨trivial,trivial,⟨trivial,trivial,⟨⟨⟨trivial,clnOk77,trivial⟩,trivial,trivial⟩,trivial,trivial⟩⟩⟩⟩,trivial,⟨⟨⟨trivial,trivial,⟨⟨⟨trivial,clnOk72,trivial⟩,trivial,trivial⟩,trivial,trivial⟩⟩,trivial,trivial⟩,trivial,⟨trivial,trivial,⟨trivial,trivial,⟨trivial,trivial,⟨trivial,trivial,⟨trivial,clnOk126,trivial⟩⟩⟩⟩⟩⟩⟩
theorem srtAll:Zc7 (fun g e=>Zdf Tryz.prog g e) srtT 1 0:=⟨⟨trivial,trivial,⟨trivial,trivial,⟨⟨⟨trivial,trivial,⟨trivial,srtOk101,trivial⟩⟩,trivial,trivial⟩,trivial,trivial⟩⟩⟩,trivial,trivial⟩
theorem leafAll:Zc7 (fun g L=>Z4C Tryz.prog E.inv g L) leafT 1 0:=⟨⟨trivial,trivial,⟨⟨⟨⟨⟨trivial,leafOk65,trivial⟩,trivial,trivial⟩,trivial,trivial⟩,trivial,trivial⟩,trivial,⟨trivial,trivial,⟨trivial,leafOk29,trivial⟩⟩⟩⟩,trivial,⟨⟨trivial,trivial,⟨⟨trivial,leafOk20,trivial⟩,trivial,trivial⟩⟩,trivial,⟨trivial,trivial,⟨⟨trivial,trivial,⟨⟨trivial,leafOk86,trivial⟩,trivial,trivial⟩⟩,trivial,trivial⟩⟩⟩⟩
theorem ccAll:Zc7 (fun g t=>ZkY Tryz.prog g t) ccT 1 0:=⟨trivial,trivial,⟨trivial,trivial,⟨⟨⟨trivial,trivial,⟨⟨trivial,ccOk82,trivial⟩,trivial,trivial⟩⟩,trivial,trivial⟩,trivial,trivial⟩⟩⟩
end Go.Proofs.YtfiegoekphpjlaaGreatDoor
namespace Go.Proofs.YtfiegoekphpjlaaGreatDoor
open Go.Ab Go.Proofs
theorem tyAll:Zfa (fun t i=>ZjE Tryz.prog t i) tyT=true:=by kernel_rfl
theorem tabTy:∀t ti,E.ty t=some ti->ZN Tryz.prog t ti:=fun _ _ h=>Z7T (Z75 tyAll h)
theorem mixed:Tryz.prog.follows .mixedOrders=true:=by kernel_rfl
theorem fnOk_of {f : Nat} {fn : Func} {m : Nat} {hs : List Z4b} {pu : Bool} {xm : List (Nat × Nat)} {rm : Nat} {ca : Bool} {pb : List (Nat × Nat)} {mr : List (Nat × Nat × Nat × TypeId × Nat)} {pm : Nat} {df : Bool} (hf : Tryz.prog.funcs[f]? = some fn) (hb : fn.body = some (bodyOf fn)) (hn : (fn.name == "runtime.NumGoroutine") = false) : ZB Tryz.prog f ⟨bodyOf fn, fn.ntmps, fn.results.toList, m, hs, pu, xm, rm, ca, pb, mr, pm, df⟩ := ⟨⟨fn, hf, hb, rfl, rfl⟩, Go.Ab.YH hf hb hn⟩
theorem fnOk3:ZB Tryz.prog 3 g3:=fnOk_of Tryz.func3 rfl (by kernel_rfl)
theorem fnOk4:ZB Tryz.prog 4 g4:=fnOk_of Tryz.func4 rfl (by kernel_rfl)
theorem fnOk5:ZB Tryz.prog 5 g5:=fnOk_of Tryz.func5 rfl (by kernel_rfl)
theorem fnOk6:ZB Tryz.prog 6 g6:=fnOk_of Tryz.func6 rfl (by kernel_rfl)
theorem fnOk7:ZB Tryz.prog 7 g7:=fnOk_of Tryz.func7 rfl (by kernel_rfl)
theorem fnOk8:ZB Tryz.prog 8 g8:=fnOk_of Tryz.func8 rfl (by kernel_rfl)
theorem fnOk9:ZB Tryz.prog 9 g9:=fnOk_of Tryz.func9 rfl (by kernel_rfl)
theorem fnOk10:ZB Tryz.prog 10 g10:=fnOk_of Tryz.func10 rfl (by kernel_rfl)
theorem fnOk11:ZB Tryz.prog 11 g11:=fnOk_of Tryz.func11 rfl (by kernel_rfl)
theorem fnOk12:ZB Tryz.prog 12 g12:=fnOk_of Tryz.func12 rfl (by kernel_rfl)
theorem fnOk13:ZB Tryz.prog 13 g13:=fnOk_of Tryz.func13 rfl (by kernel_rfl)
theorem fnOk14:ZB Tryz.prog 14 g14:=fnOk_of Tryz.func14 rfl (by kernel_rfl)
theorem fnOk15:ZB Tryz.prog 15 g15:=fnOk_of Tryz.func15 rfl (by kernel_rfl)
theorem fnOk16:ZB Tryz.prog 16 g16:=fnOk_of Tryz.func16 rfl (by kernel_rfl)
theorem fnOk17:ZB Tryz.prog 17 g17:=fnOk_of Tryz.func17 rfl (by kernel_rfl)
theorem fnOk18:ZB Tryz.prog 18 g18:=fnOk_of Tryz.func18 rfl (by kernel_rfl)
theorem fnOk19:ZB Tryz.prog 19 g19:=fnOk_of Tryz.func19 rfl (by kernel_rfl)
theorem fnOk20:ZB Tryz.prog 20 g20:=fnOk_of Tryz.func20 rfl (by kernel_rfl)
theorem fnOk21:ZB Tryz.prog 21 g21:=fnOk_of Tryz.func21 rfl (by kernel_rfl)
theorem fnOk22:ZB Tryz.prog 22 g22:=fnOk_of Tryz.func22 rfl (by kernel_rfl)
theorem fnOk23:ZB Tryz.prog 23 g23:=fnOk_of Tryz.func23 rfl (by kernel_rfl)
theorem fnOk24:ZB Tryz.prog 24 g24:=fnOk_of Tryz.func24 rfl (by kernel_rfl)
theorem fnOk25:ZB Tryz.prog 25 g25:=fnOk_of Tryz.func25 rfl (by kernel_rfl)
theorem fnOk26:ZB Tryz.prog 26 g26:=fnOk_of Tryz.func26 rfl (by kernel_rfl)
theorem fnOk27:ZB Tryz.prog 27 g27:=fnOk_of Tryz.func27 rfl (by kernel_rfl)
theorem fnOk28:ZB Tryz.prog 28 g28:=fnOk_of Tryz.func28 rfl (by kernel_rfl)
theorem fnOk29:ZB Tryz.prog 29 g29:=fnOk_of Tryz.func29 rfl (by kernel_rfl)
theorem fnOk30:ZB Tryz.prog 30 g30:=fnOk_of Tryz.func30 rfl (by kernel_rfl)
theorem fnOk31:ZB Tryz.prog 31 g31:=fnOk_of Tryz.func31 rfl (by kernel_rfl)
theorem fnOk32:ZB Tryz.prog 32 g32:=fnOk_of Tryz.func32 rfl (by kernel_rfl)
theorem fnOk33:ZB Tryz.prog 33 g33:=fnOk_of Tryz.func33 rfl (by kernel_rfl)
theorem fnOk34:ZB Tryz.prog 34 g34:=fnOk_of Tryz.func34 rfl (by kernel_rfl)
theorem fnOk35:ZB Tryz.prog 35 g35:=fnOk_of Tryz.func35 rfl (by kernel_rfl)
theorem fnOk36:ZB Tryz.prog 36 g36:=fnOk_of Tryz.func36 rfl (by kernel_rfl)
theorem fnOk37:ZB Tryz.prog 37 g37:=fnOk_of Tryz.func37 rfl (by kernel_rfl)
theorem fnOk38:ZB Tryz.prog 38 g38:=fnOk_of Tryz.func38 rfl (by kernel_rfl)
theorem fnOk39:ZB Tryz.prog 39 g39:=fnOk_of Tryz.func39 rfl (by kernel_rfl)
theorem fnOk40:ZB Tryz.prog 40 g40:=fnOk_of Tryz.func40 rfl (by kernel_rfl)
theorem fnOk41:ZB Tryz.prog 41 g41:=fnOk_of Tryz.func41 rfl (by kernel_rfl)
theorem fnOk42:ZB Tryz.prog 42 g42:=fnOk_of Tryz.func42 rfl (by kernel_rfl)
theorem fnOk43:ZB Tryz.prog 43 g43:=fnOk_of Tryz.func43 rfl (by kernel_rfl)
theorem fnOk44:ZB Tryz.prog 44 g44:=fnOk_of Tryz.func44 rfl (by kernel_rfl)
theorem fnOk45:ZB Tryz.prog 45 g45:=fnOk_of Tryz.func45 rfl (by kernel_rfl)
theorem fnOk46:ZB Tryz.prog 46 g46:=fnOk_of Tryz.func46 rfl (by kernel_rfl)
theorem fnOk47:ZB Tryz.prog 47 g47:=fnOk_of Tryz.func47 rfl (by kernel_rfl)
theorem fnOk48:ZB Tryz.prog 48 g48:=fnOk_of Tryz.func48 rfl (by kernel_rfl)
theorem fnOk49:ZB Tryz.prog 49 g49:=fnOk_of Tryz.func49 rfl (by kernel_rfl)
theorem fnOk50:ZB Tryz.prog 50 g50:=fnOk_of Tryz.func50 rfl (by kernel_rfl)
theorem fnOk51:ZB Tryz.prog 51 g51:=fnOk_of Tryz.func51 rfl (by kernel_rfl)
theorem fnOk52:ZB Tryz.prog 52 g52:=fnOk_of Tryz.func52 rfl (by kernel_rfl)
theorem fnOk53:ZB Tryz.prog 53 g53:=fnOk_of Tryz.func53 rfl (by kernel_rfl)
theorem fnOk54:ZB Tryz.prog 54 g54:=fnOk_of Tryz.func54 rfl (by kernel_rfl)
theorem fnOk55:ZB Tryz.prog 55 g55:=fnOk_of Tryz.func55 rfl (by kernel_rfl)
theorem fnOk56:ZB Tryz.prog 56 g56:=fnOk_of Tryz.func56 rfl (by kernel_rfl)
theorem fnOk57:ZB Tryz.prog 57 g57:=fnOk_of Tryz.func57 rfl (by kernel_rfl)
theorem fnOk58:ZB Tryz.prog 58 g58:=fnOk_of Tryz.func58 rfl (by kernel_rfl)
theorem fnOk59:ZB Tryz.prog 59 g59:=fnOk_of Tryz.func59 rfl (by kernel_rfl)
theorem fnOk60:ZB Tryz.prog 60 g60:=fnOk_of Tryz.func60 rfl (by kernel_rfl)
theorem fnOk61:ZB Tryz.prog 61 g61:=fnOk_of Tryz.func61 rfl (by kernel_rfl)
theorem fnOk62:ZB Tryz.prog 62 g62:=fnOk_of Tryz.func62 rfl (by kernel_rfl)
theorem fnOk64:ZB Tryz.prog 64 g64:=fnOk_of Tryz.func64 rfl (by kernel_rfl)
theorem fnOk66:ZB Tryz.prog 66 g66:=fnOk_of Tryz.func66 rfl (by kernel_rfl)
theorem fnOk67:ZB Tryz.prog 67 g67:=fnOk_of Tryz.func67 rfl (by kernel_rfl)
theorem fnOk68:ZB Tryz.prog 68 g68:=fnOk_of Tryz.func68 rfl (by kernel_rfl)
theorem fnOk70:ZB Tryz.prog 70 g70:=fnOk_of Tryz.func70 rfl (by kernel_rfl)
theorem fnOk71:ZB Tryz.prog 71 g71:=fnOk_of Tryz.func71 rfl (by kernel_rfl)
theorem fnOk73:ZB Tryz.prog 73 g73:=fnOk_of Tryz.func73 rfl (by kernel_rfl)
theorem fnOk74:ZB Tryz.prog 74 g74:=fnOk_of Tryz.func74 rfl (by kernel_rfl)
theorem fnOk75:ZB Tryz.prog 75 g75:=fnOk_of Tryz.func75 rfl (by kernel_rfl)
theorem fnOk76:ZB Tryz.prog 76 g76:=fnOk_of Tryz.func76 rfl (by kernel_rfl)
theorem fnOk78:ZB Tryz.prog 78 g78:=fnOk_of Tryz.func78 rfl (by kernel_rfl)
theorem fnOk79:ZB Tryz.prog 79 g79:=fnOk_of Tryz.func79 rfl (by kernel_rfl)
theorem fnOk80:ZB Tryz.prog 80 g80:=fnOk_of Tryz.func80 rfl (by kernel_rfl)
theorem fnOk81:ZB Tryz.prog 81 g81:=fnOk_of Tryz.func81 rfl (by kernel_rfl)
theorem fnOk83:ZB Tryz.prog 83 g83:=fnOk_of Tryz.func83 rfl (by kernel_rfl)
theorem fnOk84:ZB Tryz.prog 84 g84:=fnOk_of Tryz.func84 rfl (by kernel_rfl)
theorem fnOk85:ZB Tryz.prog 85 g85:=fnOk_of Tryz.func85 rfl (by kernel_rfl)
theorem fnOk86:ZB Tryz.prog 86 g86:=fnOk_of Tryz.func86 rfl (by kernel_rfl)
theorem fnOk90:ZB Tryz.prog 90 g90:=fnOk_of Tryz.func90 rfl (by kernel_rfl)
theorem fnOk94:ZB Tryz.prog 94 g94:=fnOk_of Tryz.func94 rfl (by kernel_rfl)
theorem fnOk95:ZB Tryz.prog 95 g95:=fnOk_of Tryz.func95 rfl (by kernel_rfl)
theorem fnOk96:ZB Tryz.prog 96 g96:=fnOk_of Tryz.func96 rfl (by kernel_rfl)
theorem fnOk97:ZB Tryz.prog 97 g97:=fnOk_of Tryz.func97 rfl (by kernel_rfl)
theorem fnOk98:ZB Tryz.prog 98 g98:=fnOk_of Tryz.func98 rfl (by kernel_rfl)
theorem fnOk100:ZB Tryz.prog 100 g100:=fnOk_of Tryz.func100 rfl (by kernel_rfl)
theorem fnOk102:ZB Tryz.prog 102 g102:=fnOk_of Tryz.func102 rfl (by kernel_rfl)
theorem fnOk103:ZB Tryz.prog 103 g103:=fnOk_of Tryz.func103 rfl (by kernel_rfl)
theorem fnOk104:ZB Tryz.prog 104 g104:=fnOk_of Tryz.func104 rfl (by kernel_rfl)
theorem fnOk106:ZB Tryz.prog 106 g106:=fnOk_of Tryz.func106 rfl (by kernel_rfl)
theorem fnOk121:ZB Tryz.prog 121 g121:=fnOk_of Tryz.func121 rfl (by kernel_rfl)
theorem fnOk122:ZB Tryz.prog 122 g122:=fnOk_of Tryz.func122 rfl (by kernel_rfl)
theorem fnOk123:ZB Tryz.prog 123 g123:=fnOk_of Tryz.func123 rfl (by kernel_rfl)
theorem fnOk124:ZB Tryz.prog 124 g124:=fnOk_of Tryz.func124 rfl (by kernel_rfl)
theorem fnOk125:ZB Tryz.prog 125 g125:=fnOk_of Tryz.func125 rfl (by kernel_rfl)
theorem fnOk129:ZB Tryz.prog 129 g129:=fnOk_of Tryz.func129 rfl (by kernel_rfl)
theorem fnOk130:ZB Tryz.prog 130 g130:=fnOk_of Tryz.func130 rfl (by kernel_rfl)
theorem fnOk143:ZB Tryz.prog 143 g143:=fnOk_of Tryz.func143 rfl (by kernel_rfl)
theorem fnAll:Zc7 (fun f F=>ZB Tryz.prog f F) fnT 1 0:=⟨⟨⟨⟨⟨⟨trivial,fnOk31,⟨trivial,fnOk95,trivial⟩⟩,fnOk15,⟨⟨⟨trivial,fnOk143,trivial⟩,fnOk79,trivial⟩,fnOk47,trivial⟩⟩,fnOk7,⟨⟨⟨trivial,fnOk71,trivial⟩,fnOk39,⟨trivial,fnOk103,trivial⟩⟩,fnOk23,⟨trivial,fnOk55,trivial⟩⟩⟩,fnOk3,⟨⟨⟨⟨trivial,fnOk67,trivial⟩,fnOk35,trivial⟩,fnOk19,⟨⟨trivial,fnOk83,trivial⟩,fnOk51,trivial⟩⟩,fnOk11,⟨⟨⟨trivial,fnOk75,trivial⟩,fnOk43,trivial⟩,fnOk27,⟨trivial,fnOk59,⟨trivial,fnOk123,trivial⟩⟩⟩⟩⟩,trivial,⟨⟨⟨⟨⟨⟨trivial,fnOk129,trivial⟩,trivial,trivial⟩,fnOk33,⟨trivial,fnOk97,trivial⟩⟩,fnOk17,⟨⟨trivial,fnOk81,trivial⟩,fnOk49,trivial⟩⟩,fnOk9,⟨⟨⟨trivial,fnOk73,trivial⟩,fnOk41,trivial⟩,fnOk25,⟨trivial,fnOk57,⟨trivial,fnOk121,trivial⟩⟩⟩⟩,fnOk5,⟨⟨⟨trivial,fnOk37,trivial⟩,fnOk21,⟨⟨trivial,fnOk85,trivial⟩,fnOk53,trivial⟩⟩,fnOk13,⟨⟨trivial,fnOk45,trivial⟩,fnOk29,⟨trivial,fnOk61,⟨trivial,fnOk125,trivial⟩⟩⟩⟩⟩⟩,trivial,⟨⟨⟨⟨⟨⟨trivial,fnOk64,trivial⟩,fnOk32,⟨trivial,fnOk96,trivial⟩⟩,fnOk16,⟨⟨trivial,fnOk80,trivial⟩,fnOk48,trivial⟩⟩,fnOk8,⟨⟨trivial,fnOk40,⟨trivial,fnOk104,trivial⟩⟩,fnOk24,⟨trivial,fnOk56,trivial⟩⟩⟩,fnOk4,⟨⟨⟨⟨trivial,fnOk68,trivial⟩,fnOk36,⟨trivial,fnOk100,trivial⟩⟩,fnOk20,⟨⟨trivial,fnOk84,trivial⟩,fnOk52,trivial⟩⟩,fnOk12,⟨⟨⟨trivial,fnOk76,trivial⟩,fnOk44,trivial⟩,fnOk28,⟨trivial,fnOk60,⟨trivial,fnOk124,trivial⟩⟩⟩⟩⟩,trivial,⟨⟨⟨⟨⟨⟨trivial,fnOk130,trivial⟩,fnOk66,trivial⟩,fnOk34,⟨trivial,fnOk98,trivial⟩⟩,fnOk18,⟨trivial,fnOk50,trivial⟩⟩,fnOk10,⟨⟨⟨trivial,fnOk74,trivial⟩,fnOk42,⟨trivial,fnOk106,trivial⟩⟩,fnOk26,⟨⟨trivial,fnOk90,trivial⟩,fnOk58,⟨trivial,fnOk122,trivial⟩⟩⟩⟩,fnOk6,⟨⟨⟨⟨trivial,fnOk70,trivial⟩,fnOk38,⟨trivial,fnOk102,trivial⟩⟩,fnOk22,⟨⟨trivial,fnOk86,trivial⟩,fnOk54,trivial⟩⟩,fnOk14,⟨⟨⟨trivial,fnOk78,trivial⟩,fnOk46,trivial⟩,fnOk30,⟨⟨trivial,fnOk94,trivial⟩,fnOk62,trivial⟩⟩⟩⟩⟩⟩
theorem tabFn:Z6e Tryz.prog E where
 fn:=fun _ _ h=>Z4e fnAll h
 leaf:=fun _ _ xs d h=>Z4e leafAll h xs d
 dfr:=fun g h=>by
  unfold E at h;simp only[Bool.or_eq_true]at h;exact Nat.eq_of_beq_eq_true h▸dfr18
 cc:=fun _ _ h=>Z4e ccAll h
 cln:=fun _ _ h=>Z4e clnAll h
 srt:=fun _ _ h=>Z4e srtAll h
end Go.Proofs.YtfiegoekphpjlaaGreatDoor
