/- The tables of the program, and that they are right. -/
import Derived.Test.YtjegmohjiejgeaaGreatDoorA3
import Derived.Test.YtjegmohjiejgeaaGreatDoorL
import Derived.Test.YtjegmohjiejgeaaGreatDoorProg
import Derived.Shelf.LaysM
import Derived.Shelf.LaysC
import Derived.Shelf.Strconv.Itoa3
import Derived.Shelf.Strconv.AtoiAll
import Derived.Shelf.Strings.Shaped
import Derived.Shelf.Strings.SplitShaped
import Derived.Shelf.Strings.Search1
import Derived.Shelf.SlicesE.Clone
import Derived.Shelf.Sort.Plain
import Derived.Shelf.Slices.In.SortNone
import Derived.Ground.SlgnProg
import Derived.Shelf.Strings.Builder1
import Derived.Lib.Walk
import Derived.TacticsInMore
import Derived.RegionIn
import Derived.RecoverIn
import Derived.KernelRfl
set_option linter.unusedSectionVars false
set_option linter.unusedVariables false
set_option linter.unusedSimpArgs false
namespace Go.Proofs.YtjegmohjiejgeaaGreatDoor
open Go.Ab Go.Proofs
def tyT : Tr TI := (.node (.node (.node (.node (.node (.node (.node .leaf (some ⟨(.struct [(25, 0), (26, 2)]), 3, 72, [.nils, .nils, .nils], false, false, [], false⟩) .leaf) none .leaf) none (.node .leaf (some ⟨.func, 1, 8, [.nilfn], false, false, [], false⟩) .leaf)) (some ⟨(.struct [(2, 0), (3, 1), (4, 2), (6, 3)]), 4, 24, [(.int .i64 (0)), (.int .i64 (0)), (.bool false), (.int .u8 (0))], true, true, [], false⟩) (.node (.node .leaf none (.node .leaf (some ⟨(.slice 110), 1, 24, [.nils], false, false, [], false⟩) .leaf)) (some ⟨(.slice 52), 1, 24, [.nils], false, false, [], false⟩) (.node (.node (.node .leaf (some ⟨.iface, 1, 16, [.nilif], false, false, [], false⟩) .leaf) none .leaf) (some ⟨.func, 1, 8, [.nilfn], false, false, [], false⟩) .leaf))) (some ⟨(.int .i64), 1, 8, [(.int .i64 (0))], false, false, [], false⟩) (.node (.node (.node (.node .leaf (some ⟨(.array 10 50), 20, 160, [(.int .i64 (0)), (.int .i64 (0)), (.int .i64 (0)), (.int .i64 (0)), (.int .i64 (0)), (.int .i64 (0)), (.int .i64 (0)), (.int .i64 (0)), (.int .i64 (0)), (.int .i64 (0)), (.int .i64 (0)), (.int .i64 (0)), (.int .i64 (0)), (.int .i64 (0)), (.int .i64 (0)), (.int .i64 (0)), (.int .i64 (0)), (.int .i64 (0)), (.int .i64 (0)), (.int .i64 (0))], true, false, [], false⟩) .leaf) none (.node (.node .leaf (some ⟨(.ptr 5), 1, 8, [.nilp], false, false, [], false⟩) .leaf) none (.node .leaf (some ⟨(.array 64 5), 64, 64, [(.int .u8 (0)), (.int .u8 (0)), (.int .u8 (0)), (.int .u8 (0)), (.int .u8 (0)), (.int .u8 (0)), (.int .u8 (0)), (.int .u8 (0)), (.int .u8 (0)), (.int .u8 (0)), (.int .u8 (0)), (.int .u8 (0)), (.int .u8 (0)), (.int .u8 (0)), (.int .u8 (0)), (.int .u8 (0)), (.int .u8 (0)), (.int .u8 (0)), (.int .u8 (0)), (.int .u8 (0)), (.int .u8 (0)), (.int .u8 (0)), (.int .u8 (0)), (.int .u8 (0)), (.int .u8 (0)), (.int .u8 (0)), (.int .u8 (0)), (.int .u8 (0)), (.int .u8 (0)), (.int .u8 (0)), (.int .u8 (0)), (.int .u8 (0)), (.int .u8 (0)), (.int .u8 (0)), (.int .u8 (0)), (.int .u8 (0)), (.int .u8 (0)), (.int .u8 (0)), (.int .u8 (0)), (.int .u8 (0)), (.int .u8 (0)), (.int .u8 (0)), (.int .u8 (0)), (.int .u8 (0)), (.int .u8 (0)), (.int .u8 (0)), (.int .u8 (0)), (.int .u8 (0)), (.int .u8 (0)), (.int .u8 (0)), (.int .u8 (0)), (.int .u8 (0)), (.int .u8 (0)), (.int .u8 (0)), (.int .u8 (0)), (.int .u8 (0)), (.int .u8 (0)), (.int .u8 (0)), (.int .u8 (0)), (.int .u8 (0)), (.int .u8 (0)), (.int .u8 (0)), (.int .u8 (0)), (.int .u8 (0))], true, false, [], false⟩) .leaf))) none (.node (.node (.node .leaf (some ⟨(.slice 5), 1, 24, [.nils], false, false, [], false⟩) .leaf) none (.node .leaf (some ⟨(.array 20 181), 20, 160, [(.int .u64 (0)), (.int .u64 (0)), (.int .u64 (0)), (.int .u64 (0)), (.int .u64 (0)), (.int .u64 (0)), (.int .u64 (0)), (.int .u64 (0)), (.int .u64 (0)), (.int .u64 (0)), (.int .u64 (0)), (.int .u64 (0)), (.int .u64 (0)), (.int .u64 (0)), (.int .u64 (0)), (.int .u64 (0)), (.int .u64 (0)), (.int .u64 (0)), (.int .u64 (0)), (.int .u64 (0))], true, false, [], false⟩) .leaf)) (some ⟨(.struct [(3, 0), (3, 1), (50, 2)]), 4, 32, [(.int .i64 (0)), (.int .i64 (0)), (.int .i64 (0)), (.int .i64 (0))], true, true, [], false⟩) (.node (.node .leaf (some ⟨(.int .u32), 1, 4, [(.int .u32 (0))], false, false, [], false⟩) .leaf) none .leaf))) (some ⟨.string, 1, 16, [(.str ⟨#[]⟩)], false, false, [], false⟩) (.node (.node (.node (.node .leaf (some ⟨.func, 1, 8, [.nilfn], false, false, [], false⟩) .leaf) (some ⟨(.slice 117), 1, 24, [.nils], false, false, [], false⟩) .leaf) (some ⟨(.struct [(9, 0), (3, 1), (3, 2)]), 3, 32, [(.str ⟨#[]⟩), (.int .i64 (0)), (.int .i64 (0))], true, true, [], false⟩) (.node .leaf (some ⟨.func, 1, 8, [.nilfn], false, false, [], false⟩) (.node .leaf (some ⟨(.int .u8), 1, 1, [(.int .u8 (0))], false, false, [], false⟩) .leaf))) (some ⟨(.int .i64), 1, 8, [(.int .i64 (0))], false, false, [], false⟩) (.node (.node .leaf none (.node .leaf (some ⟨(.array 16 218), 32, 32, [(.int .u8 (0)), (.int .u8 (0)), (.int .u8 (0)), (.int .u8 (0)), (.int .u8 (0)), (.int .u8 (0)), (.int .u8 (0)), (.int .u8 (0)), (.int .u8 (0)), (.int .u8 (0)), (.int .u8 (0)), (.int .u8 (0)), (.int .u8 (0)), (.int .u8 (0)), (.int .u8 (0)), (.int .u8 (0)), (.int .u8 (0)), (.int .u8 (0)), (.int .u8 (0)), (.int .u8 (0)), (.int .u8 (0)), (.int .u8 (0)), (.int .u8 (0)), (.int .u8 (0)), (.int .u8 (0)), (.int .u8 (0)), (.int .u8 (0)), (.int .u8 (0)), (.int .u8 (0)), (.int .u8 (0)), (.int .u8 (0)), (.int .u8 (0))], true, false, [], false⟩) .leaf)) none (.node (.node .leaf (some ⟨(.int .i64), 1, 8, [(.int .i64 (0))], false, false, [], false⟩) .leaf) none .leaf))))) (some ⟨.func, 1, 8, [.nilfn], false, false, [], false⟩) (.node (.node (.node (.node (.node .leaf none (.node .leaf (some ⟨(.array 24 5), 24, 24, [(.int .u8 (0)), (.int .u8 (0)), (.int .u8 (0)), (.int .u8 (0)), (.int .u8 (0)), (.int .u8 (0)), (.int .u8 (0)), (.int .u8 (0)), (.int .u8 (0)), (.int .u8 (0)), (.int .u8 (0)), (.int .u8 (0)), (.int .u8 (0)), (.int .u8 (0)), (.int .u8 (0)), (.int .u8 (0)), (.int .u8 (0)), (.int .u8 (0)), (.int .u8 (0)), (.int .u8 (0)), (.int .u8 (0)), (.int .u8 (0)), (.int .u8 (0)), (.int .u8 (0))], true, false, [], false⟩) .leaf)) none (.node (.node .leaf (some ⟨(.int .u64), 1, 8, [(.int .u64 (0))], false, false, [], false⟩) .leaf) (some ⟨.func, 1, 8, [.nilfn], false, false, [], false⟩) (.node .leaf (some ⟨(.struct [(9, 0)]), 1, 16, [(.str ⟨#[]⟩)], true, true, [], false⟩) .leaf))) none (.node .leaf (some ⟨(.struct [(3, 0), (3, 1)]), 2, 16, [(.int .i64 (0)), (.int .i64 (0))], true, true, [], false⟩) .leaf)) (some ⟨.string, 1, 16, [(.str ⟨#[]⟩)], false, false, [], false⟩) (.node .leaf (some ⟨(.struct [(22, 0), (23, 1)]), 2, 48, [.nils, .nils], false, false, [], false⟩) (.node (.node .leaf none (.node .leaf (some ⟨(.struct [(5, 0), (5, 1)]), 2, 2, [(.int .u8 (0)), (.int .u8 (0))], true, true, [], false⟩) .leaf)) (some ⟨(.slice 9), 1, 24, [.nils], false, false, [], false⟩) .leaf))) (some ⟨(.int .u8), 1, 1, [(.int .u8 (0))], false, false, [], false⟩) (.node (.node (.node (.node .leaf (some ⟨.func, 1, 8, [.nilfn], false, false, [], false⟩) (.node .leaf (some ⟨(.int .u64), 1, 8, [(.int .u64 (0))], false, false, [], false⟩) .leaf)) none (.node .leaf (some ⟨.func, 1, 8, [.nilfn], false, false, [], false⟩) .leaf)) (some ⟨(.int .i32), 1, 4, [(.int .i32 (0))], false, false, [], false⟩) (.node (.node (.node .leaf (some ⟨(.struct [(146, 0), (147, 1)]), 2, 32, [.nilp, .nils], false, false, [], false⟩) .leaf) none .leaf) none (.node (.node .leaf (some ⟨(.int .u64), 1, 8, [(.int .u64 (0))], false, false, [], false⟩) .leaf) (some ⟨(.struct [(3, 0), (3, 1)]), 2, 16, [(.int .i64 (0)), (.int .i64 (0))], true, true, [], false⟩) .leaf))) (some ⟨(.struct [(9, 0), (12, 1)]), 2, 24, [(.str ⟨#[]⟩), (.int .u64 (0))], false, false, [], false⟩) (.node (.node (.node (.node .leaf (some ⟨(.map 3 3), 1, 8, [.nilmap], false, false, [], false⟩) .leaf) (some ⟨(.struct [(74, 0), (74, 1), (75, 2)]), 3, 72, [.nils, .nils, .nils], false, false, [], false⟩) .leaf) none (.node .leaf (some ⟨(.struct [(3, 0), (3, 1)]), 2, 16, [(.int .i64 (0)), (.int .i64 (0))], true, true, [], false⟩) (.node .leaf (some ⟨(.int .i32), 1, 4, [(.int .i32 (0))], false, false, [], false⟩) .leaf))) none (.node .leaf (some ⟨.func, 1, 8, [.nilfn], false, false, [], false⟩) (.node .leaf (some ⟨.func, 1, 8, [.nilfn], false, false, [], false⟩) .leaf)))))) none (.node (.node (.node (.node (.node .leaf none (.node .leaf none (.node .leaf (some ⟨(.struct [(9, 0)]), 1, 16, [(.str ⟨#[]⟩)], true, true, [], false⟩) .leaf))) none .leaf) (some ⟨(.struct [(2, 0), (3, 1), (4, 2), (6, 3)]), 4, 24, [(.int .i64 (0)), (.int .i64 (0)), (.bool false), (.int .u8 (0))], true, true, [], false⟩) (.node (.node (.node .leaf (some ⟨(.slice 77), 1, 24, [.nils], false, false, [], false⟩) .leaf) none .leaf) (some ⟨(.struct [(22, 0), (23, 1)]), 2, 48, [.nils, .nils], false, false, [], false⟩) (.node (.node .leaf none (.node .leaf (some ⟨(.array 256 5), 256, 256, [(.int .u8 (0)), (.int .u8 (0)), (.int .u8 (0)), (.int .u8 (0)), (.int .u8 (0)), (.int .u8 (0)), (.int .u8 (0)), (.int .u8 (0)), (.int .u8 (0)), (.int .u8 (0)), (.int .u8 (0)), (.int .u8 (0)), (.int .u8 (0)), (.int .u8 (0)), (.int .u8 (0)), (.int .u8 (0)), (.int .u8 (0)), (.int .u8 (0)), (.int .u8 (0)), (.int .u8 (0)), (.int .u8 (0)), (.int .u8 (0)), (.int .u8 (0)), (.int .u8 (0)), (.int .u8 (0)), (.int .u8 (0)), (.int .u8 (0)), (.int .u8 (0)), (.int .u8 (0)), (.int .u8 (0)), (.int .u8 (0)), (.int .u8 (0)), (.int .u8 (0)), (.int .u8 (0)), (.int .u8 (0)), (.int .u8 (0)), (.int .u8 (0)), (.int .u8 (0)), (.int .u8 (0)), (.int .u8 (0)), (.int .u8 (0)), (.int .u8 (0)), (.int .u8 (0)), (.int .u8 (0)), (.int .u8 (0)), (.int .u8 (0)), (.int .u8 (0)), (.int .u8 (0)), (.int .u8 (0)), (.int .u8 (0)), (.int .u8 (0)), (.int .u8 (0)), (.int .u8 (0)), (.int .u8 (0)), (.int .u8 (0)), (.int .u8 (0)), (.int .u8 (0)), (.int .u8 (0)), (.int .u8 (0)), (.int .u8 (0)), (.int .u8 (0)), (.int .u8 (0)), (.int .u8 (0)), (.int .u8 (0)), (.int .u8 (0)), (.int .u8 (0)), (.int .u8 (0)), (.int .u8 (0)), (.int .u8 (0)), (.int .u8 (0)), (.int .u8 (0)), (.int .u8 (0)), (.int .u8 (0)), (.int .u8 (0)), (.int .u8 (0)), (.int .u8 (0)), (.int .u8 (0)), (.int .u8 (0)), (.int .u8 (0)), (.int .u8 (0)), (.int .u8 (0)), (.int .u8 (0)), (.int .u8 (0)), (.int .u8 (0)), (.int .u8 (0)), (.int .u8 (0)), (.int .u8 (0)), (.int .u8 (0)), (.int .u8 (0)), (.int .u8 (0)), (.int .u8 (0)), (.int .u8 (0)), (.int .u8 (0)), (.int .u8 (0)), (.int .u8 (0)), (.int .u8 (0)), (.int .u8 (0)), (.int .u8 (0)), (.int .u8 (0)), (.int .u8 (0)), (.int .u8 (0)), (.int .u8 (0)), (.int .u8 (0)), (.int .u8 (0)), (.int .u8 (0)), (.int .u8 (0)), (.int .u8 (0)), (.int .u8 (0)), (.int .u8 (0)), (.int .u8 (0)), (.int .u8 (0)), (.int .u8 (0)), (.int .u8 (0)), (.int .u8 (0)), (.int .u8 (0)), (.int .u8 (0)), (.int .u8 (0)), (.int .u8 (0)), (.int .u8 (0)), (.int .u8 (0)), (.int .u8 (0)), (.int .u8 (0)), (.int .u8 (0)), (.int .u8 (0)), (.int .u8 (0)), (.int .u8 (0)), (.int .u8 (0)), (.int .u8 (0)), (.int .u8 (0)), (.int .u8 (0)), (.int .u8 (0)), (.int .u8 (0)), (.int .u8 (0)), (.int .u8 (0)), (.int .u8 (0)), (.int .u8 (0)), (.int .u8 (0)), (.int .u8 (0)), (.int .u8 (0)), (.int .u8 (0)), (.int .u8 (0)), (.int .u8 (0)), (.int .u8 (0)), (.int .u8 (0)), (.int .u8 (0)), (.int .u8 (0)), (.int .u8 (0)), (.int .u8 (0)), (.int .u8 (0)), (.int .u8 (0)), (.int .u8 (0)), (.int .u8 (0)), (.int .u8 (0)), (.int .u8 (0)), (.int .u8 (0)), (.int .u8 (0)), (.int .u8 (0)), (.int .u8 (0)), (.int .u8 (0)), (.int .u8 (0)), (.int .u8 (0)), (.int .u8 (0)), (.int .u8 (0)), (.int .u8 (0)), (.int .u8 (0)), (.int .u8 (0)), (.int .u8 (0)), (.int .u8 (0)), (.int .u8 (0)), (.int .u8 (0)), (.int .u8 (0)), (.int .u8 (0)), (.int .u8 (0)), (.int .u8 (0)), (.int .u8 (0)), (.int .u8 (0)), (.int .u8 (0)), (.int .u8 (0)), (.int .u8 (0)), (.int .u8 (0)), (.int .u8 (0)), (.int .u8 (0)), (.int .u8 (0)), (.int .u8 (0)), (.int .u8 (0)), (.int .u8 (0)), (.int .u8 (0)), (.int .u8 (0)), (.int .u8 (0)), (.int .u8 (0)), (.int .u8 (0)), (.int .u8 (0)), (.int .u8 (0)), (.int .u8 (0)), (.int .u8 (0)), (.int .u8 (0)), (.int .u8 (0)), (.int .u8 (0)), (.int .u8 (0)), (.int .u8 (0)), (.int .u8 (0)), (.int .u8 (0)), (.int .u8 (0)), (.int .u8 (0)), (.int .u8 (0)), (.int .u8 (0)), (.int .u8 (0)), (.int .u8 (0)), (.int .u8 (0)), (.int .u8 (0)), (.int .u8 (0)), (.int .u8 (0)), (.int .u8 (0)), (.int .u8 (0)), (.int .u8 (0)), (.int .u8 (0)), (.int .u8 (0)), (.int .u8 (0)), (.int .u8 (0)), (.int .u8 (0)), (.int .u8 (0)), (.int .u8 (0)), (.int .u8 (0)), (.int .u8 (0)), (.int .u8 (0)), (.int .u8 (0)), (.int .u8 (0)), (.int .u8 (0)), (.int .u8 (0)), (.int .u8 (0)), (.int .u8 (0)), (.int .u8 (0)), (.int .u8 (0)), (.int .u8 (0)), (.int .u8 (0)), (.int .u8 (0)), (.int .u8 (0)), (.int .u8 (0)), (.int .u8 (0)), (.int .u8 (0)), (.int .u8 (0)), (.int .u8 (0)), (.int .u8 (0)), (.int .u8 (0)), (.int .u8 (0)), (.int .u8 (0)), (.int .u8 (0)), (.int .u8 (0)), (.int .u8 (0)), (.int .u8 (0)), (.int .u8 (0)), (.int .u8 (0)), (.int .u8 (0)), (.int .u8 (0)), (.int .u8 (0)), (.int .u8 (0))], true, false, [], false⟩) .leaf)) none .leaf))) (some ⟨.bool, 1, 1, [(.bool false)], false, false, [], false⟩) (.node (.node (.node (.node .leaf (some ⟨.func, 1, 8, [.nilfn], false, false, [], false⟩) .leaf) none .leaf) (some ⟨.iface, 1, 16, [.nilif], false, false, [], false⟩) (.node (.node .leaf none (.node .leaf (some ⟨(.array 65 5), 65, 65, [(.int .u8 (0)), (.int .u8 (0)), (.int .u8 (0)), (.int .u8 (0)), (.int .u8 (0)), (.int .u8 (0)), (.int .u8 (0)), (.int .u8 (0)), (.int .u8 (0)), (.int .u8 (0)), (.int .u8 (0)), (.int .u8 (0)), (.int .u8 (0)), (.int .u8 (0)), (.int .u8 (0)), (.int .u8 (0)), (.int .u8 (0)), (.int .u8 (0)), (.int .u8 (0)), (.int .u8 (0)), (.int .u8 (0)), (.int .u8 (0)), (.int .u8 (0)), (.int .u8 (0)), (.int .u8 (0)), (.int .u8 (0)), (.int .u8 (0)), (.int .u8 (0)), (.int .u8 (0)), (.int .u8 (0)), (.int .u8 (0)), (.int .u8 (0)), (.int .u8 (0)), (.int .u8 (0)), (.int .u8 (0)), (.int .u8 (0)), (.int .u8 (0)), (.int .u8 (0)), (.int .u8 (0)), (.int .u8 (0)), (.int .u8 (0)), (.int .u8 (0)), (.int .u8 (0)), (.int .u8 (0)), (.int .u8 (0)), (.int .u8 (0)), (.int .u8 (0)), (.int .u8 (0)), (.int .u8 (0)), (.int .u8 (0)), (.int .u8 (0)), (.int .u8 (0)), (.int .u8 (0)), (.int .u8 (0)), (.int .u8 (0)), (.int .u8 (0)), (.int .u8 (0)), (.int .u8 (0)), (.int .u8 (0)), (.int .u8 (0)), (.int .u8 (0)), (.int .u8 (0)), (.int .u8 (0)), (.int .u8 (0)), (.int .u8 (0))], true, false, [], false⟩) .leaf)) (some ⟨(.struct [(3, 0), (3, 1), (50, 2)]), 4, 32, [(.int .i64 (0)), (.int .i64 (0)), (.int .i64 (0)), (.int .i64 (0))], true, true, [], false⟩) (.node .leaf (some ⟨(.struct [(3, 0), (3, 1)]), 2, 16, [(.int .i64 (0)), (.int .i64 (0))], true, true, [], false⟩) .leaf))) (some ⟨(.int .u64), 1, 8, [(.int .u64 (0))], false, false, [], false⟩) (.node (.node (.node (.node .leaf (some ⟨.func, 1, 8, [.nilfn], false, false, [], false⟩) .leaf) (some ⟨(.struct [(74, 0), (74, 1), (75, 2)]), 3, 72, [.nils, .nils, .nils], false, false, [], false⟩) .leaf) (some ⟨.func, 1, 8, [.nilfn], false, false, [], false⟩) .leaf) none (.node .leaf none (.node .leaf (some ⟨.func, 1, 8, [.nilfn], false, false, [], false⟩) .leaf))))) (some ⟨(.int .i64), 1, 8, [(.int .i64 (0))], false, false, [], false⟩) (.node (.node (.node (.node (.node .leaf (some ⟨(.array 10 50), 20, 160, [(.int .i64 (0)), (.int .i64 (0)), (.int .i64 (0)), (.int .i64 (0)), (.int .i64 (0)), (.int .i64 (0)), (.int .i64 (0)), (.int .i64 (0)), (.int .i64 (0)), (.int .i64 (0)), (.int .i64 (0)), (.int .i64 (0)), (.int .i64 (0)), (.int .i64 (0)), (.int .i64 (0)), (.int .i64 (0)), (.int .i64 (0)), (.int .i64 (0)), (.int .i64 (0)), (.int .i64 (0))], true, false, [], false⟩) .leaf) (some ⟨(.slice 50), 1, 24, [.nils], false, false, [], false⟩) (.node .leaf none (.node .leaf (some ⟨(.array 32 5), 32, 32, [(.int .u8 (0)), (.int .u8 (0)), (.int .u8 (0)), (.int .u8 (0)), (.int .u8 (0)), (.int .u8 (0)), (.int .u8 (0)), (.int .u8 (0)), (.int .u8 (0)), (.int .u8 (0)), (.int .u8 (0)), (.int .u8 (0)), (.int .u8 (0)), (.int .u8 (0)), (.int .u8 (0)), (.int .u8 (0)), (.int .u8 (0)), (.int .u8 (0)), (.int .u8 (0)), (.int .u8 (0)), (.int .u8 (0)), (.int .u8 (0)), (.int .u8 (0)), (.int .u8 (0)), (.int .u8 (0)), (.int .u8 (0)), (.int .u8 (0)), (.int .u8 (0)), (.int .u8 (0)), (.int .u8 (0)), (.int .u8 (0)), (.int .u8 (0))], true, false, [], false⟩) .leaf))) none (.node (.node (.node .leaf (some ⟨(.ptr 149), 1, 8, [.nilp], false, false, [], false⟩) .leaf) none .leaf) (some ⟨(.struct [(3, 0), (3, 1)]), 2, 16, [(.int .i64 (0)), (.int .i64 (0))], true, true, [], false⟩) .leaf)) (some ⟨.string, 1, 16, [(.str ⟨#[]⟩)], false, false, [], false⟩) (.node (.node (.node .leaf (some ⟨(.slice 3), 1, 24, [.nils], false, false, [], false⟩) .leaf) (some ⟨(.struct [(9, 0), (3, 1), (3, 2)]), 3, 32, [(.str ⟨#[]⟩), (.int .i64 (0)), (.int .i64 (0))], true, true, [], false⟩) (.node (.node .leaf (some ⟨(.int .i64), 1, 8, [(.int .i64 (0))], false, false, [], false⟩) .leaf) (some ⟨.func, 1, 8, [.nilfn], false, false, [], false⟩) (.node .leaf (some ⟨(.int .u8), 1, 1, [(.int .u8 (0))], false, false, [], false⟩) .leaf))) (some ⟨(.slice 54), 1, 24, [.nils], false, false, [], false⟩) (.node (.node (.node .leaf (some ⟨.func, 1, 8, [.nilfn], false, false, [], false⟩) .leaf) none (.node .leaf (some ⟨(.struct [(5, 0), (5, 1)]), 2, 2, [(.int .u8 (0)), (.int .u8 (0))], true, true, [], false⟩) .leaf)) none .leaf))) (some ⟨(.int .u8), 1, 1, [(.int .u8 (0))], false, false, [], false⟩) (.node (.node (.node .leaf none (.node .leaf (some ⟨.func, 1, 8, [.nilfn], false, false, [], false⟩) .leaf)) (some ⟨(.slice 43), 1, 24, [.nils], false, false, [], false⟩) (.node .leaf (some ⟨(.struct [(3, 0), (3, 1), (50, 2)]), 4, 32, [(.int .i64 (0)), (.int .i64 (0)), (.int .i64 (0)), (.int .i64 (0))], true, true, [], false⟩) .leaf)) (some ⟨(.struct [(9, 0), (12, 1)]), 2, 24, [(.str ⟨#[]⟩), (.int .u64 (0))], false, false, [], false⟩) (.node (.node .leaf (some ⟨.func, 1, 8, [.nilfn], false, false, [], false⟩) (.node .leaf (some ⟨(.struct [(3, 0), (3, 1)]), 2, 16, [(.int .i64 (0)), (.int .i64 (0))], true, true, [], false⟩) (.node .leaf (some ⟨(.int .i32), 1, 4, [(.int .i32 (0))], false, false, [], false⟩) .leaf))) none (.node .leaf (some ⟨(.struct [(25, 0), (26, 2)]), 3, 72, [.nils, .nils, .nils], false, false, [], false⟩) .leaf))))))
noncomputable def bodyOf (f:Func):Code:=match f.body with|some c=>c|none=>.skip
noncomputable def mkF (f:Func) (m:Nat) (hs:List Z3K) (pu:Bool) (xm:List (Nat×Nat)) (rm:Nat) (ca:Bool) (pb:List (Nat×Nat)) (mr:List (Nat×Nat×Nat×TypeId×Nat)):FI:=⟨bodyOf f,f.ntmps,f.results.toList,m,hs,pu,xm,rm,ca,pb,mr⟩
noncomputable def g3:FI:=mkF Tryz.f3 604463486268616646623223 [] true [] 16 false [] []
noncomputable def g4:FI:=mkF Tryz.f4 140806241452095 [] true [] 28 false [] []
noncomputable def g5:FI:=mkF Tryz.f5 41538414791847272223429363643727871 [⟨0,98,[.slot 5 9],false⟩,⟨2,514,[],false⟩,⟨4,12290,[],false⟩] true [(1,98),(0,2),(3,514),(2,2),(5,12290),(4,0)] 28 false [] []
noncomputable def g6:FI:=mkF Tryz.f6 139319 [] true [] 48 false [] []
noncomputable def g7:FI:=mkF Tryz.f7 1125900464685879 [⟨0,518,[],false⟩] true [(1,518),(0,0)] 48 false [] []
noncomputable def g8:FI:=mkF Tryz.f8 33015 [] true [] 48 false [] []
noncomputable def g9:FI:=mkF Tryz.f9 32951 [] true [] 48 false [] []
noncomputable def g10:FI:=mkF Tryz.f10 72057597842690039 [⟨0,4195076,[],false⟩,⟨2,1610614016,[],false⟩] true [(3,1610614016),(2,0),(1,0),(0,772)] 48 false [] []
noncomputable def g11:FI:=mkF Tryz.f11 36028814736760759 [⟨0,1796,[.slot 9 50],false⟩,⟨2,7940,[],false⟩] true [(3,7940),(2,3844),(1,1796),(0,512)] 48 false [] []
noncomputable def g12:FI:=mkF Tryz.f12 33571891 [⟨0,35,[],false⟩] true [(1,35),(0,0)] 16 false [] []
noncomputable def g13:FI:=mkF Tryz.f13 786431 [] true [] 1 false [] []
noncomputable def g14:FI:=mkF Tryz.f14 95 [] true [] 64 false [] []
noncomputable def g15:FI:=mkF Tryz.f15 2105331 [⟨0,3586,[],false⟩] false [(1,3586),(0,0)] 48 true [] []
noncomputable def g16:FI:=mkF Tryz.f16 264311 [] false [(0,0)] 32 false [] []
noncomputable def g17:FI:=mkF Tryz.f17 265133 [⟨0,137,[],false⟩] true [(2,161),(1,137),(0,9)] 4 false [] []
noncomputable def g18:FI:=mkF Tryz.f18 19 [] false [] 16 false [] []
noncomputable def g19:FI:=mkF Tryz.f19 15 [] false [] 8 false [] []
noncomputable def g20:FI:=mkF Tryz.f20 2105331 [⟨0,3586,[],false⟩] false [(1,3586),(0,0)] 48 true [] []
noncomputable def g21:FI:=mkF Tryz.f21 55 [] false [] 32 false [] []
noncomputable def g22:FI:=mkF Tryz.f22 137438969919 [] true [(0,0)] 16 false [] []
noncomputable def g23:FI:=mkF Tryz.f23 32823 [] false [] 32 false [] []
noncomputable def g24:FI:=mkF Tryz.f24 71 [] true [] 64 false [] []
noncomputable def g25:FI:=mkF Tryz.f25 2195 [] true [] 16 false [] []
noncomputable def g26:FI:=mkF Tryz.f26 33587615 [] true [] 256 false [] []
noncomputable def g27:FI:=mkF Tryz.f27 2105331 [⟨0,3586,[],false⟩] false [(1,3586),(0,0)] 48 true [] []
noncomputable def g28:FI:=mkF Tryz.f28 55 [] false [] 32 false [] []
noncomputable def g29:FI:=mkF Tryz.f29 183 [] true [] 48 false [] []
noncomputable def g30:FI:=mkF Tryz.f30 55 [⟨0,20,[],false⟩] true [(1,0),(0,4)] 4 false [] []
noncomputable def g31:FI:=mkF Tryz.f31 23 [] true [] 16 false [] []
noncomputable def g32:FI:=mkF Tryz.f32 7 [] false [] 4 false [] []
noncomputable def g34:FI:=mkF Tryz.f34 68720658415 [⟨0,1834,[.slot 8 77],false⟩] true [(1,1834),(0,256)] 64 false [] []
noncomputable def g35:FI:=mkF Tryz.f35 543 [⟨0,30,[.cell 3 0 3,.cell 3 1 3],false⟩] true [(1,30),(0,12)] 4 false [] []
noncomputable def g36:FI:=mkF Tryz.f36 1 [] true [] 1 false [] []
noncomputable def g37:FI:=mkF Tryz.f37 7 [] false [] 4 false [] []
noncomputable def g38:FI:=mkF Tryz.f38 1 [] true [] 1 false [] []
noncomputable def g39:FI:=mkF Tryz.f39 18258071327 [] true [(0,1036)] 768 false [] []
noncomputable def g40:FI:=mkF Tryz.f40 263151 [] true [] 192 false [] []
noncomputable def g41:FI:=mkF Tryz.f41 71 [] true [] 64 false [] []
noncomputable def g42:FI:=mkF Tryz.f42 2251803576240111 [⟨1,1610612842,[.slot 6 3],false⟩] true [(0,106),(2,1610612842),(1,64)] 192 false [] []
noncomputable def g43:FI:=mkF Tryz.f43 10035046790773455982583 [⟨0,25165910,[.slot 4 3],false⟩,⟨2,964690902,[.slot 9 54,.slot 8 3],false⟩] true [(3,964690902),(2,25166678),(1,25165910),(0,16)] 48 false [] []
noncomputable def g44:FI:=mkF Tryz.f44 19 [] true [] 16 false [] []
noncomputable def g45:FI:=mkF Tryz.f45 16463 [] true [] 12 false [] []
noncomputable def g46:FI:=mkF Tryz.f46 140737656177917 [⟨0,16397,[.cell 2 0 43,.cell 2 1 52],false⟩] true [(2,0),(1,0),(0,13)] 12 false [] []
noncomputable def g47:FI:=mkF Tryz.f47 8797166818301 [⟨0,16444,[],false⟩] true [(1,0),(0,12)] 12 false [] []
noncomputable def g48:FI:=mkF Tryz.f48 33571891 [⟨0,35,[],false⟩] true [(1,35),(0,0)] 16 false [] []
noncomputable def g49:FI:=mkF Tryz.f49 288266660173840511 [⟨0,44,[],false⟩,⟨2,76,[],false⟩] true [(1,44),(0,12),(3,76),(2,0)] 16 false [] []
noncomputable def g50:FI:=mkF Tryz.f50 19 [] false [] 16 false [] []
noncomputable def g51:FI:=mkF Tryz.f51 23 [] false [] 16 false [] []
noncomputable def g52:FI:=mkF Tryz.f52 66483 [⟨0,387,[],false⟩] false [(1,387),(0,0)] 16 false [] []
noncomputable def g53:FI:=mkF Tryz.f53 35184380479629 [⟨0,9,[],false⟩] true [(1,9),(0,0)] 4 false [] []
noncomputable def g54:FI:=mkF Tryz.f54 131635 [⟨0,35,[],false⟩] true [(1,35),(0,0)] 16 false [] []
noncomputable def g55:FI:=mkF Tryz.f55 79 [] true [] 64 false [] []
noncomputable def g56:FI:=mkF Tryz.f56 7807 [⟨0,3598,[],false⟩] false [(1,3598),(0,14)] 0 true [] []
noncomputable def g57:FI:=mkF Tryz.f57 162298890911060791960072274116607 [⟨0,8796093027304,[],false⟩] false [(1,0),(0,512)] 512 true [] []
noncomputable def g58:FI:=mkF Tryz.f58 81549309680231488798624078815 [⟨0,1573204,[],false⟩,⟨2,1924146922324,[],false⟩,⟨4,4436,[],false⟩,⟨6,1083197534374707740536738132,[],false⟩] true [(3,1924146922324),(2,1573204),(1,1573204),(0,340),(7,1083197534374707740536738132),(6,4436),(5,4436),(4,336)] 192 false [(25,4)] []
noncomputable def g59:FI:=mkF Tryz.f59 127 [] false [] 64 false [] []
noncomputable def g61:FI:=mkF Tryz.f61 22838750697712822674296722619833405512627519999 [⟨0,22,[],true⟩,⟨2,54,[],true⟩,⟨4,86,[],true⟩,⟨6,278,[],true⟩] true [(3,54),(2,22),(5,86),(4,22),(7,278),(6,22),(1,22),(0,6)] 12 false [] []
noncomputable def g62:FI:=mkF Tryz.f62 4506073530632143 [⟨0,1934,[.slot 7 117],false⟩] true [(1,1934),(0,128)] 64 false [] []
noncomputable def g63:FI:=mkF Tryz.f63 590295819154807062783 [] true [] 64 false [] []
noncomputable def g64:FI:=mkF Tryz.f64 688269427663 [⟨0,393422,[],false⟩,⟨2,137438953536,[.slot 6 3],false⟩] true [(1,393422),(0,192),(3,137438953536),(2,64)] 64 false [] [(2,(37,(6,(3,70093866271296))))]
noncomputable def g65:FI:=mkF Tryz.f65 34429076463 [] true [(0,320)] 192 false [] []
noncomputable def g66:FI:=mkF Tryz.f66 532543 [] true [(0,0)] 16 false [] []
noncomputable def g68:FI:=mkF Tryz.f68 34628706291 [⟨0,3587,[],false⟩] true [(1,3587),(0,3)] 16 false [] []
noncomputable def g69:FI:=mkF Tryz.f69 16106189503 [⟨0,28714,[],false⟩,⟨2,7516192808,[],false⟩] true [(1,28714),(0,42),(3,7516192808),(2,8)] 4 false [] []
noncomputable def g71:FI:=mkF Tryz.f71 7 [] false [] 4 false [] []
noncomputable def g73:FI:=mkF Tryz.f73 19 [] true [] 16 false [] []
noncomputable def g74:FI:=mkF Tryz.f74 9 [] true [] 0 false [] []
noncomputable def g75:FI:=mkF Tryz.f75 246227 [⟨0,114704,[.slot 4 3],false⟩] true [(1,114704),(0,16)] 16 false [] []
noncomputable def g76:FI:=mkF Tryz.f76 51 [] true [] 48 false [] []
noncomputable def g77:FI:=mkF Tryz.f77 19 [] true [] 16 false [] []
noncomputable def g78:FI:=mkF Tryz.f78 947 [⟨0,387,[],false⟩] true [(1,387),(0,1)] 16 false [] []
noncomputable def g80:FI:=mkF Tryz.f80 66483 [⟨0,387,[],false⟩] false [(1,387),(0,0)] 16 false [] []
noncomputable def g81:FI:=mkF Tryz.f81 71 [] true [] 64 false [] []
noncomputable def g82:FI:=mkF Tryz.f82 35201551962567 [⟨0,391,[],false⟩] true [(1,391),(0,128)] 64 false [] []
noncomputable def g83:FI:=mkF Tryz.f83 19 [] false [] 16 false [] []
noncomputable def g84:FI:=mkF Tryz.f84 7 [] true [] 4 false [] []
noncomputable def g85:FI:=mkF Tryz.f85 35201803616751 [⟨0,117440621,[],false⟩] false [(1,117440621),(0,0)] 0 false [] []
noncomputable def g86:FI:=mkF Tryz.f86 23 [] true [] 16 false [] []
noncomputable def g88:FI:=mkF Tryz.f88 19 [] true [] 16 false [] []
noncomputable def g89:FI:=mkF Tryz.f89 604275 [] true [] 16 false [] []
noncomputable def g90:FI:=mkF Tryz.f90 3983 [⟨0,1805,[],false⟩] false [(1,1805),(0,13)] 0 false [] []
noncomputable def g91:FI:=mkF Tryz.f91 51 [] false [] 48 false [] []
noncomputable def g92:FI:=mkF Tryz.f92 5 [] false [] 4 false [] []
noncomputable def g93:FI:=mkF Tryz.f93 16779419 [⟨0,3,[],false⟩] false [(1,3),(0,0)] 0 false [] []
noncomputable def g94:FI:=mkF Tryz.f94 19 [] true [] 16 false [] []
noncomputable def g96:FI:=mkF Tryz.f96 147 [] true [] 16 false [] []
noncomputable def g98:FI:=mkF Tryz.f98 563 [] true [] 48 false [] []
noncomputable def g99:FI:=mkF Tryz.f99 132147 [⟨0,35,[],false⟩] true [(1,35),(0,0)] 16 false [] []
noncomputable def g101:FI:=mkF Tryz.f101 66483 [⟨0,387,[],false⟩] false [(1,387),(0,0)] 16 false [] []
noncomputable def g105:FI:=mkF Tryz.f105 66483 [⟨0,387,[],false⟩] true [(1,387),(0,0)] 16 false [] []
noncomputable def g106:FI:=mkF Tryz.f106 5 [] true [] 4 false [] []
noncomputable def g112:FI:=mkF Tryz.f112 19 [] true [] 16 false [] []
noncomputable def fnT:Tr FI:=(.node (.node (.node (.node (.node (.node (.node .leaf (some g63) .leaf) (some g31) .leaf) (some g15) (.node .leaf (some g47) .leaf)) (some g7) (.node (.node (.node .leaf (some g71) .leaf) (some g39) .leaf) (some g23) (.node .leaf (some g55) .leaf))) (some g3) (.node (.node (.node .leaf (some g35) (.node .leaf (some g99) .leaf)) (some g19) (.node (.node .leaf (some g83) .leaf) (some g51) .leaf)) (some g11) (.node (.node (.node .leaf (some g75) .leaf) (some g43) .leaf) (some g27) (.node (.node .leaf (some g91) .leaf) (some g59) .leaf)))) none (.node (.node (.node (.node (.node .leaf (some g65) .leaf) none .leaf) (some g17) (.node (.node .leaf (some g81) .leaf) (some g49) .leaf)) (some g9) (.node (.node (.node .leaf (some g73) .leaf) (some g41) (.node .leaf (some g105) .leaf)) (some g25) (.node (.node .leaf (some g89) .leaf) (some g57) .leaf))) (some g5) (.node (.node (.node (.node .leaf (some g69) .leaf) (some g37) (.node .leaf (some g101) .leaf)) (some g21) (.node (.node .leaf (some g85) .leaf) (some g53) .leaf)) (some g13) (.node (.node (.node .leaf (some g77) .leaf) (some g45) .leaf) (some g29) (.node (.node .leaf (some g93) .leaf) (some g61) .leaf))))) none (.node (.node (.node (.node (.node (.node .leaf (some g64) .leaf) (some g32) (.node .leaf (some g96) .leaf)) (some g16) (.node (.node .leaf (some g80) .leaf) (some g48) (.node .leaf (some g112) .leaf))) (some g8) (.node (.node .leaf (some g40) .leaf) (some g24) (.node (.node .leaf (some g88) .leaf) (some g56) .leaf))) (some g4) (.node (.node (.node (.node .leaf (some g68) .leaf) (some g36) .leaf) (some g20) (.node (.node .leaf (some g84) .leaf) (some g52) .leaf)) (some g12) (.node (.node (.node .leaf (some g76) .leaf) (some g44) .leaf) (some g28) (.node (.node .leaf (some g92) .leaf) none .leaf)))) none (.node (.node (.node (.node (.node .leaf (some g66) .leaf) (some g34) (.node .leaf (some g98) .leaf)) (some g18) (.node (.node .leaf (some g82) .leaf) (some g50) .leaf)) (some g10) (.node (.node (.node .leaf (some g74) .leaf) (some g42) (.node .leaf (some g106) .leaf)) (some g26) (.node (.node .leaf (some g90) .leaf) (some g58) .leaf))) (some g6) (.node (.node (.node .leaf (some g38) .leaf) (some g22) (.node (.node .leaf (some g86) .leaf) (some g54) .leaf)) (some g14) (.node (.node (.node .leaf (some g78) .leaf) (some g46) .leaf) (some g30) (.node (.node .leaf (some g94) .leaf) (some g62) .leaf))))))
noncomputable def powN:String:=((Tryz.prog.globals[3]?).map (·.name)).getD default
def leafT:Tr (List DV->Option DV):=(.node (.node (.node (.node (.node .leaf none (.node (.node .leaf (some ZbR) .leaf) none .leaf)) none .leaf) none .leaf) none (.node (.node (.node (.node .leaf none (.node .leaf (some ZbQ) .leaf)) none .leaf) none .leaf) none .leaf)) none (.node (.node (.node .leaf none (.node (.node (.node .leaf (some Z8R) .leaf) none .leaf) none .leaf)) none (.node .leaf none (.node (.node .leaf none (.node .leaf (some Z3y) .leaf)) none .leaf))) none .leaf))
def ccT:Tr TypeId:=(.node (.node (.node .leaf none (.node .leaf none (.node (.node .leaf none (.node .leaf (some 149) .leaf)) none .leaf))) none .leaf) none .leaf)
def clnT:Tr TypeId:=(.node (.node (.node .leaf none (.node (.node (.node (.node .leaf (some 52) .leaf) none .leaf) none .leaf) none .leaf)) none (.node (.node (.node (.node .leaf (some 50) .leaf) none .leaf) none .leaf) none .leaf)) none (.node (.node .leaf none (.node .leaf none (.node .leaf none (.node .leaf (some 110) .leaf)))) none (.node .leaf none (.node (.node (.node .leaf none (.node .leaf (some 54) .leaf)) none .leaf) none .leaf))))
def srtT:Tr TypeId:=(.node (.node (.node (.node .leaf none (.node .leaf none (.node (.node .leaf (some 3) .leaf) none .leaf))) none .leaf) none .leaf) none .leaf)
noncomputable def E:Env:=⟨tyT.get,fnT.get,leafT.get,ccT.get,clnT.get,srtT.get,fun g=>Nat.beq g 70,fun w=>(∃m,w.cell? ⟨0,0,none⟩=some (.int .i64 m))/\Lib.TabIs Tryz.prog w powN .u64 Lib.pow10Tab,fun _ _ h hb=>⟨ZbV h.1 hb,Ze3 h.2 hb⟩⟩
end Go.Proofs.YtjegmohjiejgeaaGreatDoor
namespace Go.Proofs
open Go.Shelf
def Tryz.laysM171_ren:Go.Shelf.Ren:=⟨fun|171=>79|243=>100|246=>115|283=>138|284=>139|285=>140|286=>141|129=>126|317=>154|318=>155|319=>156|320=>157|337=>162|338=>163|n=>n,fun|3=>3|9=>9|2=>2|4=>4|171=>193|0=>0|53=>181|37=>147|5=>5|173=>195|212=>211|51=>179|20=>20|213=>212|46=>161|232=>226|233=>227|n=>n,fun|17=>3|18=>6|19=>7|n=>n⟩
theorem Tryz.laysM171:Go.Proofs.LaysM.n171 Tryz.prog Tryz.laysM171_ren:={
 mixed:=by kernel_rfl
 f129:=Tryz.func126.trans (congrArg some (by kernel_rfl))
 f171:=Tryz.func79.trans (congrArg some (by kernel_rfl))
 f243:=Tryz.func100.trans (congrArg some (by kernel_rfl))
 f246:=Tryz.func115.trans (congrArg some (by kernel_rfl))
 f283:=Tryz.func138.trans (congrArg some (by kernel_rfl))
 f284:=Tryz.func139.trans (congrArg some (by kernel_rfl))
 f285:=Tryz.func140.trans (congrArg some (by kernel_rfl))
 f286:=Tryz.func141.trans (congrArg some (by kernel_rfl))
 f317:=Tryz.func154.trans (congrArg some (by kernel_rfl))
 f318:=Tryz.func155.trans (congrArg some (by kernel_rfl))
 f319:=Tryz.func156.trans (congrArg some (by kernel_rfl))
 f320:=Tryz.func157.trans (congrArg some (by kernel_rfl))
 f337:=Tryz.func162.trans (congrArg some (by kernel_rfl))
 f338:=Tryz.func163.trans (congrArg some (by kernel_rfl))
 t0:=Tryz.underlying0
 a0:=Tryz.isAgg0
 z0:=Tryz.sizeOf0
 v0:=Tryz.zeroValue0
 t2:=Tryz.underlying2
 a2:=Tryz.isAgg2
 z2:=Tryz.sizeOf2
 v2:=Tryz.zeroValue2
 t3:=Tryz.underlying3
 a3:=Tryz.isAgg3
 z3:=Tryz.sizeOf3
 v3:=Tryz.zeroValue3
 t4:=Tryz.underlying4
 a4:=Tryz.isAgg4
 z4:=Tryz.sizeOf4
 v4:=Tryz.zeroValue4
 t5:=Tryz.underlying5
 a5:=Tryz.isAgg5
 z5:=Tryz.sizeOf5
 v5:=Tryz.zeroValue5
 t9:=Tryz.underlying9
 a9:=Tryz.isAgg9
 z9:=Tryz.sizeOf9
 v9:=Tryz.zeroValue9
 t20:=Tryz.underlying20
 a20:=Tryz.isAgg20
 z20:=Tryz.sizeOf20
 v20:=Tryz.zeroValue20
 t37:=Tryz.underlying147
 a37:=Tryz.isAgg147
 z37:=Tryz.sizeOf147
 v37:=Tryz.zeroValue147
 t46:=Tryz.underlying161
 a46:=Tryz.isAgg161
 z46:=Tryz.sizeOf161
 v46:=Tryz.zeroValue161
 t51:=Tryz.underlying179
 a51:=Tryz.isAgg179
 z51:=Tryz.sizeOf179
 v51:=Tryz.zeroValue179
 t53:=Tryz.underlying181
 a53:=Tryz.isAgg181
 z53:=Tryz.sizeOf181
 v53:=Tryz.zeroValue181
 t171:=Tryz.underlying193
 a171:=Tryz.isAgg193
 z171:=Tryz.sizeOf193
 v171:=Tryz.zeroValue193
 t173:=Tryz.underlying195
 a173:=Tryz.isAgg195
 z173:=Tryz.sizeOf195
 v173:=Tryz.zeroValue195
 t212:=Tryz.underlying211
 a212:=Tryz.isAgg211
 z212:=Tryz.sizeOf211
 v212:=Tryz.zeroValue211
 t213:=Tryz.underlying212
 a213:=Tryz.isAgg212
 z213:=Tryz.sizeOf212
 t232:=Tryz.underlying226
 a232:=Tryz.isAgg226
 z232:=Tryz.sizeOf226
 v232:=Tryz.zeroValue226
 t233:=Tryz.underlying227
 a233:=Tryz.isAgg227
 z233:=Tryz.sizeOf227
 v233:=Tryz.zeroValue227
 g17:=by kernel_rfl
 g18:=by kernel_rfl
 g19:=by kernel_rfl
 i0:=by kernel_rfl
 i2:=by kernel_rfl
 i3:=by kernel_rfl
 i4:=by kernel_rfl
 i5:=by kernel_rfl
 i9:=by kernel_rfl
 i20:=by kernel_rfl
 i37:=by kernel_rfl
 i46:=by kernel_rfl
 i51:=by kernel_rfl
 i53:=by kernel_rfl
 i171:=by kernel_rfl
 i173:=by kernel_rfl
 i212:=by kernel_rfl
 i232:=by kernel_rfl
 i233:=by kernel_rfl
 m17:=by kernel_rfl
 m18:=by kernel_rfl
 m19:=by kernel_rfl }
def Tryz.laysC172_ren:Go.Shelf.Ren:=⟨fun|172=>97|244=>113|245=>114|247=>133|279=>134|280=>135|281=>136|282=>137|287=>151|316=>152|171=>79|205=>153|321=>160|322=>161|243=>100|246=>115|283=>138|284=>139|285=>140|286=>141|129=>126|317=>154|318=>155|319=>156|320=>157|337=>162|338=>163|n=>n,fun|9=>9|3=>3|75=>151|76=>152|4=>4|5=>5|167=>187|37=>147|0=>0|85=>188|2=>2|168=>190|53=>181|175=>204|46=>161|210=>208|127=>163|145=>225|143=>223|21=>21|171=>193|173=>195|212=>211|51=>179|20=>20|213=>212|232=>226|233=>227|80=>155|n=>n,fun|15=>1|16=>2|17=>3|18=>6|19=>7|n=>n⟩
theorem Tryz.laysC172:Go.Proofs.LaysC.n172 Tryz.prog Tryz.laysC172_ren:={
 mixed:=by kernel_rfl
 f129:=Tryz.func126.trans (congrArg some (by kernel_rfl))
 f171:=Tryz.func79.trans (congrArg some (by kernel_rfl))
 f172:=Tryz.func97.trans (congrArg some (by kernel_rfl))
 f205:=Tryz.func153.trans (congrArg some (by kernel_rfl))
 f243:=Tryz.func100.trans (congrArg some (by kernel_rfl))
 f244:=Tryz.func113.trans (congrArg some (by kernel_rfl))
 f245:=Tryz.func114.trans (congrArg some (by kernel_rfl))
 f246:=Tryz.func115.trans (congrArg some (by kernel_rfl))
 f247:=Tryz.func133.trans (congrArg some (by kernel_rfl))
 f279:=Tryz.func134.trans (congrArg some (by kernel_rfl))
 f280:=Tryz.func135.trans (congrArg some (by kernel_rfl))
 f281:=Tryz.func136.trans (congrArg some (by kernel_rfl))
 f282:=Tryz.func137.trans (congrArg some (by kernel_rfl))
 f283:=Tryz.func138.trans (congrArg some (by kernel_rfl))
 f284:=Tryz.func139.trans (congrArg some (by kernel_rfl))
 f285:=Tryz.func140.trans (congrArg some (by kernel_rfl))
 f286:=Tryz.func141.trans (congrArg some (by kernel_rfl))
 f287:=Tryz.func151.trans (congrArg some (by kernel_rfl))
 f316:=Tryz.func152.trans (congrArg some (by kernel_rfl))
 f317:=Tryz.func154.trans (congrArg some (by kernel_rfl))
 f318:=Tryz.func155.trans (congrArg some (by kernel_rfl))
 f319:=Tryz.func156.trans (congrArg some (by kernel_rfl))
 f320:=Tryz.func157.trans (congrArg some (by kernel_rfl))
 f321:=Tryz.func160.trans (congrArg some (by kernel_rfl))
 f322:=Tryz.func161.trans (congrArg some (by kernel_rfl))
 f337:=Tryz.func162.trans (congrArg some (by kernel_rfl))
 f338:=Tryz.func163.trans (congrArg some (by kernel_rfl))
 t0:=Tryz.underlying0
 a0:=Tryz.isAgg0
 z0:=Tryz.sizeOf0
 v0:=Tryz.zeroValue0
 t2:=Tryz.underlying2
 a2:=Tryz.isAgg2
 z2:=Tryz.sizeOf2
 v2:=Tryz.zeroValue2
 t3:=Tryz.underlying3
 a3:=Tryz.isAgg3
 z3:=Tryz.sizeOf3
 v3:=Tryz.zeroValue3
 t4:=Tryz.underlying4
 a4:=Tryz.isAgg4
 z4:=Tryz.sizeOf4
 v4:=Tryz.zeroValue4
 t5:=Tryz.underlying5
 a5:=Tryz.isAgg5
 z5:=Tryz.sizeOf5
 v5:=Tryz.zeroValue5
 t9:=Tryz.underlying9
 a9:=Tryz.isAgg9
 z9:=Tryz.sizeOf9
 v9:=Tryz.zeroValue9
 t20:=Tryz.underlying20
 a20:=Tryz.isAgg20
 z20:=Tryz.sizeOf20
 v20:=Tryz.zeroValue20
 t21:=Tryz.underlying21
 a21:=Tryz.isAgg21
 z21:=Tryz.sizeOf21
 v21:=Tryz.zeroValue21
 t37:=Tryz.underlying147
 a37:=Tryz.isAgg147
 z37:=Tryz.sizeOf147
 v37:=Tryz.zeroValue147
 t46:=Tryz.underlying161
 a46:=Tryz.isAgg161
 z46:=Tryz.sizeOf161
 v46:=Tryz.zeroValue161
 t51:=Tryz.underlying179
 a51:=Tryz.isAgg179
 z51:=Tryz.sizeOf179
 v51:=Tryz.zeroValue179
 t53:=Tryz.underlying181
 a53:=Tryz.isAgg181
 z53:=Tryz.sizeOf181
 v53:=Tryz.zeroValue181
 t75:=Tryz.underlying151
 a75:=Tryz.isAgg151
 z75:=Tryz.sizeOf151
 v75:=Tryz.zeroValue151
 t76:=Tryz.underlying152
 a76:=Tryz.isAgg152
 z76:=Tryz.sizeOf152
 v76:=Tryz.zeroValue152
 t85:=Tryz.underlying188
 a85:=Tryz.isAgg188
 z85:=Tryz.sizeOf188
 v85:=Tryz.zeroValue188
 t127:=Tryz.underlying163
 a127:=Tryz.isAgg163
 z127:=Tryz.sizeOf163
 v127:=Tryz.zeroValue163
 t143:=Tryz.underlying223
 a143:=Tryz.isAgg223
 z143:=Tryz.sizeOf223
 v143:=Tryz.zeroValue223
 t145:=Tryz.underlying225
 a145:=Tryz.isAgg225
 z145:=Tryz.sizeOf225
 v145:=Tryz.zeroValue225
 t167:=Tryz.underlying187
 a167:=Tryz.isAgg187
 z167:=Tryz.sizeOf187
 v167:=Tryz.zeroValue187
 t168:=Tryz.underlying190
 a168:=Tryz.isAgg190
 z168:=Tryz.sizeOf190
 v168:=Tryz.zeroValue190
 t171:=Tryz.underlying193
 a171:=Tryz.isAgg193
 z171:=Tryz.sizeOf193
 v171:=Tryz.zeroValue193
 t173:=Tryz.underlying195
 a173:=Tryz.isAgg195
 z173:=Tryz.sizeOf195
 v173:=Tryz.zeroValue195
 t175:=Tryz.underlying204
 a175:=Tryz.isAgg204
 z175:=Tryz.sizeOf204
 v175:=Tryz.zeroValue204
 t210:=Tryz.underlying208
 a210:=Tryz.isAgg208
 z210:=Tryz.sizeOf208
 v210:=Tryz.zeroValue208
 t212:=Tryz.underlying211
 a212:=Tryz.isAgg211
 z212:=Tryz.sizeOf211
 v212:=Tryz.zeroValue211
 t213:=Tryz.underlying212
 a213:=Tryz.isAgg212
 z213:=Tryz.sizeOf212
 t232:=Tryz.underlying226
 a232:=Tryz.isAgg226
 z232:=Tryz.sizeOf226
 v232:=Tryz.zeroValue226
 t233:=Tryz.underlying227
 a233:=Tryz.isAgg227
 z233:=Tryz.sizeOf227
 v233:=Tryz.zeroValue227
 g15:=by kernel_rfl
 g16:=by kernel_rfl
 g17:=by kernel_rfl
 g18:=by kernel_rfl
 g19:=by kernel_rfl
 t80:=Tryz.underlying155
 a80:=Tryz.isAgg155
 z80:=Tryz.sizeOf155
 v80:=Tryz.zeroValue155
 i0:=by kernel_rfl
 i2:=by kernel_rfl
 i3:=by kernel_rfl
 i4:=by kernel_rfl
 i5:=by kernel_rfl
 i9:=by kernel_rfl
 i20:=by kernel_rfl
 i21:=by kernel_rfl
 i37:=by kernel_rfl
 i46:=by kernel_rfl
 i51:=by kernel_rfl
 i53:=by kernel_rfl
 i75:=by kernel_rfl
 i76:=by kernel_rfl
 i80:=by kernel_rfl
 i85:=by kernel_rfl
 i127:=by kernel_rfl
 i143:=by kernel_rfl
 i145:=by kernel_rfl
 i167:=by kernel_rfl
 i168:=by kernel_rfl
 i171:=by kernel_rfl
 i173:=by kernel_rfl
 i175:=by kernel_rfl
 i210:=by kernel_rfl
 i212:=by kernel_rfl
 i232:=by kernel_rfl
 i233:=by kernel_rfl
 m15:=by kernel_rfl
 m16:=by kernel_rfl
 m17:=by kernel_rfl
 m18:=by kernel_rfl
 m19:=by kernel_rfl
 c0:=by kernel_rfl
 c2:=by kernel_rfl
 c3:=by kernel_rfl
 c4:=by kernel_rfl
 c5:=by kernel_rfl
 c9:=by kernel_rfl
 c20:=by kernel_rfl
 c21:=by kernel_rfl
 c37:=by kernel_rfl
 c46:=by kernel_rfl
 c51:=by kernel_rfl
 c53:=by kernel_rfl
 c75:=by kernel_rfl
 c76:=by kernel_rfl
 c80:=by kernel_rfl
 c85:=by kernel_rfl
 c127:=by kernel_rfl
 c143:=by kernel_rfl
 c145:=by kernel_rfl
 c167:=by kernel_rfl
 c168:=by kernel_rfl
 c171:=by kernel_rfl
 c173:=by kernel_rfl
 c175:=by kernel_rfl
 c210:=by kernel_rfl
 c212:=by kernel_rfl
 c213:=by kernel_rfl
 c232:=by kernel_rfl
 c233:=by kernel_rfl }
def Tryz.laysM146_ren:Go.Shelf.Ren:=⟨fun|146=>72|221=>95|268=>109|138=>110|143=>111|195=>129|197=>130|218=>131|219=>132|260=>147|217=>108|225=>148|224=>149|267=>150|266=>128|314=>159|n=>n,fun|9=>9|31=>57|3=>3|4=>4|0=>0|105=>185|21=>21|5=>5|46=>161|119=>216|139=>219|138=>218|146=>220|51=>179|n=>n,fun|1=>0|3=>4|4=>5|n=>n⟩
theorem Tryz.laysM146:Go.Proofs.LaysM.n146 Tryz.prog Tryz.laysM146_ren:={
 mixed:=by kernel_rfl
 f138:=Tryz.func110.trans (congrArg some (by kernel_rfl))
 f143:=Tryz.func111.trans (congrArg some (by kernel_rfl))
 f146:=Tryz.func72.trans (congrArg some (by kernel_rfl))
 f195:=Tryz.func129.trans (congrArg some (by kernel_rfl))
 f197:=Tryz.func130.trans (congrArg some (by kernel_rfl))
 f217:=Tryz.func108.trans (congrArg some (by kernel_rfl))
 f218:=Tryz.func131.trans (congrArg some (by kernel_rfl))
 f219:=Tryz.func132.trans (congrArg some (by kernel_rfl))
 f221:=Tryz.func95.trans (congrArg some (by kernel_rfl))
 f224:=Tryz.func149.trans (congrArg some (by kernel_rfl))
 f225:=Tryz.func148.trans (congrArg some (by kernel_rfl))
 f260:=Tryz.func147.trans (congrArg some (by kernel_rfl))
 f266:=Tryz.func128.trans (congrArg some (by kernel_rfl))
 f267:=Tryz.func150.trans (congrArg some (by kernel_rfl))
 f268:=Tryz.func109.trans (congrArg some (by kernel_rfl))
 f314:=Tryz.func159.trans (congrArg some (by kernel_rfl))
 t0:=Tryz.underlying0
 a0:=Tryz.isAgg0
 z0:=Tryz.sizeOf0
 v0:=Tryz.zeroValue0
 t3:=Tryz.underlying3
 a3:=Tryz.isAgg3
 z3:=Tryz.sizeOf3
 v3:=Tryz.zeroValue3
 t4:=Tryz.underlying4
 a4:=Tryz.isAgg4
 z4:=Tryz.sizeOf4
 v4:=Tryz.zeroValue4
 t5:=Tryz.underlying5
 a5:=Tryz.isAgg5
 z5:=Tryz.sizeOf5
 v5:=Tryz.zeroValue5
 t9:=Tryz.underlying9
 a9:=Tryz.isAgg9
 z9:=Tryz.sizeOf9
 v9:=Tryz.zeroValue9
 t21:=Tryz.underlying21
 a21:=Tryz.isAgg21
 z21:=Tryz.sizeOf21
 v21:=Tryz.zeroValue21
 t31:=Tryz.underlying57
 a31:=Tryz.isAgg57
 z31:=Tryz.sizeOf57
 v31:=Tryz.zeroValue57
 t46:=Tryz.underlying161
 a46:=Tryz.isAgg161
 z46:=Tryz.sizeOf161
 v46:=Tryz.zeroValue161
 t51:=Tryz.underlying179
 a51:=Tryz.isAgg179
 z51:=Tryz.sizeOf179
 v51:=Tryz.zeroValue179
 t105:=Tryz.underlying185
 a105:=Tryz.isAgg185
 z105:=Tryz.sizeOf185
 v105:=Tryz.zeroValue185
 t119:=Tryz.underlying216
 a119:=Tryz.isAgg216
 z119:=Tryz.sizeOf216
 t138:=Tryz.underlying218
 a138:=Tryz.isAgg218
 z138:=Tryz.sizeOf218
 v138:=Tryz.zeroValue218
 t139:=Tryz.underlying219
 a139:=Tryz.isAgg219
 z139:=Tryz.sizeOf219
 v139:=Tryz.zeroValue219
 t146:=Tryz.underlying220
 a146:=Tryz.isAgg220
 z146:=Tryz.sizeOf220
 v146:=Tryz.zeroValue220
 g1:=by kernel_rfl
 g3:=by kernel_rfl
 g4:=by kernel_rfl
 i0:=by kernel_rfl
 i3:=by kernel_rfl
 i4:=by kernel_rfl
 i5:=by kernel_rfl
 i9:=by kernel_rfl
 i21:=by kernel_rfl
 i31:=by kernel_rfl
 i46:=by kernel_rfl
 i51:=by kernel_rfl
 i105:=by kernel_rfl
 i138:=by kernel_rfl
 i139:=by kernel_rfl
 i146:=by kernel_rfl
 m1:=by kernel_rfl
 s1_3:=fun w h=>Go.Proofs.cell_of_shapedOpen_int (zero := #[.int .i64 0]) (t:=3) h (of_decide_eq_true (by kernel_rfl)) (by kernel_rfl) rfl (by kernel_rfl) (by kernel_rfl) Tryz.underlying3
 m3:=by kernel_rfl
 m4:=by kernel_rfl }
def Tryz.lays217_ren:Go.Shelf.Ren:=⟨fun|217=>108|266=>128|n=>n,fun|9=>9|5=>5|3=>3|n=>n,fun|n=>n⟩
theorem Tryz.lays217:Go.Proofs.Lays.n217 Tryz.prog Tryz.lays217_ren:={
 mixed:=by kernel_rfl
 f217:=Tryz.func108.trans (congrArg some (by kernel_rfl))
 f266:=Tryz.func128.trans (congrArg some (by kernel_rfl))
 t3:=Tryz.underlying3
 a3:=Tryz.isAgg3
 z3:=Tryz.sizeOf3
 v3:=Tryz.zeroValue3
 t5:=Tryz.underlying5
 a5:=Tryz.isAgg5
 z5:=Tryz.sizeOf5
 v5:=Tryz.zeroValue5
 t9:=Tryz.underlying9
 a9:=Tryz.isAgg9
 z9:=Tryz.sizeOf9
 v9:=Tryz.zeroValue9 }
def Tryz.lays189_ren:Go.Shelf.Ren:=⟨fun|189=>87|125=>104|257=>103|128=>125|129=>126|294=>116|295=>117|296=>118|297=>119|298=>120|299=>121|216=>122|300=>123|301=>124|328=>142|329=>143|330=>144|331=>145|332=>146|215=>106|343=>158|n=>n,fun|28=>74|3=>3|46=>161|0=>0|51=>179|53=>181|4=>4|183=>171|182=>170|131=>176|5=>5|9=>9|218=>197|222=>201|228=>213|229=>214|n=>n,fun|n=>n⟩
theorem Tryz.lays189:Go.Proofs.Lays.n189 Tryz.prog Tryz.lays189_ren:={
 mixed:=by kernel_rfl
 f125:=Tryz.func104.trans (congrArg some (by kernel_rfl))
 f128:=Tryz.func125.trans (congrArg some (by kernel_rfl))
 f129:=Tryz.func126.trans (congrArg some (by kernel_rfl))
 f189:=Tryz.func87.trans (congrArg some (by kernel_rfl))
 f215:=Tryz.func106.trans (congrArg some (by kernel_rfl))
 f216:=Tryz.func122.trans (congrArg some (by kernel_rfl))
 f257:=Tryz.func103.trans (congrArg some (by kernel_rfl))
 f294:=Tryz.func116.trans (congrArg some (by kernel_rfl))
 f295:=Tryz.func117.trans (congrArg some (by kernel_rfl))
 f296:=Tryz.func118.trans (congrArg some (by kernel_rfl))
 f297:=Tryz.func119.trans (congrArg some (by kernel_rfl))
 f298:=Tryz.func120.trans (congrArg some (by kernel_rfl))
 f299:=Tryz.func121.trans (congrArg some (by kernel_rfl))
 f300:=Tryz.func123.trans (congrArg some (by kernel_rfl))
 f301:=Tryz.func124.trans (congrArg some (by kernel_rfl))
 f328:=Tryz.func142.trans (congrArg some (by kernel_rfl))
 f329:=Tryz.func143.trans (congrArg some (by kernel_rfl))
 f330:=Tryz.func144.trans (congrArg some (by kernel_rfl))
 f331:=Tryz.func145.trans (congrArg some (by kernel_rfl))
 f332:=Tryz.func146.trans (congrArg some (by kernel_rfl))
 f343:=Tryz.func158.trans (congrArg some (by kernel_rfl))
 t0:=Tryz.underlying0
 a0:=Tryz.isAgg0
 z0:=Tryz.sizeOf0
 v0:=Tryz.zeroValue0
 t3:=Tryz.underlying3
 a3:=Tryz.isAgg3
 z3:=Tryz.sizeOf3
 v3:=Tryz.zeroValue3
 t4:=Tryz.underlying4
 a4:=Tryz.isAgg4
 z4:=Tryz.sizeOf4
 v4:=Tryz.zeroValue4
 t5:=Tryz.underlying5
 a5:=Tryz.isAgg5
 z5:=Tryz.sizeOf5
 v5:=Tryz.zeroValue5
 t9:=Tryz.underlying9
 a9:=Tryz.isAgg9
 z9:=Tryz.sizeOf9
 v9:=Tryz.zeroValue9
 t28:=Tryz.underlying74
 a28:=Tryz.isAgg74
 z28:=Tryz.sizeOf74
 v28:=Tryz.zeroValue74
 t46:=Tryz.underlying161
 a46:=Tryz.isAgg161
 z46:=Tryz.sizeOf161
 v46:=Tryz.zeroValue161
 t51:=Tryz.underlying179
 a51:=Tryz.isAgg179
 z51:=Tryz.sizeOf179
 v51:=Tryz.zeroValue179
 t53:=Tryz.underlying181
 a53:=Tryz.isAgg181
 z53:=Tryz.sizeOf181
 v53:=Tryz.zeroValue181
 t131:=Tryz.underlying176
 a131:=Tryz.isAgg176
 z131:=Tryz.sizeOf176
 v131:=Tryz.zeroValue176
 t182:=Tryz.underlying170
 a182:=Tryz.isAgg170
 z182:=Tryz.sizeOf170
 v182:=Tryz.zeroValue170
 t183:=Tryz.underlying171
 a183:=Tryz.isAgg171
 z183:=Tryz.sizeOf171
 v183:=Tryz.zeroValue171
 t218:=Tryz.underlying197
 a218:=Tryz.isAgg197
 z218:=Tryz.sizeOf197
 v218:=Tryz.zeroValue197
 t222:=Tryz.underlying201
 a222:=Tryz.isAgg201
 z222:=Tryz.sizeOf201
 v222:=Tryz.zeroValue201
 t228:=Tryz.underlying213
 a228:=Tryz.isAgg213
 z228:=Tryz.sizeOf213
 v228:=Tryz.zeroValue213
 t229:=Tryz.underlying214
 a229:=Tryz.isAgg214
 z229:=Tryz.sizeOf214
 v229:=Tryz.zeroValue214 }
def Tryz.laysSlE041_f33_ren:Go.Shelf.Ren:=⟨fun|41=>33|n=>n,fun|22=>34|23=>50|4=>4|n=>n,fun|n=>n⟩
theorem Tryz.laysSlE041_f33:Go.Proofs.SlLaysE0.n41 Tryz.prog Tryz.laysSlE041_f33_ren:={
 mixed:=by kernel_rfl
 f41:=⟨Tryz.f33.name,by decide,Tryz.func33.trans (congrArg some (by kernel_rfl))⟩
 t4:=Tryz.underlying4
 a4:=Tryz.isAgg4
 z4:=Tryz.sizeOf4
 v4:=Tryz.zeroValue4
 t22:=Tryz.underlying34
 a22:=Tryz.isAgg34
 z22:=Tryz.sizeOf34
 v22:=Tryz.zeroValue34 }
def Tryz.laysSlE041_f60_ren:Go.Shelf.Ren:=⟨fun|41=>60|n=>n,fun|22=>103|23=>110|4=>4|n=>n,fun|n=>n⟩
theorem Tryz.laysSlE041_f60:Go.Proofs.SlLaysE0.n41 Tryz.prog Tryz.laysSlE041_f60_ren:={
 mixed:=by kernel_rfl
 f41:=⟨Tryz.f60.name,by decide,Tryz.func60.trans (congrArg some (by kernel_rfl))⟩
 t4:=Tryz.underlying4
 a4:=Tryz.isAgg4
 z4:=Tryz.sizeOf4
 v4:=Tryz.zeroValue4
 t22:=Tryz.underlying103
 a22:=Tryz.isAgg103
 z22:=Tryz.sizeOf103
 v22:=Tryz.zeroValue103 }
def Tryz.laysSlE041_f67_ren:Go.Shelf.Ren:=⟨fun|41=>67|n=>n,fun|22=>23|23=>52|4=>4|n=>n,fun|n=>n⟩
theorem Tryz.laysSlE041_f67:Go.Proofs.SlLaysE0.n41 Tryz.prog Tryz.laysSlE041_f67_ren:={
 mixed:=by kernel_rfl
 f41:=⟨Tryz.f67.name,by decide,Tryz.func67.trans (congrArg some (by kernel_rfl))⟩
 t4:=Tryz.underlying4
 a4:=Tryz.isAgg4
 z4:=Tryz.sizeOf4
 v4:=Tryz.zeroValue4
 t22:=Tryz.underlying23
 a22:=Tryz.isAgg23
 z22:=Tryz.sizeOf23
 v22:=Tryz.zeroValue23 }
def Tryz.laysSlE041_f102_ren:Go.Shelf.Ren:=⟨fun|41=>102|n=>n,fun|22=>26|23=>54|4=>4|n=>n,fun|n=>n⟩
theorem Tryz.laysSlE041_f102:Go.Proofs.SlLaysE0.n41 Tryz.prog Tryz.laysSlE041_f102_ren:={
 mixed:=by kernel_rfl
 f41:=⟨Tryz.f102.name,by decide,Tryz.func102.trans (congrArg some (by kernel_rfl))⟩
 t4:=Tryz.underlying4
 a4:=Tryz.isAgg4
 z4:=Tryz.sizeOf4
 v4:=Tryz.zeroValue4
 t22:=Tryz.underlying26
 a22:=Tryz.isAgg26
 z22:=Tryz.sizeOf26
 v22:=Tryz.zeroValue26 }
end Go.Proofs
namespace Go.Proofs.YtjegmohjiejgeaaGreatDoor
open Go.Ab Go.Proofs Go.RowKit Go.Shelf
set_option maxRecDepth 100000 in
theorem dfr70:Zh0 Tryz.prog 70:=fun n cap w=>by
 refine⟨?_,?_⟩
 ·have h:=YE Tryz.func70 (c:=bodyOf Tryz.f70) rfl (by kernel_rfl) cap w
  have e:(invoke (.fn (.func 70) cap) #[]).run Tryz.prog w=(callFunc 70 cap).run Tryz.prog w:=by simp[go_sem,invoke]
  rw[e];exact h
 ·refine callsDIn_of_wpSIn Tryz.func70 rfl trivial fun c₀ cs hu=>?_;have hs:(cap++Array.replicate (Tryz.f70.ntmps-cap.size) undef).size=max cap.size 9:=by
   rw[Tryz.ntmps70];simp;omega
  generalize cap++Array.replicate (Tryz.f70.ntmps-cap.size) undef=tm at hs⊢;apply wpSIn_seq;apply wpSIn_region;simp[wpOpsSIn,go_sem,recoverD,hu,Exit.thenS];have l2:2<max cap.size 9:=by omega
  have l3:3<max cap.size 9:=by omega
  have l4:4<max cap.size 9:=by omega
  have l5:5<max cap.size 9:=by omega
  have hb:(binOp .neq 20 .nilIface .nilIface).run Tryz.prog w=.ok (.bool false) w:=by simp[binOp,Z4y Tryz.underlying20]
  apply wpSIn_seq;apply wpSIn_region;simp[wpOpsSIn,go_sem,hs,Exit.thenS,l2,l3,l4,hb];refine wpSIn_cond (t:=false) (by simp[Act.eval,hs,l5]) ?_
  simp only[Bool.false_eq_true,if_false];refine wpSIn_of_wpIn rfl (wpIn_skip ?_);cases c₀;simp_all [bodyPostS,results,Tryz.results70]
set_option maxHeartbeats 1000000 in
set_option maxRecDepth 100000 in
theorem cc107_used (b:Nat) (w:World) (h0:w.cell? ⟨b,0,none⟩=some (.pointer (some ⟨b,0,none⟩))) :
  Calls Tryz.prog 107 #[.pointer (some ⟨b,0,none⟩)] w fun e w'=>e=.returned (.tuple #[])/\w'=w:=by
 obtain⟨j,hj,_⟩:=Option.map_eq_some_iff.1 (show(Tryz.prog.info? 149).map (·.size)=some 2 by kernel_rfl)
 go_enter Tryz.func107,Tryz.ntmps107
 go_wp2
 rw[Lib.run_neq_ptr_same w _ Tryz.underlying146 hj]
 go_wp2
 go_end0
 exact⟨rfl,rfl⟩
set_option maxHeartbeats 1000000 in
set_option maxRecDepth 100000 in
theorem cc107_fresh (b:Nat) (w:World) (h0:w.cell? ⟨b,0,none⟩=some (.pointer none)) (hsh:w.shape? b=some (149,2)) (hfz:w.frozen? ⟨b,0,none⟩=false) :
  Calls Tryz.prog 107 #[.pointer (some ⟨b,0,none⟩)] w fun e w'=>e=.returned (.tuple #[])/\w'=w.setCell ⟨b,0,none⟩ (.pointer (some ⟨b,0,none⟩)):=by
 obtain⟨j,hj,hjs⟩:=Option.map_eq_some_iff.1 (show(Tryz.prog.info? 149).map (·.size)=some 2 by kernel_rfl)
 go_enter Tryz.func107,Tryz.ntmps107
 go_wp2
 rw[Lib.run_to_unsafe w ⟨b,0,none⟩ Tryz.underlying146 Tryz.underlying182 hj (by rw[hjs];decide) hsh (Nat.zero_lt_succ 1)]
 simp only[Result.andThen];rw[Oper.upon_value]
 go_wp2
 rw[run_callFunc_extern Tryz.func127 (by kernel_rfl) (by kernel_rfl) (by kernel_rfl) (e:=Extern.AbiNoEscape.same) (by kernel_rfl)]
 rw[Lib.run_noEscape];simp only[Result.andThen];rw[Oper.upon_value]
 go_wp2
 rw[Lib.run_from_unsafe w ⟨b,0,none⟩ Tryz.underlying182 Tryz.underlying146 hj hsh (show liesAt Tryz.prog Tryz.prog.depth 149 (2 / Tryz.prog.cellsOf 149) 0 149 1=true by kernel_rfl)]
 simp only[Result.andThen];rw[Oper.upon_value]
 go_wp2
 go_end0
 exact⟨rfl,rfl⟩
theorem ccOk107:Zjm Tryz.prog 107 149:=Ziq (YE Tryz.func107 (c:=bodyOf Tryz.f107) rfl (by kernel_rfl)) cc107_used cc107_fresh
theorem leafOk108:Z4a Tryz.prog E.inv 108 Z3y:=Z9F (YE Tryz.func108 (c:=bodyOf Tryz.f108) rfl (by kernel_rfl)) fun s c w _=>Any.stringslite_IndexByte Tryz.lays217 s c w
theorem leafOk72:Z4a Tryz.prog E.inv 72 Z8R:=ZeC (YE Tryz.func72 (c:=bodyOf Tryz.f72) rfl (by kernel_rfl)) fun s q hs h1 w hi=>(let⟨m,hm⟩:=hi.1;Any.strings_Split { Tryz.laysM146 with } Tryz.laysM146.i9 s q m w hs hm h1)
theorem leafOk97:Z4a Tryz.prog E.inv 97 ZbQ:=Zgw (YE Tryz.func97 (c:=bodyOf Tryz.f97) rfl (by kernel_rfl)) fun s hm v hv w _=>Calls.mono (Any.strconv_Atoi_ok Tryz.laysC172 s hm v hv w) fun e w' h=>⟨h.1,by rcases h.2 with h2|⟨t,h2⟩<;>rw[h2]<;>first|exact Below.refl _ _|exact ZcI w _ t⟩
theorem leafOk79:Z4a Tryz.prog E.inv 79 ZbR:=Zgx (YE Tryz.func79 (c:=bodyOf Tryz.f79) rfl (by kernel_rfl)) fun n h0 h1 w hi=>Calls.mono (Any.strconv_Itoa Tryz.laysM171 n h0 h1 w (Eq.mp (congrArg (fun s=>Lib.TabIs Tryz.prog w s .u64 Lib.pow10Tab) (by kernel_rfl)) hi.2)) fun e w' h=>⟨h.1,by obtain⟨k,os,h2⟩:=h.2;rw[h2];exact Zel w k os⟩
theorem srtOk87:ZcB Tryz.prog 87 3:=Zi9 (YE Tryz.func87 (c:=bodyOf Tryz.f87) rfl (by kernel_rfl)) Tryz.lays189 (by kernel_rfl)
theorem clnOk102:∃ei,E.ty 54=some ei/\Z8d Tryz.prog 102 54 ei.size ei.bytes:=⟨⟨(.struct [(3,0),(3,1),(50,2)]),4,32,[(.int .i64 (0)),(.int .i64 (0)),(.int .i64 (0)),(.int .i64 (0))],true,true,[],false⟩,by kernel_rfl,Z6F (YE Tryz.func102 (c:=bodyOf Tryz.f102) rfl (by kernel_rfl)) Tryz.laysSlE041_f102 (by kernel_rfl) (by kernel_rfl) (Z7n (by kernel_rfl)) (by decide)⟩
theorem clnOk67:∃ei,E.ty 52=some ei/\Z8d Tryz.prog 67 52 ei.size ei.bytes:=⟨⟨(.struct [(3,0),(3,1),(50,2)]),4,32,[(.int .i64 (0)),(.int .i64 (0)),(.int .i64 (0)),(.int .i64 (0))],true,true,[],false⟩,by kernel_rfl,Z6F (YE Tryz.func67 (c:=bodyOf Tryz.f67) rfl (by kernel_rfl)) Tryz.laysSlE041_f67 (by kernel_rfl) (by kernel_rfl) (Z7n (by kernel_rfl)) (by decide)⟩
theorem clnOk60:∃ei,E.ty 110=some ei/\Z8d Tryz.prog 60 110 ei.size ei.bytes:=⟨⟨(.struct [(3,0),(3,1)]),2,16,[(.int .i64 (0)),(.int .i64 (0))],true,true,[],false⟩,by kernel_rfl,Z6F (YE Tryz.func60 (c:=bodyOf Tryz.f60) rfl (by kernel_rfl)) Tryz.laysSlE041_f60 (by kernel_rfl) (by kernel_rfl) (Z7n (by kernel_rfl)) (by decide)⟩
theorem clnOk33:∃ei,E.ty 50=some ei/\Z8d Tryz.prog 33 50 ei.size ei.bytes:=⟨⟨(.struct [(3,0),(3,1)]),2,16,[(.int .i64 (0)),(.int .i64 (0))],true,true,[],false⟩,by kernel_rfl,Z6F (YE Tryz.func33 (c:=bodyOf Tryz.f33) rfl (by kernel_rfl)) Tryz.laysSlE041_f33 (by kernel_rfl) (by kernel_rfl) (Z7n (by kernel_rfl)) (by decide)⟩
theorem clnAll:Zbs (fun g e=>∃ei,E.ty e=some ei/\Z8d Tryz.prog g e ei.size ei.bytes) clnT 1 0:=⟨⟨⟨trivial,trivial,⟨⟨⟨⟨trivial,clnOk67,trivial⟩,trivial,trivial⟩,trivial,trivial⟩,trivial,trivial⟩⟩,trivial,⟨⟨⟨⟨trivial,clnOk33,trivial⟩,trivial,trivial⟩,trivial,trivial⟩,trivial,trivial⟩⟩,trivial,⟨⟨trivial,trivial,⟨trivial,trivial,⟨trivial,trivial,⟨trivial,clnOk60,trivial⟩⟩⟩⟩,trivial,⟨trivial,trivial,⟨⟨⟨trivial,trivial,⟨trivial,clnOk102,trivial⟩⟩,trivial,trivial⟩,trivial,trivial⟩⟩⟩⟩
theorem srtAll:Zbs (fun g e=>ZcB Tryz.prog g e) srtT 1 0:=⟨⟨⟨⟨trivial,trivial,⟨trivial,trivial,⟨⟨trivial,srtOk87,trivial⟩,trivial,trivial⟩⟩⟩,trivial,trivial⟩,trivial,trivial⟩,trivial,trivial⟩
theorem leafAll:Zbs (fun g L=>Z4a Tryz.prog E.inv g L) leafT 1 0:=⟨⟨⟨⟨⟨trivial,trivial,⟨⟨trivial,leafOk79,trivial⟩,trivial,trivial⟩⟩,trivial,trivial⟩,trivial,trivial⟩,trivial,⟨⟨⟨⟨trivial,trivial,⟨trivial,leafOk97,trivial⟩⟩,trivial,trivial⟩,trivial,trivial⟩,trivial,trivial⟩⟩,trivial,⟨⟨⟨trivial,trivial,⟨⟨⟨trivial,leafOk72,trivial⟩,trivial,trivial⟩,trivial,trivial⟩⟩,trivial,⟨trivial,trivial,⟨⟨trivial,trivial,⟨trivial,leafOk108,trivial⟩⟩,trivial,trivial⟩⟩⟩,trivial,trivial⟩⟩
theorem ccAll:Zbs (fun g t=>Zjm Tryz.prog g t) ccT 1 0:=⟨⟨⟨trivial,trivial,⟨trivial,trivial,⟨⟨trivial,trivial,⟨trivial,ccOk107,trivial⟩⟩,trivial,trivial⟩⟩⟩,trivial,trivial⟩,trivial,trivial⟩
end Go.Proofs.YtjegmohjiejgeaaGreatDoor
namespace Go.Proofs.YtjegmohjiejgeaaGreatDoor
open Go.Ab Go.Proofs
theorem tyAll:Zeh (fun t i=>Zig Tryz.prog t i) tyT=true:=by kernel_rfl
theorem tabTy:∀t ti,E.ty t=some ti->ZL Tryz.prog t ti:=fun _ _ h=>Z7n (Z6z tyAll h)
theorem mixed:Tryz.prog.follows .mixedOrders=true:=by kernel_rfl
theorem fnOk_of {f : Nat} {fn : Func} {m : Nat} {hs : List Z3K} {pu : Bool} {xm : List (Nat × Nat)} {rm : Nat} {ca : Bool} {pb : List (Nat × Nat)} {mr : List (Nat × Nat × Nat × TypeId × Nat)} (hf : Tryz.prog.funcs[f]? = some fn) (hb : fn.body = some (bodyOf fn)) (hn : (fn.name == "runtime.NumGoroutine") = false) : ZD Tryz.prog f ⟨bodyOf fn, fn.ntmps, fn.results.toList, m, hs, pu, xm, rm, ca, pb, mr⟩ := ⟨⟨fn, hf, hb, rfl, rfl⟩, Go.Ab.YE hf hb hn⟩
theorem fnOk3:ZD Tryz.prog 3 g3:=fnOk_of Tryz.func3 rfl (by kernel_rfl)
theorem fnOk4:ZD Tryz.prog 4 g4:=fnOk_of Tryz.func4 rfl (by kernel_rfl)
theorem fnOk5:ZD Tryz.prog 5 g5:=fnOk_of Tryz.func5 rfl (by kernel_rfl)
theorem fnOk6:ZD Tryz.prog 6 g6:=fnOk_of Tryz.func6 rfl (by kernel_rfl)
theorem fnOk7:ZD Tryz.prog 7 g7:=fnOk_of Tryz.func7 rfl (by kernel_rfl)
theorem fnOk8:ZD Tryz.prog 8 g8:=fnOk_of Tryz.func8 rfl (by kernel_rfl)
theorem fnOk9:ZD Tryz.prog 9 g9:=fnOk_of Tryz.func9 rfl (by kernel_rfl)
theorem fnOk10:ZD Tryz.prog 10 g10:=fnOk_of Tryz.func10 rfl (by kernel_rfl)
theorem fnOk11:ZD Tryz.prog 11 g11:=fnOk_of Tryz.func11 rfl (by kernel_rfl)
theorem fnOk12:ZD Tryz.prog 12 g12:=fnOk_of Tryz.func12 rfl (by kernel_rfl)
theorem fnOk13:ZD Tryz.prog 13 g13:=fnOk_of Tryz.func13 rfl (by kernel_rfl)
theorem fnOk14:ZD Tryz.prog 14 g14:=fnOk_of Tryz.func14 rfl (by kernel_rfl)
theorem fnOk15:ZD Tryz.prog 15 g15:=fnOk_of Tryz.func15 rfl (by kernel_rfl)
theorem fnOk16:ZD Tryz.prog 16 g16:=fnOk_of Tryz.func16 rfl (by kernel_rfl)
theorem fnOk17:ZD Tryz.prog 17 g17:=fnOk_of Tryz.func17 rfl (by kernel_rfl)
theorem fnOk18:ZD Tryz.prog 18 g18:=fnOk_of Tryz.func18 rfl (by kernel_rfl)
theorem fnOk19:ZD Tryz.prog 19 g19:=fnOk_of Tryz.func19 rfl (by kernel_rfl)
theorem fnOk20:ZD Tryz.prog 20 g20:=fnOk_of Tryz.func20 rfl (by kernel_rfl)
theorem fnOk21:ZD Tryz.prog 21 g21:=fnOk_of Tryz.func21 rfl (by kernel_rfl)
theorem fnOk22:ZD Tryz.prog 22 g22:=fnOk_of Tryz.func22 rfl (by kernel_rfl)
theorem fnOk23:ZD Tryz.prog 23 g23:=fnOk_of Tryz.func23 rfl (by kernel_rfl)
theorem fnOk24:ZD Tryz.prog 24 g24:=fnOk_of Tryz.func24 rfl (by kernel_rfl)
theorem fnOk25:ZD Tryz.prog 25 g25:=fnOk_of Tryz.func25 rfl (by kernel_rfl)
theorem fnOk26:ZD Tryz.prog 26 g26:=fnOk_of Tryz.func26 rfl (by kernel_rfl)
theorem fnOk27:ZD Tryz.prog 27 g27:=fnOk_of Tryz.func27 rfl (by kernel_rfl)
theorem fnOk28:ZD Tryz.prog 28 g28:=fnOk_of Tryz.func28 rfl (by kernel_rfl)
theorem fnOk29:ZD Tryz.prog 29 g29:=fnOk_of Tryz.func29 rfl (by kernel_rfl)
theorem fnOk30:ZD Tryz.prog 30 g30:=fnOk_of Tryz.func30 rfl (by kernel_rfl)
theorem fnOk31:ZD Tryz.prog 31 g31:=fnOk_of Tryz.func31 rfl (by kernel_rfl)
theorem fnOk32:ZD Tryz.prog 32 g32:=fnOk_of Tryz.func32 rfl (by kernel_rfl)
theorem fnOk34:ZD Tryz.prog 34 g34:=fnOk_of Tryz.func34 rfl (by kernel_rfl)
theorem fnOk35:ZD Tryz.prog 35 g35:=fnOk_of Tryz.func35 rfl (by kernel_rfl)
theorem fnOk36:ZD Tryz.prog 36 g36:=fnOk_of Tryz.func36 rfl (by kernel_rfl)
theorem fnOk37:ZD Tryz.prog 37 g37:=fnOk_of Tryz.func37 rfl (by kernel_rfl)
theorem fnOk38:ZD Tryz.prog 38 g38:=fnOk_of Tryz.func38 rfl (by kernel_rfl)
theorem fnOk39:ZD Tryz.prog 39 g39:=fnOk_of Tryz.func39 rfl (by kernel_rfl)
theorem fnOk40:ZD Tryz.prog 40 g40:=fnOk_of Tryz.func40 rfl (by kernel_rfl)
theorem fnOk41:ZD Tryz.prog 41 g41:=fnOk_of Tryz.func41 rfl (by kernel_rfl)
theorem fnOk42:ZD Tryz.prog 42 g42:=fnOk_of Tryz.func42 rfl (by kernel_rfl)
theorem fnOk43:ZD Tryz.prog 43 g43:=fnOk_of Tryz.func43 rfl (by kernel_rfl)
theorem fnOk44:ZD Tryz.prog 44 g44:=fnOk_of Tryz.func44 rfl (by kernel_rfl)
theorem fnOk45:ZD Tryz.prog 45 g45:=fnOk_of Tryz.func45 rfl (by kernel_rfl)
theorem fnOk46:ZD Tryz.prog 46 g46:=fnOk_of Tryz.func46 rfl (by kernel_rfl)
theorem fnOk47:ZD Tryz.prog 47 g47:=fnOk_of Tryz.func47 rfl (by kernel_rfl)
theorem fnOk48:ZD Tryz.prog 48 g48:=fnOk_of Tryz.func48 rfl (by kernel_rfl)
theorem fnOk49:ZD Tryz.prog 49 g49:=fnOk_of Tryz.func49 rfl (by kernel_rfl)
theorem fnOk50:ZD Tryz.prog 50 g50:=fnOk_of Tryz.func50 rfl (by kernel_rfl)
theorem fnOk51:ZD Tryz.prog 51 g51:=fnOk_of Tryz.func51 rfl (by kernel_rfl)
theorem fnOk52:ZD Tryz.prog 52 g52:=fnOk_of Tryz.func52 rfl (by kernel_rfl)
theorem fnOk53:ZD Tryz.prog 53 g53:=fnOk_of Tryz.func53 rfl (by kernel_rfl)
theorem fnOk54:ZD Tryz.prog 54 g54:=fnOk_of Tryz.func54 rfl (by kernel_rfl)
theorem fnOk55:ZD Tryz.prog 55 g55:=fnOk_of Tryz.func55 rfl (by kernel_rfl)
theorem fnOk56:ZD Tryz.prog 56 g56:=fnOk_of Tryz.func56 rfl (by kernel_rfl)
theorem fnOk57:ZD Tryz.prog 57 g57:=fnOk_of Tryz.func57 rfl (by kernel_rfl)
theorem fnOk58:ZD Tryz.prog 58 g58:=fnOk_of Tryz.func58 rfl (by kernel_rfl)
theorem fnOk59:ZD Tryz.prog 59 g59:=fnOk_of Tryz.func59 rfl (by kernel_rfl)
theorem fnOk61:ZD Tryz.prog 61 g61:=fnOk_of Tryz.func61 rfl (by kernel_rfl)
theorem fnOk62:ZD Tryz.prog 62 g62:=fnOk_of Tryz.func62 rfl (by kernel_rfl)
theorem fnOk63:ZD Tryz.prog 63 g63:=fnOk_of Tryz.func63 rfl (by kernel_rfl)
theorem fnOk64:ZD Tryz.prog 64 g64:=fnOk_of Tryz.func64 rfl (by kernel_rfl)
theorem fnOk65:ZD Tryz.prog 65 g65:=fnOk_of Tryz.func65 rfl (by kernel_rfl)
theorem fnOk66:ZD Tryz.prog 66 g66:=fnOk_of Tryz.func66 rfl (by kernel_rfl)
theorem fnOk68:ZD Tryz.prog 68 g68:=fnOk_of Tryz.func68 rfl (by kernel_rfl)
theorem fnOk69:ZD Tryz.prog 69 g69:=fnOk_of Tryz.func69 rfl (by kernel_rfl)
theorem fnOk71:ZD Tryz.prog 71 g71:=fnOk_of Tryz.func71 rfl (by kernel_rfl)
theorem fnOk73:ZD Tryz.prog 73 g73:=fnOk_of Tryz.func73 rfl (by kernel_rfl)
theorem fnOk74:ZD Tryz.prog 74 g74:=fnOk_of Tryz.func74 rfl (by kernel_rfl)
theorem fnOk75:ZD Tryz.prog 75 g75:=fnOk_of Tryz.func75 rfl (by kernel_rfl)
theorem fnOk76:ZD Tryz.prog 76 g76:=fnOk_of Tryz.func76 rfl (by kernel_rfl)
theorem fnOk77:ZD Tryz.prog 77 g77:=fnOk_of Tryz.func77 rfl (by kernel_rfl)
theorem fnOk78:ZD Tryz.prog 78 g78:=fnOk_of Tryz.func78 rfl (by kernel_rfl)
theorem fnOk80:ZD Tryz.prog 80 g80:=fnOk_of Tryz.func80 rfl (by kernel_rfl)
theorem fnOk81:ZD Tryz.prog 81 g81:=fnOk_of Tryz.func81 rfl (by kernel_rfl)
theorem fnOk82:ZD Tryz.prog 82 g82:=fnOk_of Tryz.func82 rfl (by kernel_rfl)
theorem fnOk83:ZD Tryz.prog 83 g83:=fnOk_of Tryz.func83 rfl (by kernel_rfl)
theorem fnOk84:ZD Tryz.prog 84 g84:=fnOk_of Tryz.func84 rfl (by kernel_rfl)
theorem fnOk85:ZD Tryz.prog 85 g85:=fnOk_of Tryz.func85 rfl (by kernel_rfl)
theorem fnOk86:ZD Tryz.prog 86 g86:=fnOk_of Tryz.func86 rfl (by kernel_rfl)
theorem fnOk88:ZD Tryz.prog 88 g88:=fnOk_of Tryz.func88 rfl (by kernel_rfl)
theorem fnOk89:ZD Tryz.prog 89 g89:=fnOk_of Tryz.func89 rfl (by kernel_rfl)
theorem fnOk90:ZD Tryz.prog 90 g90:=fnOk_of Tryz.func90 rfl (by kernel_rfl)
theorem fnOk91:ZD Tryz.prog 91 g91:=fnOk_of Tryz.func91 rfl (by kernel_rfl)
theorem fnOk92:ZD Tryz.prog 92 g92:=fnOk_of Tryz.func92 rfl (by kernel_rfl)
theorem fnOk93:ZD Tryz.prog 93 g93:=fnOk_of Tryz.func93 rfl (by kernel_rfl)
theorem fnOk94:ZD Tryz.prog 94 g94:=fnOk_of Tryz.func94 rfl (by kernel_rfl)
theorem fnOk96:ZD Tryz.prog 96 g96:=fnOk_of Tryz.func96 rfl (by kernel_rfl)
theorem fnOk98:ZD Tryz.prog 98 g98:=fnOk_of Tryz.func98 rfl (by kernel_rfl)
theorem fnOk99:ZD Tryz.prog 99 g99:=fnOk_of Tryz.func99 rfl (by kernel_rfl)
theorem fnOk101:ZD Tryz.prog 101 g101:=fnOk_of Tryz.func101 rfl (by kernel_rfl)
theorem fnOk105:ZD Tryz.prog 105 g105:=fnOk_of Tryz.func105 rfl (by kernel_rfl)
theorem fnOk106:ZD Tryz.prog 106 g106:=fnOk_of Tryz.func106 rfl (by kernel_rfl)
theorem fnOk112:ZD Tryz.prog 112 g112:=fnOk_of Tryz.func112 rfl (by kernel_rfl)
theorem fnAll:Zbs (fun f F=>ZD Tryz.prog f F) fnT 1 0:=⟨⟨⟨⟨⟨⟨⟨trivial,fnOk63,trivial⟩,fnOk31,trivial⟩,fnOk15,⟨trivial,fnOk47,trivial⟩⟩,fnOk7,⟨⟨⟨trivial,fnOk71,trivial⟩,fnOk39,trivial⟩,fnOk23,⟨trivial,fnOk55,trivial⟩⟩⟩,fnOk3,⟨⟨⟨trivial,fnOk35,⟨trivial,fnOk99,trivial⟩⟩,fnOk19,⟨⟨trivial,fnOk83,trivial⟩,fnOk51,trivial⟩⟩,fnOk11,⟨⟨⟨trivial,fnOk75,trivial⟩,fnOk43,trivial⟩,fnOk27,⟨⟨trivial,fnOk91,trivial⟩,fnOk59,trivial⟩⟩⟩⟩,trivial,⟨⟨⟨⟨⟨trivial,fnOk65,trivial⟩,trivial,trivial⟩,fnOk17,⟨⟨trivial,fnOk81,trivial⟩,fnOk49,trivial⟩⟩,fnOk9,⟨⟨⟨trivial,fnOk73,trivial⟩,fnOk41,⟨trivial,fnOk105,trivial⟩⟩,fnOk25,⟨⟨trivial,fnOk89,trivial⟩,fnOk57,trivial⟩⟩⟩,fnOk5,⟨⟨⟨⟨trivial,fnOk69,trivial⟩,fnOk37,⟨trivial,fnOk101,trivial⟩⟩,fnOk21,⟨⟨trivial,fnOk85,trivial⟩,fnOk53,trivial⟩⟩,fnOk13,⟨⟨⟨trivial,fnOk77,trivial⟩,fnOk45,trivial⟩,fnOk29,⟨⟨trivial,fnOk93,trivial⟩,fnOk61,trivial⟩⟩⟩⟩⟩,trivial,⟨⟨⟨⟨⟨⟨trivial,fnOk64,trivial⟩,fnOk32,⟨trivial,fnOk96,trivial⟩⟩,fnOk16,⟨⟨trivial,fnOk80,trivial⟩,fnOk48,⟨trivial,fnOk112,trivial⟩⟩⟩,fnOk8,⟨⟨trivial,fnOk40,trivial⟩,fnOk24,⟨⟨trivial,fnOk88,trivial⟩,fnOk56,trivial⟩⟩⟩,fnOk4,⟨⟨⟨⟨trivial,fnOk68,trivial⟩,fnOk36,trivial⟩,fnOk20,⟨⟨trivial,fnOk84,trivial⟩,fnOk52,trivial⟩⟩,fnOk12,⟨⟨⟨trivial,fnOk76,trivial⟩,fnOk44,trivial⟩,fnOk28,⟨⟨trivial,fnOk92,trivial⟩,trivial,trivial⟩⟩⟩⟩,trivial,⟨⟨⟨⟨⟨trivial,fnOk66,trivial⟩,fnOk34,⟨trivial,fnOk98,trivial⟩⟩,fnOk18,⟨⟨trivial,fnOk82,trivial⟩,fnOk50,trivial⟩⟩,fnOk10,⟨⟨⟨trivial,fnOk74,trivial⟩,fnOk42,⟨trivial,fnOk106,trivial⟩⟩,fnOk26,⟨⟨trivial,fnOk90,trivial⟩,fnOk58,trivial⟩⟩⟩,fnOk6,⟨⟨⟨trivial,fnOk38,trivial⟩,fnOk22,⟨⟨trivial,fnOk86,trivial⟩,fnOk54,trivial⟩⟩,fnOk14,⟨⟨⟨trivial,fnOk78,trivial⟩,fnOk46,trivial⟩,fnOk30,⟨⟨trivial,fnOk94,trivial⟩,fnOk62,trivial⟩⟩⟩⟩⟩⟩
theorem tabFn:Z8e Tryz.prog E where
 fn:=fun _ _ h=>Z3O fnAll h
 leaf:=fun _ _ xs d h=>Z3O leafAll h xs d
 dfr:=fun g h=>by
  unfold E at h;simp only[Bool.or_eq_true]at h;exact Nat.eq_of_beq_eq_true h▸dfr70
 cc:=fun _ _ h=>Z3O ccAll h
 cln:=fun _ _ h=>Z3O clnAll h
 srt:=fun _ _ h=>Z3O srtAll h
end Go.Proofs.YtjegmohjiejgeaaGreatDoor
