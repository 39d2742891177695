/- The tables of the program, and that they are right. -/
import Derived.Test.YtlngokonhalcdaaGreatDoorA3
import Derived.Test.YtlngokonhalcdaaGreatDoorL
import Derived.Test.YtlngokonhalcdaaGreatDoorProg
import Derived.Shelf.LaysM
import Derived.Shelf.LaysC
import Derived.Shelf.Strconv.Itoa3
import Derived.Shelf.Strconv.AtoiAll
import Derived.Shelf.Strings.Shaped
import Derived.Shelf.Strings.SplitShaped
import Derived.Shelf.Strings.Search1
import Derived.Shelf.SlicesE.Clone
import Derived.Shelf.Sort.Plain
import Derived.Shelf.Slices.In.SortNone
import Derived.Ground.SlgnProg
import Derived.Shelf.Strings.Builder1
import Derived.Lib.Walk
import Derived.TacticsInMore
import Derived.RegionIn
import Derived.RecoverIn
import Derived.KernelRfl
set_option linter.unusedSectionVars false
set_option linter.unusedVariables false
set_option linter.unusedSimpArgs false
namespace Go.Proofs.YtlngokonhalcdaaGreatDoor
open Go.Ab Go.Proofs
def tyT : Tr TI := (.node (.node (.node (.node (.node (.node (.node (.node (.node .leaf (some ⟨(.struct [(5, 0), (5, 1)]), 2, 2, [(.int .u8 (0)), (.int .u8 (0))], true, true, [], false⟩) .leaf) none .leaf) (some ⟨(.struct [(38, 0), (62, 4)]), 5, 56, [(.int .i64 (0)), (.int .i64 (0)), (.int .i64 (0)), (.int .i64 (0)), .nils], false, false, [], false⟩) .leaf) none .leaf) none (.node (.node (.node .leaf (some ⟨.func, 1, 8, [.nilfn], false, false, [], false⟩) .leaf) (some ⟨(.struct [(9, 0), (3, 1), (3, 2)]), 3, 32, [(.str ⟨#[]⟩), (.int .i64 (0)), (.int .i64 (0))], true, true, [], false⟩) .leaf) none .leaf)) (some ⟨(.struct [(2, 0), (3, 1), (4, 2), (6, 3)]), 4, 24, [(.int .i64 (0)), (.int .i64 (0)), (.bool false), (.int .u8 (0))], true, true, [], false⟩) (.node (.node (.node (.node (.node .leaf (some ⟨(.struct [(9, 0)]), 1, 16, [(.str ⟨#[]⟩)], true, true, [], false⟩) .leaf) none .leaf) (some ⟨(.slice 74), 1, 24, [.nils], false, false, [], false⟩) .leaf) none .leaf) (some ⟨(.slice 67), 1, 24, [.nils], false, false, [], false⟩) (.node (.node (.node .leaf (some ⟨(.struct [(28, 0), (28, 1), (150, 2)]), 3, 72, [.nils, .nils, .nils], false, false, [], false⟩) .leaf) none .leaf) none .leaf))) (some ⟨(.int .i64), 1, 8, [(.int .i64 (0))], false, false, [], false⟩) (.node (.node (.node (.node (.node .leaf (some ⟨(.array 10 36), 20, 160, [(.int .i64 (0)), (.int .i64 (0)), (.int .i64 (0)), (.int .i64 (0)), (.int .i64 (0)), (.int .i64 (0)), (.int .i64 (0)), (.int .i64 (0)), (.int .i64 (0)), (.int .i64 (0)), (.int .i64 (0)), (.int .i64 (0)), (.int .i64 (0)), (.int .i64 (0)), (.int .i64 (0)), (.int .i64 (0)), (.int .i64 (0)), (.int .i64 (0)), (.int .i64 (0)), (.int .i64 (0))], true, false, [], false⟩) .leaf) (some ⟨(.struct [(3, 0), (3, 1), (36, 2)]), 4, 32, [(.int .i64 (0)), (.int .i64 (0)), (.int .i64 (0)), (.int .i64 (0))], true, true, [], false⟩) (.node .leaf (some ⟨(.int .u64), 1, 8, [(.int .u64 (0))], false, false, [], false⟩) .leaf)) (some ⟨(.struct [(3, 0), (3, 1)]), 2, 16, [(.int .i64 (0)), (.int .i64 (0))], true, true, [], false⟩) (.node (.node .leaf (some ⟨(.struct [(161, 0), (62, 1)]), 2, 32, [.nilp, .nils], false, false, [], false⟩) .leaf) none .leaf)) none (.node (.node (.node (.node .leaf (some ⟨(.int .i32), 1, 4, [(.int .i32 (0))], false, false, [], false⟩) .leaf) (some ⟨.func, 1, 8, [.nilfn], false, false, [], false⟩) .leaf) none .leaf) none (.node (.node .leaf (some ⟨(.struct [(3, 0), (3, 1)]), 2, 16, [(.int .i64 (0)), (.int .i64 (0))], true, true, [], false⟩) .leaf) none .leaf))) (some ⟨.string, 1, 16, [(.str ⟨#[]⟩)], false, false, [], false⟩) (.node (.node (.node (.node .leaf (some ⟨.func, 1, 8, [.nilfn], false, false, [], false⟩) .leaf) (some ⟨(.array 3 74), 3, 6, [(.int .u16 (0)), (.int .u16 (0)), (.int .u16 (0))], true, false, [], false⟩) .leaf) none (.node (.node .leaf (some ⟨.func, 1, 8, [.nilfn], false, false, [], false⟩) .leaf) none (.node .leaf (some ⟨(.int .u64), 1, 8, [(.int .u64 (0))], false, false, [], false⟩) .leaf))) (some ⟨(.array 2 3), 2, 16, [(.int .i64 (0)), (.int .i64 (0))], true, false, [], false⟩) (.node (.node .leaf none (.node .leaf (some ⟨(.int .u64), 1, 8, [(.int .u64 (0))], false, false, [], false⟩) .leaf)) none .leaf)))) (some ⟨.func, 1, 8, [.nilfn], false, false, [], false⟩) (.node (.node (.node (.node (.node (.node (.node .leaf (some ⟨(.array 16 256), 32, 32, [(.int .u8 (0)), (.int .u8 (0)), (.int .u8 (0)), (.int .u8 (0)), (.int .u8 (0)), (.int .u8 (0)), (.int .u8 (0)), (.int .u8 (0)), (.int .u8 (0)), (.int .u8 (0)), (.int .u8 (0)), (.int .u8 (0)), (.int .u8 (0)), (.int .u8 (0)), (.int .u8 (0)), (.int .u8 (0)), (.int .u8 (0)), (.int .u8 (0)), (.int .u8 (0)), (.int .u8 (0)), (.int .u8 (0)), (.int .u8 (0)), (.int .u8 (0)), (.int .u8 (0)), (.int .u8 (0)), (.int .u8 (0)), (.int .u8 (0)), (.int .u8 (0)), (.int .u8 (0)), (.int .u8 (0)), (.int .u8 (0)), (.int .u8 (0))], true, false, [], false⟩) .leaf) none .leaf) none .leaf) none (.node (.node .leaf (some ⟨(.ptr 163), 1, 8, [.nilp], false, false, [], false⟩) .leaf) (some ⟨(.struct [(25, 0), (26, 2)]), 3, 72, [.nils, .nils, .nils], false, false, [], false⟩) .leaf)) none (.node (.node (.node (.node .leaf (some ⟨(.int .u8), 1, 1, [(.int .u8 (0))], false, false, [], false⟩) .leaf) none .leaf) none .leaf) none (.node (.node .leaf (some ⟨.func, 1, 8, [.nilfn], false, false, [], false⟩) .leaf) (some ⟨.func, 1, 8, [.nilfn], false, false, [], false⟩) .leaf))) (some ⟨.string, 1, 16, [(.str ⟨#[]⟩)], false, false, [], false⟩) (.node (.node (.node (.node (.node .leaf (some ⟨(.array 64 5), 64, 64, [(.int .u8 (0)), (.int .u8 (0)), (.int .u8 (0)), (.int .u8 (0)), (.int .u8 (0)), (.int .u8 (0)), (.int .u8 (0)), (.int .u8 (0)), (.int .u8 (0)), (.int .u8 (0)), (.int .u8 (0)), (.int .u8 (0)), (.int .u8 (0)), (.int .u8 (0)), (.int .u8 (0)), (.int .u8 (0)), (.int .u8 (0)), (.int .u8 (0)), (.int .u8 (0)), (.int .u8 (0)), (.int .u8 (0)), (.int .u8 (0)), (.int .u8 (0)), (.int .u8 (0)), (.int .u8 (0)), (.int .u8 (0)), (.int .u8 (0)), (.int .u8 (0)), (.int .u8 (0)), (.int .u8 (0)), (.int .u8 (0)), (.int .u8 (0)), (.int .u8 (0)), (.int .u8 (0)), (.int .u8 (0)), (.int .u8 (0)), (.int .u8 (0)), (.int .u8 (0)), (.int .u8 (0)), (.int .u8 (0)), (.int .u8 (0)), (.int .u8 (0)), (.int .u8 (0)), (.int .u8 (0)), (.int .u8 (0)), (.int .u8 (0)), (.int .u8 (0)), (.int .u8 (0)), (.int .u8 (0)), (.int .u8 (0)), (.int .u8 (0)), (.int .u8 (0)), (.int .u8 (0)), (.int .u8 (0)), (.int .u8 (0)), (.int .u8 (0)), (.int .u8 (0)), (.int .u8 (0)), (.int .u8 (0)), (.int .u8 (0)), (.int .u8 (0)), (.int .u8 (0)), (.int .u8 (0)), (.int .u8 (0))], true, false, [], false⟩) .leaf) (some ⟨.func, 1, 8, [.nilfn], false, false, [], false⟩) .leaf) (some ⟨(.struct [(71, 0), (71, 1)]), 2, 48, [.nils, .nils], false, false, [], false⟩) .leaf) none .leaf) (some ⟨(.struct [(22, 0), (23, 1)]), 2, 48, [.nils, .nils], false, false, [], false⟩) (.node (.node .leaf none (.node .leaf (some ⟨(.int .u32), 1, 4, [(.int .u32 (0))], false, false, [], false⟩) .leaf)) none (.node .leaf none (.node .leaf (some ⟨(.array 20 219), 20, 160, [(.int .u64 (0)), (.int .u64 (0)), (.int .u64 (0)), (.int .u64 (0)), (.int .u64 (0)), (.int .u64 (0)), (.int .u64 (0)), (.int .u64 (0)), (.int .u64 (0)), (.int .u64 (0)), (.int .u64 (0)), (.int .u64 (0)), (.int .u64 (0)), (.int .u64 (0)), (.int .u64 (0)), (.int .u64 (0)), (.int .u64 (0)), (.int .u64 (0)), (.int .u64 (0)), (.int .u64 (0))], true, false, [], false⟩) .leaf))))) (some ⟨(.int .u8), 1, 1, [(.int .u8 (0))], false, false, [], false⟩) (.node (.node (.node (.node (.node .leaf (some ⟨.func, 1, 8, [.nilfn], false, false, [], false⟩) .leaf) none (.node .leaf (some ⟨(.ptr 5), 1, 8, [.nilp], false, false, [], false⟩) .leaf)) (some ⟨(.struct [(3, 0), (3, 1), (36, 2)]), 4, 32, [(.int .i64 (0)), (.int .i64 (0)), (.int .i64 (0)), (.int .i64 (0))], true, true, [], false⟩) (.node (.node .leaf (some ⟨.iface, 1, 16, [.nilif], false, false, [], false⟩) .leaf) none .leaf)) (some ⟨(.int .i32), 1, 4, [(.int .i32 (0))], false, false, [], false⟩) .leaf) (some ⟨(.struct [(9, 0), (12, 1)]), 2, 24, [(.str ⟨#[]⟩), (.int .u64 (0))], false, false, [], false⟩) (.node (.node (.node .leaf none (.node .leaf (some ⟨.func, 1, 8, [.nilfn], false, false, [], false⟩) .leaf)) none (.node (.node .leaf (some ⟨(.slice 180), 1, 24, [.nils], false, false, [], false⟩) .leaf) none .leaf)) (some ⟨(.int .i64), 1, 8, [(.int .i64 (0))], false, false, [], false⟩) (.node (.node (.node .leaf (some ⟨(.map 3 3), 1, 8, [.nilmap], false, false, [], false⟩) .leaf) none .leaf) (some ⟨(.struct [(26, 0), (38, 1)]), 5, 56, [.nils, (.int .i64 (0)), (.int .i64 (0)), (.int .i64 (0)), (.int .i64 (0))], false, false, [], false⟩) (.node (.node .leaf (some ⟨(.struct [(3, 0), (3, 1)]), 2, 16, [(.int .i64 (0)), (.int .i64 (0))], true, true, [], false⟩) .leaf) none .leaf)))))) none (.node (.node (.node (.node (.node (.node (.node (.node .leaf (some ⟨(.struct [(5, 0), (5, 1)]), 2, 2, [(.int .u8 (0)), (.int .u8 (0))], true, true, [], false⟩) .leaf) none .leaf) (some ⟨(.struct [(38, 0), (62, 4)]), 5, 56, [(.int .i64 (0)), (.int .i64 (0)), (.int .i64 (0)), (.int .i64 (0)), .nils], false, false, [], false⟩) .leaf) none (.node .leaf (some ⟨(.struct [(25, 0), (26, 2)]), 3, 72, [.nils, .nils, .nils], false, false, [], false⟩) (.node .leaf (some ⟨(.int .i64), 1, 8, [(.int .i64 (0))], false, false, [], false⟩) .leaf))) none (.node (.node (.node (.node .leaf (some ⟨(.int .u8), 1, 1, [(.int .u8 (0))], false, false, [], false⟩) .leaf) none .leaf) none (.node .leaf (some ⟨(.int .i64), 1, 8, [(.int .i64 (0))], false, false, [], false⟩) .leaf)) none (.node (.node .leaf (some ⟨.func, 1, 8, [.nilfn], false, false, [], false⟩) .leaf) none .leaf))) (some ⟨(.struct [(2, 0), (3, 1), (4, 2), (6, 3)]), 4, 24, [(.int .i64 (0)), (.int .i64 (0)), (.bool false), (.int .u8 (0))], true, true, [], false⟩) (.node (.node (.node (.node (.node .leaf (some ⟨(.array 32 5), 32, 32, [(.int .u8 (0)), (.int .u8 (0)), (.int .u8 (0)), (.int .u8 (0)), (.int .u8 (0)), (.int .u8 (0)), (.int .u8 (0)), (.int .u8 (0)), (.int .u8 (0)), (.int .u8 (0)), (.int .u8 (0)), (.int .u8 (0)), (.int .u8 (0)), (.int .u8 (0)), (.int .u8 (0)), (.int .u8 (0)), (.int .u8 (0)), (.int .u8 (0)), (.int .u8 (0)), (.int .u8 (0)), (.int .u8 (0)), (.int .u8 (0)), (.int .u8 (0)), (.int .u8 (0)), (.int .u8 (0)), (.int .u8 (0)), (.int .u8 (0)), (.int .u8 (0)), (.int .u8 (0)), (.int .u8 (0)), (.int .u8 (0)), (.int .u8 (0))], true, false, [], false⟩) .leaf) none .leaf) (some ⟨(.struct [(71, 0), (71, 1)]), 2, 48, [.nils, .nils], false, false, [], false⟩) .leaf) none (.node (.node .leaf (some ⟨.func, 1, 8, [.nilfn], false, false, [], false⟩) .leaf) none .leaf)) (some ⟨(.struct [(22, 0), (23, 1)]), 2, 48, [.nils, .nils], false, false, [], false⟩) (.node (.node (.node .leaf (some ⟨(.struct [(28, 0), (28, 1), (150, 2)]), 3, 72, [.nils, .nils, .nils], false, false, [], false⟩) .leaf) none .leaf) none .leaf))) (some ⟨.bool, 1, 1, [(.bool false)], false, false, [], false⟩) (.node (.node (.node (.node (.node .leaf (some ⟨.func, 1, 8, [.nilfn], false, false, [], false⟩) .leaf) none .leaf) (some ⟨(.struct [(3, 0), (3, 1)]), 2, 16, [(.int .i64 (0)), (.int .i64 (0))], true, true, [], false⟩) .leaf) (some ⟨.iface, 1, 16, [.nilif], false, false, [], false⟩) (.node (.node (.node (.node .leaf (some ⟨(.int .i32), 1, 4, [(.int .i32 (0))], false, false, [], false⟩) .leaf) (some ⟨(.slice 152), 1, 24, [.nils], false, false, [], false⟩) .leaf) none .leaf) (some ⟨(.slice 36), 1, 24, [.nils], false, false, [], false⟩) (.node (.node .leaf (some ⟨(.struct [(3, 0), (3, 1)]), 2, 16, [(.int .i64 (0)), (.int .i64 (0))], true, true, [], false⟩) .leaf) (some ⟨(.slice 9), 1, 24, [.nils], false, false, [], false⟩) .leaf))) (some ⟨(.int .u64), 1, 8, [(.int .u64 (0))], false, false, [], false⟩) (.node (.node (.node (.node .leaf (some ⟨.func, 1, 8, [.nilfn], false, false, [], false⟩) .leaf) none (.node .leaf (some ⟨.func, 1, 8, [.nilfn], false, false, [], false⟩) .leaf)) none (.node (.node .leaf (some ⟨.func, 1, 8, [.nilfn], false, false, [], false⟩) .leaf) none .leaf)) (some ⟨(.slice 3), 1, 24, [.nils], false, false, [], false⟩) (.node (.node (.node .leaf (some ⟨.func, 1, 8, [.nilfn], false, false, [], false⟩) .leaf) none .leaf) (some ⟨(.struct [(26, 0), (38, 1)]), 5, 56, [.nils, (.int .i64 (0)), (.int .i64 (0)), (.int .i64 (0)), (.int .i64 (0))], false, false, [], false⟩) .leaf)))) (some ⟨(.int .i64), 1, 8, [(.int .i64 (0))], false, false, [], false⟩) (.node (.node (.node (.node (.node (.node .leaf (some ⟨(.array 10 36), 20, 160, [(.int .i64 (0)), (.int .i64 (0)), (.int .i64 (0)), (.int .i64 (0)), (.int .i64 (0)), (.int .i64 (0)), (.int .i64 (0)), (.int .i64 (0)), (.int .i64 (0)), (.int .i64 (0)), (.int .i64 (0)), (.int .i64 (0)), (.int .i64 (0)), (.int .i64 (0)), (.int .i64 (0)), (.int .i64 (0)), (.int .i64 (0)), (.int .i64 (0)), (.int .i64 (0)), (.int .i64 (0))], true, false, [], false⟩) .leaf) none .leaf) none .leaf) none (.node .leaf none (.node .leaf (some ⟨.func, 1, 8, [.nilfn], false, false, [], false⟩) .leaf))) (some ⟨.string, 1, 16, [(.str ⟨#[]⟩)], false, false, [], false⟩) (.node (.node (.node .leaf (some ⟨(.int .u16), 1, 2, [(.int .u16 (0))], false, false, [], false⟩) .leaf) none .leaf) (some ⟨(.slice 38), 1, 24, [.nils], false, false, [], false⟩) (.node (.node .leaf (some ⟨(.array 4 74), 4, 8, [(.int .u16 (0)), (.int .u16 (0)), (.int .u16 (0)), (.int .u16 (0))], true, false, [], false⟩) .leaf) none (.node .leaf none (.node .leaf (some ⟨(.array 65 5), 65, 65, [(.int .u8 (0)), (.int .u8 (0)), (.int .u8 (0)), (.int .u8 (0)), (.int .u8 (0)), (.int .u8 (0)), (.int .u8 (0)), (.int .u8 (0)), (.int .u8 (0)), (.int .u8 (0)), (.int .u8 (0)), (.int .u8 (0)), (.int .u8 (0)), (.int .u8 (0)), (.int .u8 (0)), (.int .u8 (0)), (.int .u8 (0)), (.int .u8 (0)), (.int .u8 (0)), (.int .u8 (0)), (.int .u8 (0)), (.int .u8 (0)), (.int .u8 (0)), (.int .u8 (0)), (.int .u8 (0)), (.int .u8 (0)), (.int .u8 (0)), (.int .u8 (0)), (.int .u8 (0)), (.int .u8 (0)), (.int .u8 (0)), (.int .u8 (0)), (.int .u8 (0)), (.int .u8 (0)), (.int .u8 (0)), (.int .u8 (0)), (.int .u8 (0)), (.int .u8 (0)), (.int .u8 (0)), (.int .u8 (0)), (.int .u8 (0)), (.int .u8 (0)), (.int .u8 (0)), (.int .u8 (0)), (.int .u8 (0)), (.int .u8 (0)), (.int .u8 (0)), (.int .u8 (0)), (.int .u8 (0)), (.int .u8 (0)), (.int .u8 (0)), (.int .u8 (0)), (.int .u8 (0)), (.int .u8 (0)), (.int .u8 (0)), (.int .u8 (0)), (.int .u8 (0)), (.int .u8 (0)), (.int .u8 (0)), (.int .u8 (0)), (.int .u8 (0)), (.int .u8 (0)), (.int .u8 (0)), (.int .u8 (0)), (.int .u8 (0))], true, false, [], false⟩) .leaf))))) (some ⟨(.int .u8), 1, 1, [(.int .u8 (0))], false, false, [], false⟩) (.node (.node (.node (.node (.node (.node .leaf (some ⟨(.struct [(9, 0)]), 1, 16, [(.str ⟨#[]⟩)], true, true, [], false⟩) .leaf) none .leaf) none .leaf) (some ⟨(.struct [(3, 0), (3, 1), (36, 2)]), 4, 32, [(.int .i64 (0)), (.int .i64 (0)), (.int .i64 (0)), (.int .i64 (0))], true, true, [], false⟩) (.node .leaf none (.node .leaf (some ⟨(.array 24 5), 24, 24, [(.int .u8 (0)), (.int .u8 (0)), (.int .u8 (0)), (.int .u8 (0)), (.int .u8 (0)), (.int .u8 (0)), (.int .u8 (0)), (.int .u8 (0)), (.int .u8 (0)), (.int .u8 (0)), (.int .u8 (0)), (.int .u8 (0)), (.int .u8 (0)), (.int .u8 (0)), (.int .u8 (0)), (.int .u8 (0)), (.int .u8 (0)), (.int .u8 (0)), (.int .u8 (0)), (.int .u8 (0)), (.int .u8 (0)), (.int .u8 (0)), (.int .u8 (0)), (.int .u8 (0))], true, false, [], false⟩) .leaf))) (some ⟨(.slice 79), 1, 24, [.nils], false, false, [], false⟩) (.node (.node (.node .leaf (some ⟨(.slice 190), 1, 24, [.nils], false, false, [], false⟩) .leaf) none .leaf) none .leaf)) (some ⟨(.struct [(9, 0), (12, 1)]), 2, 24, [(.str ⟨#[]⟩), (.int .u64 (0))], false, false, [], false⟩) (.node (.node (.node .leaf (some ⟨(.struct [(9, 0), (3, 1), (3, 2)]), 3, 32, [(.str ⟨#[]⟩), (.int .i64 (0)), (.int .i64 (0))], true, true, [], false⟩) .leaf) none (.node .leaf (some ⟨(.slice 28), 1, 24, [.nils], false, false, [], false⟩) .leaf)) none (.node .leaf (some ⟨(.slice 5), 1, 24, [.nils], false, false, [], false⟩) (.node (.node .leaf (some ⟨(.struct [(3, 0), (3, 1)]), 2, 16, [(.int .i64 (0)), (.int .i64 (0))], true, true, [], false⟩) .leaf) none (.node .leaf (some ⟨(.array 256 5), 256, 256, [(.int .u8 (0)), (.int .u8 (0)), (.int .u8 (0)), (.int .u8 (0)), (.int .u8 (0)), (.int .u8 (0)), (.int .u8 (0)), (.int .u8 (0)), (.int .u8 (0)), (.int .u8 (0)), (.int .u8 (0)), (.int .u8 (0)), (.int .u8 (0)), (.int .u8 (0)), (.int .u8 (0)), (.int .u8 (0)), (.int .u8 (0)), (.int .u8 (0)), (.int .u8 (0)), (.int .u8 (0)), (.int .u8 (0)), (.int .u8 (0)), (.int .u8 (0)), (.int .u8 (0)), (.int .u8 (0)), (.int .u8 (0)), (.int .u8 (0)), (.int .u8 (0)), (.int .u8 (0)), (.int .u8 (0)), (.int .u8 (0)), (.int .u8 (0)), (.int .u8 (0)), (.int .u8 (0)), (.int .u8 (0)), (.int .u8 (0)), (.int .u8 (0)), (.int .u8 (0)), (.int .u8 (0)), (.int .u8 (0)), (.int .u8 (0)), (.int .u8 (0)), (.int .u8 (0)), (.int .u8 (0)), (.int .u8 (0)), (.int .u8 (0)), (.int .u8 (0)), (.int .u8 (0)), (.int .u8 (0)), (.int .u8 (0)), (.int .u8 (0)), (.int .u8 (0)), (.int .u8 (0)), (.int .u8 (0)), (.int .u8 (0)), (.int .u8 (0)), (.int .u8 (0)), (.int .u8 (0)), (.int .u8 (0)), (.int .u8 (0)), (.int .u8 (0)), (.int .u8 (0)), (.int .u8 (0)), (.int .u8 (0)), (.int .u8 (0)), (.int .u8 (0)), (.int .u8 (0)), (.int .u8 (0)), (.int .u8 (0)), (.int .u8 (0)), (.int .u8 (0)), (.int .u8 (0)), (.int .u8 (0)), (.int .u8 (0)), (.int .u8 (0)), (.int .u8 (0)), (.int .u8 (0)), (.int .u8 (0)), (.int .u8 (0)), (.int .u8 (0)), (.int .u8 (0)), (.int .u8 (0)), (.int .u8 (0)), (.int .u8 (0)), (.int .u8 (0)), (.int .u8 (0)), (.int .u8 (0)), (.int .u8 (0)), (.int .u8 (0)), (.int .u8 (0)), (.int .u8 (0)), (.int .u8 (0)), (.int .u8 (0)), (.int .u8 (0)), (.int .u8 (0)), (.int .u8 (0)), (.int .u8 (0)), (.int .u8 (0)), (.int .u8 (0)), (.int .u8 (0)), (.int .u8 (0)), (.int .u8 (0)), (.int .u8 (0)), (.int .u8 (0)), (.int .u8 (0)), (.int .u8 (0)), (.int .u8 (0)), (.int .u8 (0)), (.int .u8 (0)), (.int .u8 (0)), (.int .u8 (0)), (.int .u8 (0)), (.int .u8 (0)), (.int .u8 (0)), (.int .u8 (0)), (.int .u8 (0)), (.int .u8 (0)), (.int .u8 (0)), (.int .u8 (0)), (.int .u8 (0)), (.int .u8 (0)), (.int .u8 (0)), (.int .u8 (0)), (.int .u8 (0)), (.int .u8 (0)), (.int .u8 (0)), (.int .u8 (0)), (.int .u8 (0)), (.int .u8 (0)), (.int .u8 (0)), (.int .u8 (0)), (.int .u8 (0)), (.int .u8 (0)), (.int .u8 (0)), (.int .u8 (0)), (.int .u8 (0)), (.int .u8 (0)), (.int .u8 (0)), (.int .u8 (0)), (.int .u8 (0)), (.int .u8 (0)), (.int .u8 (0)), (.int .u8 (0)), (.int .u8 (0)), (.int .u8 (0)), (.int .u8 (0)), (.int .u8 (0)), (.int .u8 (0)), (.int .u8 (0)), (.int .u8 (0)), (.int .u8 (0)), (.int .u8 (0)), (.int .u8 (0)), (.int .u8 (0)), (.int .u8 (0)), (.int .u8 (0)), (.int .u8 (0)), (.int .u8 (0)), (.int .u8 (0)), (.int .u8 (0)), (.int .u8 (0)), (.int .u8 (0)), (.int .u8 (0)), (.int .u8 (0)), (.int .u8 (0)), (.int .u8 (0)), (.int .u8 (0)), (.int .u8 (0)), (.int .u8 (0)), (.int .u8 (0)), (.int .u8 (0)), (.int .u8 (0)), (.int .u8 (0)), (.int .u8 (0)), (.int .u8 (0)), (.int .u8 (0)), (.int .u8 (0)), (.int .u8 (0)), (.int .u8 (0)), (.int .u8 (0)), (.int .u8 (0)), (.int .u8 (0)), (.int .u8 (0)), (.int .u8 (0)), (.int .u8 (0)), (.int .u8 (0)), (.int .u8 (0)), (.int .u8 (0)), (.int .u8 (0)), (.int .u8 (0)), (.int .u8 (0)), (.int .u8 (0)), (.int .u8 (0)), (.int .u8 (0)), (.int .u8 (0)), (.int .u8 (0)), (.int .u8 (0)), (.int .u8 (0)), (.int .u8 (0)), (.int .u8 (0)), (.int .u8 (0)), (.int .u8 (0)), (.int .u8 (0)), (.int .u8 (0)), (.int .u8 (0)), (.int .u8 (0)), (.int .u8 (0)), (.int .u8 (0)), (.int .u8 (0)), (.int .u8 (0)), (.int .u8 (0)), (.int .u8 (0)), (.int .u8 (0)), (.int .u8 (0)), (.int .u8 (0)), (.int .u8 (0)), (.int .u8 (0)), (.int .u8 (0)), (.int .u8 (0)), (.int .u8 (0)), (.int .u8 (0)), (.int .u8 (0)), (.int .u8 (0)), (.int .u8 (0)), (.int .u8 (0)), (.int .u8 (0)), (.int .u8 (0)), (.int .u8 (0)), (.int .u8 (0)), (.int .u8 (0)), (.int .u8 (0)), (.int .u8 (0)), (.int .u8 (0)), (.int .u8 (0)), (.int .u8 (0)), (.int .u8 (0)), (.int .u8 (0)), (.int .u8 (0)), (.int .u8 (0)), (.int .u8 (0)), (.int .u8 (0)), (.int .u8 (0)), (.int .u8 (0)), (.int .u8 (0)), (.int .u8 (0)), (.int .u8 (0)), (.int .u8 (0)), (.int .u8 (0)), (.int .u8 (0)), (.int .u8 (0)), (.int .u8 (0)), (.int .u8 (0)), (.int .u8 (0)), (.int .u8 (0)), (.int .u8 (0)), (.int .u8 (0))], true, false, [], false⟩) .leaf))))))))
noncomputable def bodyOf (f:Func):Code:=match f.body with|some c=>c|none=>.skip
noncomputable def mkF (f:Func) (m:Nat) (hs:List Z3P) (pu:Bool) (xm:List (Nat×Nat)) (rm:Nat) (ca:Bool) (pb:List (Nat×Nat)) (mr:List (Nat×Nat×Nat×TypeId×Nat)):FI:=⟨bodyOf f,f.ntmps,f.results.toList,m,hs,pu,xm,rm,ca,pb,mr⟩
noncomputable def g3:FI:=mkF Tryz.f3 2031 [] true [] 64 false [] []
noncomputable def g4:FI:=mkF Tryz.f4 144115205255733231 [] true [] 64 false [] []
noncomputable def g5:FI:=mkF Tryz.f5 562951027171319 [] true [] 16 false [] []
noncomputable def g6:FI:=mkF Tryz.f6 196607 [] true [] 1 false [] []
noncomputable def g7:FI:=mkF Tryz.f7 25736117115085391131901046942220680945729520602754655744688127 [⟨0,50088,[.cell 14 1 67],false⟩] true [(1,50088),(0,17320)] 64 false [] []
noncomputable def g8:FI:=mkF Tryz.f8 4899986771913228255 [] true [] 64 false [] []
noncomputable def g9:FI:=mkF Tryz.f9 4303396863 [⟨0,936,[],false⟩] true [(1,936),(0,392)] 64 false [] []
noncomputable def g10:FI:=mkF Tryz.f10 1152921505161019359 [⟨0,924,[.slot 8 38],false⟩] true [(1,924),(0,412)] 64 false [] []
noncomputable def g11:FI:=mkF Tryz.f11 18155136039796215 [] true [] 16 false [] []
noncomputable def g12:FI:=mkF Tryz.f12 604463486268616646623223 [] true [] 16 false [] []
noncomputable def g13:FI:=mkF Tryz.f13 83076754997802409019354109924343679 [⟨0,140840,[],false⟩] true [(1,140840),(0,1576)] 64 false [] []
noncomputable def g14:FI:=mkF Tryz.f14 452312848589848406602609732647645373760502365786866414931800733868651184111 [⟨0,14506,[],false⟩,⟨2,33161224,[],false⟩] true [(1,14506),(0,42),(3,33161224),(2,16252928)] 64 false [] []
noncomputable def g15:FI:=mkF Tryz.f15 4875843393563458472574927 [⟨0,910,[],false⟩,⟨2,3470,[.slot 10 3],false⟩] true [(1,910),(0,398),(3,3470),(2,1418)] 64 false [] []
noncomputable def g16:FI:=mkF Tryz.f16 18258071327 [] true [(0,1036)] 768 false [] []
noncomputable def g17:FI:=mkF Tryz.f17 44015093287711 [] true [] 768 false [] []
noncomputable def g18:FI:=mkF Tryz.f18 33571891 [⟨0,35,[],false⟩] true [(1,35),(0,0)] 16 false [] []
noncomputable def g19:FI:=mkF Tryz.f19 786431 [] true [] 1 false [] []
noncomputable def g20:FI:=mkF Tryz.f20 263151 [] true [] 192 false [] []
noncomputable def g21:FI:=mkF Tryz.f21 16879 [] true [] 192 false [] []
noncomputable def g22:FI:=mkF Tryz.f22 2251803576240111 [⟨1,1610612842,[.slot 6 3],false⟩] true [(0,106),(2,1610612842),(1,64)] 192 false [] []
noncomputable def g23:FI:=mkF Tryz.f23 1101701056495 [⟨0,1578,[.slot 9 3],false⟩] true [(1,1578),(0,512)] 192 false [] []
noncomputable def g24:FI:=mkF Tryz.f24 10035046790773455982583 [⟨0,25165910,[.slot 4 3],false⟩,⟨2,964690902,[.slot 9 38,.slot 8 3],false⟩] true [(3,964690902),(2,25166678),(1,25165910),(0,16)] 48 false [] []
noncomputable def g25:FI:=mkF Tryz.f25 8804691609527 [⟨0,262,[],false⟩,⟨2,1798,[],false⟩] true [(3,1798),(2,262),(1,262),(0,0)] 48 false [] []
noncomputable def g26:FI:=mkF Tryz.f26 16463 [] true [] 12 false [] []
noncomputable def g27:FI:=mkF Tryz.f27 16463 [] true [] 12 false [] []
noncomputable def g28:FI:=mkF Tryz.f28 140737656177917 [⟨0,16397,[.cell 2 0 79,.cell 2 1 67],false⟩] true [(2,0),(1,0),(0,13)] 12 false [] []
noncomputable def g29:FI:=mkF Tryz.f29 2535301200465682175167702246653 [⟨0,117,[.cell 4 0 79,.cell 4 1 67],false⟩] true [(1,117),(0,21)] 12 false [] []
noncomputable def g30:FI:=mkF Tryz.f30 288266660173840511 [⟨0,44,[],false⟩,⟨2,76,[],false⟩] true [(1,44),(0,12),(3,76),(2,0)] 16 false [] []
noncomputable def g31:FI:=mkF Tryz.f31 8797166818301 [⟨0,16444,[],false⟩] true [(1,0),(0,12)] 12 false [] []
noncomputable def g32:FI:=mkF Tryz.f32 1125901014406141 [⟨0,112,[],false⟩] true [(1,112),(0,0)] 12 false [] []
noncomputable def g33:FI:=mkF Tryz.f33 1 [] true [] 1 false [] []
noncomputable def g34:FI:=mkF Tryz.f34 72057597842690039 [⟨0,4195076,[],false⟩,⟨2,1610614016,[],false⟩] true [(3,1610614016),(2,0),(1,0),(0,772)] 48 false [] []
noncomputable def g35:FI:=mkF Tryz.f35 7 [] false [] 4 false [] []
noncomputable def g36:FI:=mkF Tryz.f36 1 [] true [] 1 false [] []
noncomputable def g37:FI:=mkF Tryz.f37 71 [] true [] 64 false [] []
noncomputable def g38:FI:=mkF Tryz.f38 33571891 [⟨0,35,[],false⟩] true [(1,35),(0,0)] 16 false [] []
noncomputable def g39:FI:=mkF Tryz.f39 19 [] true [] 16 false [] []
noncomputable def g40:FI:=mkF Tryz.f40 87 [] true [] 16 false [] []
noncomputable def g41:FI:=mkF Tryz.f41 131635 [⟨0,35,[],false⟩] true [(1,35),(0,0)] 16 false [] []
noncomputable def g42:FI:=mkF Tryz.f42 23 [] true [] 16 false [] []
noncomputable def g43:FI:=mkF Tryz.f43 39 [] true [] 4 false [] []
noncomputable def g44:FI:=mkF Tryz.f44 8389631 [⟨0,236,[.slot 5 38],false⟩] true [(1,236),(0,32)] 16 false [] []
noncomputable def g45:FI:=mkF Tryz.f45 147 [] true [] 16 false [] []
noncomputable def g46:FI:=mkF Tryz.f46 140806241452095 [] true [] 28 false [] []
noncomputable def g47:FI:=mkF Tryz.f47 41538414791847272223429363643727871 [⟨0,98,[.slot 5 9],false⟩,⟨2,514,[],false⟩,⟨4,12290,[],false⟩] true [(1,98),(0,2),(3,514),(2,2),(5,12290),(4,0)] 28 false [] []
noncomputable def g48:FI:=mkF Tryz.f48 139319 [] true [] 48 false [] []
noncomputable def g49:FI:=mkF Tryz.f49 1125900464685879 [⟨0,518,[],false⟩] true [(1,518),(0,0)] 48 false [] []
noncomputable def g50:FI:=mkF Tryz.f50 33015 [] true [] 48 false [] []
noncomputable def g51:FI:=mkF Tryz.f51 32951 [] true [] 48 false [] []
noncomputable def g52:FI:=mkF Tryz.f52 36028814736760759 [⟨0,1796,[.slot 9 36],false⟩,⟨2,7940,[],false⟩] true [(3,7940),(2,3844),(1,1796),(0,512)] 48 false [] []
noncomputable def g53:FI:=mkF Tryz.f53 2147518463 [⟨0,236,[.slot 5 3],false⟩,⟨2,1004,[],false⟩] true [(3,1004),(2,492),(1,236),(0,32)] 16 false [] []
noncomputable def g54:FI:=mkF Tryz.f54 274878957343 [⟨0,1566,[],false⟩] true [(1,1566),(0,512)] 256 false [] []
noncomputable def g55:FI:=mkF Tryz.f55 111 [] true [] 64 false [] []
noncomputable def g56:FI:=mkF Tryz.f56 271 [] true [] 256 false [] []
noncomputable def g57:FI:=mkF Tryz.f57 33556723 [⟨0,227,[.slot 5 38],false⟩] true [(1,227),(0,32)] 16 false [] []
noncomputable def g58:FI:=mkF Tryz.f58 183 [] true [] 48 false [] []
noncomputable def g59:FI:=mkF Tryz.f59 95 [] true [] 64 false [] []
noncomputable def g60:FI:=mkF Tryz.f60 55 [⟨0,20,[],false⟩] true [(1,0),(0,4)] 4 false [] []
noncomputable def g61:FI:=mkF Tryz.f61 688269427663 [⟨0,393422,[],false⟩,⟨2,137438953536,[.slot 6 3],false⟩] true [(1,393422),(0,192),(3,137438953536),(2,64)] 64 false [] [(2,(37,(6,(3,70093866271296))))]
noncomputable def g62:FI:=mkF Tryz.f62 71 [] true [] 64 false [] []
noncomputable def g63:FI:=mkF Tryz.f63 23 [] true [] 16 false [] []
noncomputable def g64:FI:=mkF Tryz.f64 134481695 [⟨0,1566,[.slot 9 3],false⟩] true [(1,1566),(0,512)] 256 false [] []
noncomputable def g65:FI:=mkF Tryz.f65 34429076463 [] true [(0,320)] 192 false [] []
noncomputable def g66:FI:=mkF Tryz.f66 532543 [] true [(0,0)] 16 false [] []
noncomputable def g67:FI:=mkF Tryz.f67 4415226446191 [] true [] 64 false [] []
noncomputable def g68:FI:=mkF Tryz.f68 4832887279 [⟨0,416,[],false⟩] true [(1,416),(0,0)] 64 false [] []
noncomputable def g70:FI:=mkF Tryz.f70 34628706291 [⟨0,3587,[],false⟩] true [(1,3587),(0,3)] 16 false [] []
noncomputable def g71:FI:=mkF Tryz.f71 537008071 [⟨0,390,[.slot 7 28],false⟩,⟨2,1926,[.slot 7 28],false⟩] true [(3,1926),(2,390),(1,390),(0,128)] 64 false [] []
noncomputable def g72:FI:=mkF Tryz.f72 16106189503 [⟨0,28714,[],false⟩,⟨2,7516192808,[],false⟩] true [(1,28714),(0,42),(3,7516192808),(2,8)] 4 false [] []
noncomputable def g73:FI:=mkF Tryz.f73 302231454912453386733567 [⟨0,26,[.slot 3 9],false⟩,⟨2,74,[.slot 3 9],false⟩,⟨4,1800,[],false⟩] true [(1,26),(0,10),(3,74),(2,8),(5,1800),(4,256)] 4 false [] []
noncomputable def g75:FI:=mkF Tryz.f75 7 [] false [] 4 false [] []
noncomputable def g77:FI:=mkF Tryz.f77 19 [] true [] 16 false [] []
noncomputable def g78:FI:=mkF Tryz.f78 9 [] true [] 0 false [] []
noncomputable def g79:FI:=mkF Tryz.f79 246227 [⟨0,114704,[.slot 4 3],false⟩] true [(1,114704),(0,16)] 16 false [] []
noncomputable def g80:FI:=mkF Tryz.f80 264435 [⟨0,227,[.slot 5 9],false⟩] true [(1,227),(0,97)] 16 false [] []
noncomputable def g81:FI:=mkF Tryz.f81 17184325661 [⟨0,25,[],false⟩] true [(1,25),(0,8)] 4 false [] []
noncomputable def g82:FI:=mkF Tryz.f82 51 [] true [] 48 false [] []
noncomputable def g83:FI:=mkF Tryz.f83 19 [] true [] 16 false [] []
noncomputable def g84:FI:=mkF Tryz.f84 947 [⟨0,387,[],false⟩] true [(1,387),(0,1)] 16 false [] []
noncomputable def g86:FI:=mkF Tryz.f86 2148665597 [⟨0,97,[],false⟩] true [(1,97),(0,33)] 28 false [] []
noncomputable def g87:FI:=mkF Tryz.f87 563 [⟨0,35,[],false⟩] true [(1,35),(0,1)] 16 false [] []
noncomputable def g88:FI:=mkF Tryz.f88 7 [] false [] 4 false [] []
noncomputable def g90:FI:=mkF Tryz.f90 2105331 [⟨0,3586,[],false⟩] false [(1,3586),(0,0)] 48 true [] []
noncomputable def g91:FI:=mkF Tryz.f91 264311 [] false [(0,0)] 32 false [] []
noncomputable def g92:FI:=mkF Tryz.f92 265133 [⟨0,137,[],false⟩] true [(2,161),(1,137),(0,9)] 4 false [] []
noncomputable def g93:FI:=mkF Tryz.f93 19 [] false [] 16 false [] []
noncomputable def g94:FI:=mkF Tryz.f94 15 [] false [] 8 false [] []
noncomputable def g95:FI:=mkF Tryz.f95 2105331 [⟨0,3586,[],false⟩] false [(1,3586),(0,0)] 48 true [] []
noncomputable def g96:FI:=mkF Tryz.f96 55 [] false [] 32 false [] []
noncomputable def g97:FI:=mkF Tryz.f97 137438969919 [] true [(0,0)] 16 false [] []
noncomputable def g98:FI:=mkF Tryz.f98 32823 [] false [] 32 false [] []
noncomputable def g99:FI:=mkF Tryz.f99 2195 [] true [] 16 false [] []
noncomputable def g100:FI:=mkF Tryz.f100 33587615 [] true [] 256 false [] []
noncomputable def g101:FI:=mkF Tryz.f101 2105331 [⟨0,3586,[],false⟩] false [(1,3586),(0,0)] 48 true [] []
noncomputable def g102:FI:=mkF Tryz.f102 55 [] false [] 32 false [] []
noncomputable def g103:FI:=mkF Tryz.f103 68720658415 [⟨0,1834,[.slot 8 152],false⟩] true [(1,1834),(0,256)] 64 false [] []
noncomputable def g104:FI:=mkF Tryz.f104 543 [⟨0,30,[.cell 3 0 3,.cell 3 1 3],false⟩] true [(1,30),(0,12)] 4 false [] []
noncomputable def g105:FI:=mkF Tryz.f105 23 [] true [] 16 false [] []
noncomputable def g106:FI:=mkF Tryz.f106 19 [] false [] 16 false [] []
noncomputable def g107:FI:=mkF Tryz.f107 23 [] false [] 16 false [] []
noncomputable def g108:FI:=mkF Tryz.f108 23 [] true [] 16 false [] []
noncomputable def g110:FI:=mkF Tryz.f110 19 [] true [] 16 false [] []
noncomputable def g111:FI:=mkF Tryz.f111 604275 [] true [] 16 false [] []
noncomputable def g112:FI:=mkF Tryz.f112 3983 [⟨0,1805,[],false⟩] false [(1,1805),(0,13)] 0 false [] []
noncomputable def g113:FI:=mkF Tryz.f113 51 [] false [] 48 false [] []
noncomputable def g114:FI:=mkF Tryz.f114 5 [] false [] 4 false [] []
noncomputable def g115:FI:=mkF Tryz.f115 1045 [] true [] 4 false [] []
noncomputable def g116:FI:=mkF Tryz.f116 16779419 [⟨0,3,[],false⟩] false [(1,3),(0,0)] 0 false [] []
noncomputable def g117:FI:=mkF Tryz.f117 19 [] true [] 16 false [] []
noncomputable def g119:FI:=mkF Tryz.f119 147 [] true [] 16 false [] []
noncomputable def g121:FI:=mkF Tryz.f121 71 [] true [] 64 false [] []
noncomputable def g122:FI:=mkF Tryz.f122 563 [] true [] 48 false [] []
noncomputable def g123:FI:=mkF Tryz.f123 132147 [⟨0,35,[],false⟩] true [(1,35),(0,0)] 16 false [] []
noncomputable def g125:FI:=mkF Tryz.f125 7807 [⟨0,3598,[],false⟩] false [(1,3598),(0,14)] 0 true [] []
noncomputable def g126:FI:=mkF Tryz.f126 162298890911060791960072274116607 [⟨0,8796093027304,[],false⟩] false [(1,0),(0,512)] 512 true [] []
noncomputable def g127:FI:=mkF Tryz.f127 81549309680231488798624078815 [⟨0,1573204,[],false⟩,⟨2,1924146922324,[],false⟩,⟨4,4436,[],false⟩,⟨6,1083197534374707740536738132,[],false⟩] true [(3,1924146922324),(2,1573204),(1,1573204),(0,340),(7,1083197534374707740536738132),(6,4436),(5,4436),(4,336)] 192 false [(25,4)] []
noncomputable def g128:FI:=mkF Tryz.f128 127 [] false [] 64 false [] []
noncomputable def g130:FI:=mkF Tryz.f130 66483 [⟨0,387,[],false⟩] false [(1,387),(0,0)] 16 false [] []
noncomputable def g131:FI:=mkF Tryz.f131 35184380479629 [⟨0,9,[],false⟩] true [(1,9),(0,0)] 4 false [] []
noncomputable def g132:FI:=mkF Tryz.f132 131635 [⟨0,35,[],false⟩] true [(1,35),(0,0)] 16 false [] []
noncomputable def g133:FI:=mkF Tryz.f133 79 [] true [] 64 false [] []
noncomputable def g134:FI:=mkF Tryz.f134 22838750697712822674296722619833405512627519999 [⟨0,22,[],true⟩,⟨2,54,[],true⟩,⟨4,86,[],true⟩,⟨6,278,[],true⟩] true [(3,54),(2,22),(5,86),(4,22),(7,278),(6,22),(1,22),(0,6)] 12 false [] []
noncomputable def g135:FI:=mkF Tryz.f135 4506073530632143 [⟨0,1934,[.slot 7 190],false⟩] true [(1,1934),(0,128)] 64 false [] []
noncomputable def g136:FI:=mkF Tryz.f136 590295819154807062783 [] true [] 64 false [] []
noncomputable def g137:FI:=mkF Tryz.f137 66483 [⟨0,387,[],false⟩] false [(1,387),(0,0)] 16 false [] []
noncomputable def g141:FI:=mkF Tryz.f141 66483 [⟨0,387,[],false⟩] true [(1,387),(0,0)] 16 false [] []
noncomputable def g142:FI:=mkF Tryz.f142 5 [] true [] 4 false [] []
noncomputable def g148:FI:=mkF Tryz.f148 19 [] true [] 16 false [] []
noncomputable def g152:FI:=mkF Tryz.f152 19 [] false [] 16 false [] []
noncomputable def g153:FI:=mkF Tryz.f153 7 [] true [] 4 false [] []
noncomputable def g154:FI:=mkF Tryz.f154 35201803616751 [⟨0,117440621,[],false⟩] false [(1,117440621),(0,0)] 0 false [] []
noncomputable def g155:FI:=mkF Tryz.f155 35201551962567 [⟨0,391,[],false⟩] true [(1,391),(0,128)] 64 false [] []
noncomputable def g182:FI:=mkF Tryz.f182 66483 [⟨0,387,[],false⟩] false [(1,387),(0,0)] 16 false [] []
noncomputable def fnT:Tr FI:=(.node (.node (.node (.node (.node (.node (.node (.node .leaf (some g127) .leaf) (some g63) .leaf) (some g31) (.node .leaf (some g95) .leaf)) (some g15) (.node (.node .leaf (some g79) .leaf) (some g47) (.node .leaf (some g111) .leaf))) (some g7) (.node (.node (.node (.node .leaf (some g135) .leaf) (some g71) .leaf) (some g39) (.node .leaf (some g103) .leaf)) (some g23) (.node (.node .leaf (some g87) .leaf) (some g55) (.node .leaf (some g119) .leaf)))) (some g3) (.node (.node (.node (.node (.node .leaf (some g131) .leaf) (some g67) .leaf) (some g35) (.node .leaf (some g99) .leaf)) (some g19) (.node (.node .leaf (some g83) .leaf) (some g51) (.node .leaf (some g115) .leaf))) (some g11) (.node (.node (.node .leaf (some g75) .leaf) (some g43) (.node .leaf (some g107) .leaf)) (some g27) (.node (.node (.node .leaf (some g155) .leaf) (some g91) .leaf) (some g59) (.node .leaf (some g123) .leaf))))) none (.node (.node (.node (.node (.node .leaf (some g65) .leaf) (some g33) (.node .leaf (some g97) .leaf)) (some g17) (.node (.node .leaf (some g81) .leaf) (some g49) (.node .leaf (some g113) .leaf))) (some g9) (.node (.node (.node (.node .leaf (some g137) .leaf) (some g73) .leaf) (some g41) (.node .leaf (some g105) .leaf)) (some g25) (.node (.node (.node .leaf (some g153) .leaf) none .leaf) (some g57) (.node .leaf (some g121) .leaf)))) (some g5) (.node (.node (.node (.node (.node .leaf (some g133) .leaf) none .leaf) (some g37) (.node .leaf (some g101) .leaf)) (some g21) (.node .leaf (some g53) (.node .leaf (some g117) .leaf))) (some g13) (.node (.node (.node (.node .leaf (some g141) .leaf) (some g77) .leaf) (some g45) .leaf) (some g29) (.node (.node .leaf (some g93) .leaf) (some g61) (.node .leaf (some g125) .leaf)))))) none (.node (.node (.node (.node (.node (.node (.node .leaf (some g128) .leaf) (some g64) .leaf) (some g32) (.node .leaf (some g96) .leaf)) (some g16) (.node (.node .leaf (some g80) .leaf) (some g48) (.node .leaf (some g112) .leaf))) (some g8) (.node (.node (.node (.node .leaf (some g136) .leaf) (some g72) .leaf) (some g40) (.node .leaf (some g104) .leaf)) (some g24) (.node (.node (.node .leaf (some g152) .leaf) (some g88) .leaf) (some g56) .leaf))) (some g4) (.node (.node (.node (.node (.node .leaf (some g132) .leaf) (some g68) .leaf) (some g36) (.node .leaf (some g100) .leaf)) (some g20) (.node (.node (.node .leaf (some g148) .leaf) (some g84) .leaf) (some g52) (.node .leaf (some g116) .leaf))) (some g12) (.node (.node .leaf (some g44) (.node .leaf (some g108) .leaf)) (some g28) (.node (.node .leaf (some g92) .leaf) (some g60) .leaf)))) none (.node (.node (.node (.node (.node (.node .leaf (some g130) .leaf) (some g66) .leaf) (some g34) (.node .leaf (some g98) .leaf)) (some g18) (.node (.node .leaf (some g82) .leaf) (some g50) (.node .leaf (some g114) .leaf))) (some g10) (.node (.node .leaf (some g42) (.node .leaf (some g106) .leaf)) (some g26) (.node (.node (.node .leaf (some g154) .leaf) (some g90) .leaf) (some g58) (.node .leaf (some g122) .leaf)))) (some g6) (.node (.node (.node (.node (.node .leaf (some g134) .leaf) (some g70) .leaf) (some g38) (.node .leaf (some g102) .leaf)) (some g22) (.node (.node .leaf (some g86) .leaf) (some g54) (.node (.node .leaf (some g182) .leaf) none .leaf))) (some g14) (.node (.node (.node (.node .leaf (some g142) .leaf) (some g78) .leaf) (some g46) (.node .leaf (some g110) .leaf)) (some g30) (.node (.node .leaf (some g94) .leaf) (some g62) (.node .leaf (some g126) .leaf)))))))
noncomputable def powN:String:=((Tryz.prog.globals[3]?).map (·.name)).getD default
def leafT:Tr (List DV->Option DV):=(.node (.node .leaf none (.node .leaf none (.node (.node .leaf none (.node (.node .leaf (some ZbU) .leaf) none .leaf)) none .leaf))) none (.node (.node (.node (.node .leaf none (.node (.node (.node .leaf (some Z3D) .leaf) none .leaf) none .leaf)) none (.node .leaf none (.node .leaf none (.node .leaf (some ZbT) .leaf)))) none (.node .leaf none (.node (.node (.node .leaf (some Z8W) .leaf) none .leaf) none .leaf))) none .leaf))
def ccT:Tr TypeId:=(.node (.node (.node (.node (.node .leaf none (.node (.node (.node .leaf (some 163) .leaf) none .leaf) none .leaf)) none .leaf) none .leaf) none .leaf) none .leaf)
def clnT:Tr TypeId:=(.node (.node .leaf none (.node (.node (.node (.node (.node (.node .leaf (some 180) .leaf) none .leaf) none .leaf) none .leaf) none (.node .leaf none (.node (.node .leaf (some 36) .leaf) none .leaf))) none (.node (.node (.node (.node .leaf (some 67) .leaf) none .leaf) none .leaf) none .leaf))) none (.node .leaf none (.node (.node .leaf none (.node (.node (.node (.node .leaf (some 38) .leaf) none .leaf) none .leaf) none .leaf)) none .leaf)))
def srtT:Tr TypeId:=(.node (.node .leaf none (.node .leaf none (.node .leaf none (.node (.node .leaf none (.node .leaf (some 3) .leaf)) none .leaf)))) none .leaf)
noncomputable def E:Env:=⟨tyT.get,fnT.get,leafT.get,ccT.get,clnT.get,srtT.get,fun g=>Nat.beq g 74,fun w=>(∃m,w.cell? ⟨0,0,none⟩=some (.int .i64 m))/\Lib.TabIs Tryz.prog w powN .u64 Lib.pow10Tab,fun _ _ h hb=>⟨ZbY h.1 hb,Ze6 h.2 hb⟩⟩
end Go.Proofs.YtlngokonhalcdaaGreatDoor
namespace Go.Proofs
open Go.Shelf
def Tryz.laysM171_ren:Go.Shelf.Ren:=⟨fun|171=>85|243=>124|246=>151|283=>178|284=>179|285=>180|286=>181|129=>166|317=>195|318=>196|319=>197|320=>198|337=>203|338=>204|n=>n,fun|3=>3|9=>9|2=>2|4=>4|171=>230|0=>0|53=>219|37=>62|5=>5|173=>232|212=>249|51=>217|20=>20|213=>250|46=>195|232=>264|233=>265|n=>n,fun|17=>3|18=>6|19=>7|n=>n⟩
theorem Tryz.laysM171:Go.Proofs.LaysM.n171 Tryz.prog Tryz.laysM171_ren:={
 mixed:=by kernel_rfl
 f129:=Tryz.func166.trans (congrArg some (by kernel_rfl))
 f171:=Tryz.func85.trans (congrArg some (by kernel_rfl))
 f243:=Tryz.func124.trans (congrArg some (by kernel_rfl))
 f246:=Tryz.func151.trans (congrArg some (by kernel_rfl))
 f283:=Tryz.func178.trans (congrArg some (by kernel_rfl))
 f284:=Tryz.func179.trans (congrArg some (by kernel_rfl))
 f285:=Tryz.func180.trans (congrArg some (by kernel_rfl))
 f286:=Tryz.func181.trans (congrArg some (by kernel_rfl))
 f317:=Tryz.func195.trans (congrArg some (by kernel_rfl))
 f318:=Tryz.func196.trans (congrArg some (by kernel_rfl))
 f319:=Tryz.func197.trans (congrArg some (by kernel_rfl))
 f320:=Tryz.func198.trans (congrArg some (by kernel_rfl))
 f337:=Tryz.func203.trans (congrArg some (by kernel_rfl))
 f338:=Tryz.func204.trans (congrArg some (by kernel_rfl))
 t0:=Tryz.underlying0
 a0:=Tryz.isAgg0
 z0:=Tryz.sizeOf0
 v0:=Tryz.zeroValue0
 t2:=Tryz.underlying2
 a2:=Tryz.isAgg2
 z2:=Tryz.sizeOf2
 v2:=Tryz.zeroValue2
 t3:=Tryz.underlying3
 a3:=Tryz.isAgg3
 z3:=Tryz.sizeOf3
 v3:=Tryz.zeroValue3
 t4:=Tryz.underlying4
 a4:=Tryz.isAgg4
 z4:=Tryz.sizeOf4
 v4:=Tryz.zeroValue4
 t5:=Tryz.underlying5
 a5:=Tryz.isAgg5
 z5:=Tryz.sizeOf5
 v5:=Tryz.zeroValue5
 t9:=Tryz.underlying9
 a9:=Tryz.isAgg9
 z9:=Tryz.sizeOf9
 v9:=Tryz.zeroValue9
 t20:=Tryz.underlying20
 a20:=Tryz.isAgg20
 z20:=Tryz.sizeOf20
 v20:=Tryz.zeroValue20
 t37:=Tryz.underlying62
 a37:=Tryz.isAgg62
 z37:=Tryz.sizeOf62
 v37:=Tryz.zeroValue62
 t46:=Tryz.underlying195
 a46:=Tryz.isAgg195
 z46:=Tryz.sizeOf195
 v46:=Tryz.zeroValue195
 t51:=Tryz.underlying217
 a51:=Tryz.isAgg217
 z51:=Tryz.sizeOf217
 v51:=Tryz.zeroValue217
 t53:=Tryz.underlying219
 a53:=Tryz.isAgg219
 z53:=Tryz.sizeOf219
 v53:=Tryz.zeroValue219
 t171:=Tryz.underlying230
 a171:=Tryz.isAgg230
 z171:=Tryz.sizeOf230
 v171:=Tryz.zeroValue230
 t173:=Tryz.underlying232
 a173:=Tryz.isAgg232
 z173:=Tryz.sizeOf232
 v173:=Tryz.zeroValue232
 t212:=Tryz.underlying249
 a212:=Tryz.isAgg249
 z212:=Tryz.sizeOf249
 v212:=Tryz.zeroValue249
 t213:=Tryz.underlying250
 a213:=Tryz.isAgg250
 z213:=Tryz.sizeOf250
 t232:=Tryz.underlying264
 a232:=Tryz.isAgg264
 z232:=Tryz.sizeOf264
 v232:=Tryz.zeroValue264
 t233:=Tryz.underlying265
 a233:=Tryz.isAgg265
 z233:=Tryz.sizeOf265
 v233:=Tryz.zeroValue265
 g17:=by kernel_rfl
 g18:=by kernel_rfl
 g19:=by kernel_rfl
 i0:=by kernel_rfl
 i2:=by kernel_rfl
 i3:=by kernel_rfl
 i4:=by kernel_rfl
 i5:=by kernel_rfl
 i9:=by kernel_rfl
 i20:=by kernel_rfl
 i37:=by kernel_rfl
 i46:=by kernel_rfl
 i51:=by kernel_rfl
 i53:=by kernel_rfl
 i171:=by kernel_rfl
 i173:=by kernel_rfl
 i212:=by kernel_rfl
 i232:=by kernel_rfl
 i233:=by kernel_rfl
 m17:=by kernel_rfl
 m18:=by kernel_rfl
 m19:=by kernel_rfl }
def Tryz.laysC172_ren:Go.Shelf.Ren:=⟨fun|172=>120|244=>149|245=>150|247=>173|279=>174|280=>175|281=>176|282=>177|287=>192|316=>193|171=>85|205=>194|321=>201|322=>202|243=>124|246=>151|283=>178|284=>179|285=>180|286=>181|129=>166|317=>195|318=>196|319=>197|320=>198|337=>203|338=>204|n=>n,fun|9=>9|3=>3|75=>165|76=>166|4=>4|5=>5|167=>224|37=>62|0=>0|85=>225|2=>2|168=>227|53=>219|175=>242|46=>195|210=>246|127=>197|145=>263|143=>261|21=>21|171=>230|173=>232|212=>249|51=>217|20=>20|213=>250|232=>264|233=>265|80=>169|n=>n,fun|15=>1|16=>2|17=>3|18=>6|19=>7|n=>n⟩
theorem Tryz.laysC172:Go.Proofs.LaysC.n172 Tryz.prog Tryz.laysC172_ren:={
 mixed:=by kernel_rfl
 f129:=Tryz.func166.trans (congrArg some (by kernel_rfl))
 f171:=Tryz.func85.trans (congrArg some (by kernel_rfl))
 f172:=Tryz.func120.trans (congrArg some (by kernel_rfl))
 f205:=Tryz.func194.trans (congrArg some (by kernel_rfl))
 f243:=Tryz.func124.trans (congrArg some (by kernel_rfl))
 f244:=Tryz.func149.trans (congrArg some (by kernel_rfl))
 f245:=Tryz.func150.trans (congrArg some (by kernel_rfl))
 f246:=Tryz.func151.trans (congrArg some (by kernel_rfl))
 f247:=Tryz.func173.trans (congrArg some (by kernel_rfl))
 f279:=Tryz.func174.trans (congrArg some (by kernel_rfl))
 f280:=Tryz.func175.trans (congrArg some (by kernel_rfl))
 f281:=Tryz.func176.trans (congrArg some (by kernel_rfl))
 f282:=Tryz.func177.trans (congrArg some (by kernel_rfl))
 f283:=Tryz.func178.trans (congrArg some (by kernel_rfl))
 f284:=Tryz.func179.trans (congrArg some (by kernel_rfl))
 f285:=Tryz.func180.trans (congrArg some (by kernel_rfl))
 f286:=Tryz.func181.trans (congrArg some (by kernel_rfl))
 f287:=Tryz.func192.trans (congrArg some (by kernel_rfl))
 f316:=Tryz.func193.trans (congrArg some (by kernel_rfl))
 f317:=Tryz.func195.trans (congrArg some (by kernel_rfl))
 f318:=Tryz.func196.trans (congrArg some (by kernel_rfl))
 f319:=Tryz.func197.trans (congrArg some (by kernel_rfl))
 f320:=Tryz.func198.trans (congrArg some (by kernel_rfl))
 f321:=Tryz.func201.trans (congrArg some (by kernel_rfl))
 f322:=Tryz.func202.trans (congrArg some (by kernel_rfl))
 f337:=Tryz.func203.trans (congrArg some (by kernel_rfl))
 f338:=Tryz.func204.trans (congrArg some (by kernel_rfl))
 t0:=Tryz.underlying0
 a0:=Tryz.isAgg0
 z0:=Tryz.sizeOf0
 v0:=Tryz.zeroValue0
 t2:=Tryz.underlying2
 a2:=Tryz.isAgg2
 z2:=Tryz.sizeOf2
 v2:=Tryz.zeroValue2
 t3:=Tryz.underlying3
 a3:=Tryz.isAgg3
 z3:=Tryz.sizeOf3
 v3:=Tryz.zeroValue3
 t4:=Tryz.underlying4
 a4:=Tryz.isAgg4
 z4:=Tryz.sizeOf4
 v4:=Tryz.zeroValue4
 t5:=Tryz.underlying5
 a5:=Tryz.isAgg5
 z5:=Tryz.sizeOf5
 v5:=Tryz.zeroValue5
 t9:=Tryz.underlying9
 a9:=Tryz.isAgg9
 z9:=Tryz.sizeOf9
 v9:=Tryz.zeroValue9
 t20:=Tryz.underlying20
 a20:=Tryz.isAgg20
 z20:=Tryz.sizeOf20
 v20:=Tryz.zeroValue20
 t21:=Tryz.underlying21
 a21:=Tryz.isAgg21
 z21:=Tryz.sizeOf21
 v21:=Tryz.zeroValue21
 t37:=Tryz.underlying62
 a37:=Tryz.isAgg62
 z37:=Tryz.sizeOf62
 v37:=Tryz.zeroValue62
 t46:=Tryz.underlying195
 a46:=Tryz.isAgg195
 z46:=Tryz.sizeOf195
 v46:=Tryz.zeroValue195
 t51:=Tryz.underlying217
 a51:=Tryz.isAgg217
 z51:=Tryz.sizeOf217
 v51:=Tryz.zeroValue217
 t53:=Tryz.underlying219
 a53:=Tryz.isAgg219
 z53:=Tryz.sizeOf219
 v53:=Tryz.zeroValue219
 t75:=Tryz.underlying165
 a75:=Tryz.isAgg165
 z75:=Tryz.sizeOf165
 v75:=Tryz.zeroValue165
 t76:=Tryz.underlying166
 a76:=Tryz.isAgg166
 z76:=Tryz.sizeOf166
 v76:=Tryz.zeroValue166
 t85:=Tryz.underlying225
 a85:=Tryz.isAgg225
 z85:=Tryz.sizeOf225
 v85:=Tryz.zeroValue225
 t127:=Tryz.underlying197
 a127:=Tryz.isAgg197
 z127:=Tryz.sizeOf197
 v127:=Tryz.zeroValue197
 t143:=Tryz.underlying261
 a143:=Tryz.isAgg261
 z143:=Tryz.sizeOf261
 v143:=Tryz.zeroValue261
 t145:=Tryz.underlying263
 a145:=Tryz.isAgg263
 z145:=Tryz.sizeOf263
 v145:=Tryz.zeroValue263
 t167:=Tryz.underlying224
 a167:=Tryz.isAgg224
 z167:=Tryz.sizeOf224
 v167:=Tryz.zeroValue224
 t168:=Tryz.underlying227
 a168:=Tryz.isAgg227
 z168:=Tryz.sizeOf227
 v168:=Tryz.zeroValue227
 t171:=Tryz.underlying230
 a171:=Tryz.isAgg230
 z171:=Tryz.sizeOf230
 v171:=Tryz.zeroValue230
 t173:=Tryz.underlying232
 a173:=Tryz.isAgg232
 z173:=Tryz.sizeOf232
 v173:=Tryz.zeroValue232
 t175:=Tryz.underlying242
 a175:=Tryz.isAgg242
 z175:=Tryz.sizeOf242
 v175:=Tryz.zeroValue242
 t210:=Tryz.underlying246
 a210:=Tryz.isAgg246
 z210:=Tryz.sizeOf246
 v210:=Tryz.zeroValue246
 t212:=Tryz.underlying249
 a212:=Tryz.isAgg249
 z212:=Tryz.sizeOf249
 v212:=Tryz.zeroValue249
 t213:=Tryz.underlying250
 a213:=Tryz.isAgg250
 z213:=Tryz.sizeOf250
 t232:=Tryz.underlying264
 a232:=Tryz.isAgg264
 z232:=Tryz.sizeOf264
 v232:=Tryz.zeroValue264
 t233:=Tryz.underlying265
 a233:=Tryz.isAgg265
 z233:=Tryz.sizeOf265
 v233:=Tryz.zeroValue265
 g15:=by kernel_rfl
 g16:=by kernel_rfl
 g17:=by kernel_rfl
 g18:=by kernel_rfl
 g19:=by kernel_rfl
 t80:=Tryz.underlying169
 a80:=Tryz.isAgg169
 z80:=Tryz.sizeOf169
 v80:=Tryz.zeroValue169
 i0:=by kernel_rfl
 i2:=by kernel_rfl
 i3:=by kernel_rfl
 i4:=by kernel_rfl
 i5:=by kernel_rfl
 i9:=by kernel_rfl
 i20:=by kernel_rfl
 i21:=by kernel_rfl
 i37:=by kernel_rfl
 i46:=by kernel_rfl
 i51:=by kernel_rfl
 i53:=by kernel_rfl
 i75:=by kernel_rfl
 i76:=by kernel_rfl
 i80:=by kernel_rfl
 i85:=by kernel_rfl
 i127:=by kernel_rfl
 i143:=by kernel_rfl
 i145:=by kernel_rfl
 i167:=by kernel_rfl
 i168:=by kernel_rfl
 i171:=by kernel_rfl
 i173:=by kernel_rfl
 i175:=by kernel_rfl
 i210:=by kernel_rfl
 i212:=by kernel_rfl
 i232:=by kernel_rfl
 i233:=by kernel_rfl
 m15:=by kernel_rfl
 m16:=by kernel_rfl
 m17:=by kernel_rfl
 m18:=by kernel_rfl
 m19:=by kernel_rfl
 c0:=by kernel_rfl
 c2:=by kernel_rfl
 c3:=by kernel_rfl
 c4:=by kernel_rfl
 c5:=by kernel_rfl
 c9:=by kernel_rfl
 c20:=by kernel_rfl
 c21:=by kernel_rfl
 c37:=by kernel_rfl
 c46:=by kernel_rfl
 c51:=by kernel_rfl
 c53:=by kernel_rfl
 c75:=by kernel_rfl
 c76:=by kernel_rfl
 c80:=by kernel_rfl
 c85:=by kernel_rfl
 c127:=by kernel_rfl
 c143:=by kernel_rfl
 c145:=by kernel_rfl
 c167:=by kernel_rfl
 c168:=by kernel_rfl
 c171:=by kernel_rfl
 c173:=by kernel_rfl
 c175:=by kernel_rfl
 c210:=by kernel_rfl
 c212:=by kernel_rfl
 c213:=by kernel_rfl
 c232:=by kernel_rfl
 c233:=by kernel_rfl }
def Tryz.laysM146_ren:Go.Shelf.Ren:=⟨fun|146=>76|221=>118|268=>145|138=>146|143=>147|195=>169|197=>170|218=>171|219=>172|260=>188|217=>144|225=>189|224=>190|267=>191|266=>168|314=>200|n=>n,fun|9=>9|31=>116|3=>3|4=>4|0=>0|105=>222|21=>21|5=>5|46=>195|119=>254|139=>257|138=>256|146=>258|51=>217|n=>n,fun|1=>0|3=>4|4=>5|n=>n⟩
theorem Tryz.laysM146:Go.Proofs.LaysM.n146 Tryz.prog Tryz.laysM146_ren:={
 mixed:=by kernel_rfl
 f138:=Tryz.func146.trans (congrArg some (by kernel_rfl))
 f143:=Tryz.func147.trans (congrArg some (by kernel_rfl))
 f146:=Tryz.func76.trans (congrArg some (by kernel_rfl))
 f195:=Tryz.func169.trans (congrArg some (by kernel_rfl))
 f197:=Tryz.func170.trans (congrArg some (by kernel_rfl))
 f217:=Tryz.func144.trans (congrArg some (by kernel_rfl))
 f218:=Tryz.func171.trans (congrArg some (by kernel_rfl))
 f219:=Tryz.func172.trans (congrArg some (by kernel_rfl))
 f221:=Tryz.func118.trans (congrArg some (by kernel_rfl))
 f224:=Tryz.func190.trans (congrArg some (by kernel_rfl))
 f225:=Tryz.func189.trans (congrArg some (by kernel_rfl))
 f260:=Tryz.func188.trans (congrArg some (by kernel_rfl))
 f266:=Tryz.func168.trans (congrArg some (by kernel_rfl))
 f267:=Tryz.func191.trans (congrArg some (by kernel_rfl))
 f268:=Tryz.func145.trans (congrArg some (by kernel_rfl))
 f314:=Tryz.func200.trans (congrArg some (by kernel_rfl))
 t0:=Tryz.underlying0
 a0:=Tryz.isAgg0
 z0:=Tryz.sizeOf0
 v0:=Tryz.zeroValue0
 t3:=Tryz.underlying3
 a3:=Tryz.isAgg3
 z3:=Tryz.sizeOf3
 v3:=Tryz.zeroValue3
 t4:=Tryz.underlying4
 a4:=Tryz.isAgg4
 z4:=Tryz.sizeOf4
 v4:=Tryz.zeroValue4
 t5:=Tryz.underlying5
 a5:=Tryz.isAgg5
 z5:=Tryz.sizeOf5
 v5:=Tryz.zeroValue5
 t9:=Tryz.underlying9
 a9:=Tryz.isAgg9
 z9:=Tryz.sizeOf9
 v9:=Tryz.zeroValue9
 t21:=Tryz.underlying21
 a21:=Tryz.isAgg21
 z21:=Tryz.sizeOf21
 v21:=Tryz.zeroValue21
 t31:=Tryz.underlying116
 a31:=Tryz.isAgg116
 z31:=Tryz.sizeOf116
 v31:=Tryz.zeroValue116
 t46:=Tryz.underlying195
 a46:=Tryz.isAgg195
 z46:=Tryz.sizeOf195
 v46:=Tryz.zeroValue195
 t51:=Tryz.underlying217
 a51:=Tryz.isAgg217
 z51:=Tryz.sizeOf217
 v51:=Tryz.zeroValue217
 t105:=Tryz.underlying222
 a105:=Tryz.isAgg222
 z105:=Tryz.sizeOf222
 v105:=Tryz.zeroValue222
 t119:=Tryz.underlying254
 a119:=Tryz.isAgg254
 z119:=Tryz.sizeOf254
 t138:=Tryz.underlying256
 a138:=Tryz.isAgg256
 z138:=Tryz.sizeOf256
 v138:=Tryz.zeroValue256
 t139:=Tryz.underlying257
 a139:=Tryz.isAgg257
 z139:=Tryz.sizeOf257
 v139:=Tryz.zeroValue257
 t146:=Tryz.underlying258
 a146:=Tryz.isAgg258
 z146:=Tryz.sizeOf258
 v146:=Tryz.zeroValue258
 g1:=by kernel_rfl
 g3:=by kernel_rfl
 g4:=by kernel_rfl
 i0:=by kernel_rfl
 i3:=by kernel_rfl
 i4:=by kernel_rfl
 i5:=by kernel_rfl
 i9:=by kernel_rfl
 i21:=by kernel_rfl
 i31:=by kernel_rfl
 i46:=by kernel_rfl
 i51:=by kernel_rfl
 i105:=by kernel_rfl
 i138:=by kernel_rfl
 i139:=by kernel_rfl
 i146:=by kernel_rfl
 m1:=by kernel_rfl
 s1_3:=fun w h=>Go.Proofs.cell_of_shapedOpen_int (zero := #[.int .i64 0]) (t:=3) h (of_decide_eq_true (by kernel_rfl)) (by kernel_rfl) rfl (by kernel_rfl) (by kernel_rfl) Tryz.underlying3
 m3:=by kernel_rfl
 m4:=by kernel_rfl }
def Tryz.lays217_ren:Go.Shelf.Ren:=⟨fun|217=>144|266=>168|n=>n,fun|9=>9|5=>5|3=>3|n=>n,fun|n=>n⟩
theorem Tryz.lays217:Go.Proofs.Lays.n217 Tryz.prog Tryz.lays217_ren:={
 mixed:=by kernel_rfl
 f217:=Tryz.func144.trans (congrArg some (by kernel_rfl))
 f266:=Tryz.func168.trans (congrArg some (by kernel_rfl))
 t3:=Tryz.underlying3
 a3:=Tryz.isAgg3
 z3:=Tryz.sizeOf3
 v3:=Tryz.zeroValue3
 t5:=Tryz.underlying5
 a5:=Tryz.isAgg5
 z5:=Tryz.sizeOf5
 v5:=Tryz.zeroValue5
 t9:=Tryz.underlying9
 a9:=Tryz.isAgg9
 z9:=Tryz.sizeOf9
 v9:=Tryz.zeroValue9 }
def Tryz.lays189_ren:Go.Shelf.Ren:=⟨fun|189=>109|125=>140|257=>139|128=>165|129=>166|294=>156|295=>157|296=>158|297=>159|298=>160|299=>161|216=>162|300=>163|301=>164|328=>183|329=>184|330=>185|331=>186|332=>187|215=>142|343=>199|n=>n,fun|28=>28|3=>3|46=>195|0=>0|51=>217|53=>219|4=>4|183=>209|182=>208|131=>214|5=>5|9=>9|218=>235|222=>239|228=>251|229=>252|n=>n,fun|n=>n⟩
theorem Tryz.lays189:Go.Proofs.Lays.n189 Tryz.prog Tryz.lays189_ren:={
 mixed:=by kernel_rfl
 f125:=Tryz.func140.trans (congrArg some (by kernel_rfl))
 f128:=Tryz.func165.trans (congrArg some (by kernel_rfl))
 f129:=Tryz.func166.trans (congrArg some (by kernel_rfl))
 f189:=Tryz.func109.trans (congrArg some (by kernel_rfl))
 f215:=Tryz.func142.trans (congrArg some (by kernel_rfl))
 f216:=Tryz.func162.trans (congrArg some (by kernel_rfl))
 f257:=Tryz.func139.trans (congrArg some (by kernel_rfl))
 f294:=Tryz.func156.trans (congrArg some (by kernel_rfl))
 f295:=Tryz.func157.trans (congrArg some (by kernel_rfl))
 f296:=Tryz.func158.trans (congrArg some (by kernel_rfl))
 f297:=Tryz.func159.trans (congrArg some (by kernel_rfl))
 f298:=Tryz.func160.trans (congrArg some (by kernel_rfl))
 f299:=Tryz.func161.trans (congrArg some (by kernel_rfl))
 f300:=Tryz.func163.trans (congrArg some (by kernel_rfl))
 f301:=Tryz.func164.trans (congrArg some (by kernel_rfl))
 f328:=Tryz.func183.trans (congrArg some (by kernel_rfl))
 f329:=Tryz.func184.trans (congrArg some (by kernel_rfl))
 f330:=Tryz.func185.trans (congrArg some (by kernel_rfl))
 f331:=Tryz.func186.trans (congrArg some (by kernel_rfl))
 f332:=Tryz.func187.trans (congrArg some (by kernel_rfl))
 f343:=Tryz.func199.trans (congrArg some (by kernel_rfl))
 t0:=Tryz.underlying0
 a0:=Tryz.isAgg0
 z0:=Tryz.sizeOf0
 v0:=Tryz.zeroValue0
 t3:=Tryz.underlying3
 a3:=Tryz.isAgg3
 z3:=Tryz.sizeOf3
 v3:=Tryz.zeroValue3
 t4:=Tryz.underlying4
 a4:=Tryz.isAgg4
 z4:=Tryz.sizeOf4
 v4:=Tryz.zeroValue4
 t5:=Tryz.underlying5
 a5:=Tryz.isAgg5
 z5:=Tryz.sizeOf5
 v5:=Tryz.zeroValue5
 t9:=Tryz.underlying9
 a9:=Tryz.isAgg9
 z9:=Tryz.sizeOf9
 v9:=Tryz.zeroValue9
 t28:=Tryz.underlying28
 a28:=Tryz.isAgg28
 z28:=Tryz.sizeOf28
 v28:=Tryz.zeroValue28
 t46:=Tryz.underlying195
 a46:=Tryz.isAgg195
 z46:=Tryz.sizeOf195
 v46:=Tryz.zeroValue195
 t51:=Tryz.underlying217
 a51:=Tryz.isAgg217
 z51:=Tryz.sizeOf217
 v51:=Tryz.zeroValue217
 t53:=Tryz.underlying219
 a53:=Tryz.isAgg219
 z53:=Tryz.sizeOf219
 v53:=Tryz.zeroValue219
 t131:=Tryz.underlying214
 a131:=Tryz.isAgg214
 z131:=Tryz.sizeOf214
 v131:=Tryz.zeroValue214
 t182:=Tryz.underlying208
 a182:=Tryz.isAgg208
 z182:=Tryz.sizeOf208
 v182:=Tryz.zeroValue208
 t183:=Tryz.underlying209
 a183:=Tryz.isAgg209
 z183:=Tryz.sizeOf209
 v183:=Tryz.zeroValue209
 t218:=Tryz.underlying235
 a218:=Tryz.isAgg235
 z218:=Tryz.sizeOf235
 v218:=Tryz.zeroValue235
 t222:=Tryz.underlying239
 a222:=Tryz.isAgg239
 z222:=Tryz.sizeOf239
 v222:=Tryz.zeroValue239
 t228:=Tryz.underlying251
 a228:=Tryz.isAgg251
 z228:=Tryz.sizeOf251
 v228:=Tryz.zeroValue251
 t229:=Tryz.underlying252
 a229:=Tryz.isAgg252
 z229:=Tryz.sizeOf252
 v229:=Tryz.zeroValue252 }
def Tryz.laysSlE041_f69_ren:Go.Shelf.Ren:=⟨fun|41=>69|n=>n,fun|22=>23|23=>67|4=>4|n=>n,fun|n=>n⟩
theorem Tryz.laysSlE041_f69:Go.Proofs.SlLaysE0.n41 Tryz.prog Tryz.laysSlE041_f69_ren:={
 mixed:=by kernel_rfl
 f41:=⟨Tryz.f69.name,by decide,Tryz.func69.trans (congrArg some (by kernel_rfl))⟩
 t4:=Tryz.underlying4
 a4:=Tryz.isAgg4
 z4:=Tryz.sizeOf4
 v4:=Tryz.zeroValue4
 t22:=Tryz.underlying23
 a22:=Tryz.isAgg23
 z22:=Tryz.sizeOf23
 v22:=Tryz.zeroValue23 }
def Tryz.laysSlE041_f89_ren:Go.Shelf.Ren:=⟨fun|41=>89|n=>n,fun|22=>52|23=>36|4=>4|n=>n,fun|n=>n⟩
theorem Tryz.laysSlE041_f89:Go.Proofs.SlLaysE0.n41 Tryz.prog Tryz.laysSlE041_f89_ren:={
 mixed:=by kernel_rfl
 f41:=⟨Tryz.f89.name,by decide,Tryz.func89.trans (congrArg some (by kernel_rfl))⟩
 t4:=Tryz.underlying4
 a4:=Tryz.isAgg4
 z4:=Tryz.sizeOf4
 v4:=Tryz.zeroValue4
 t22:=Tryz.underlying52
 a22:=Tryz.isAgg52
 z22:=Tryz.sizeOf52
 v22:=Tryz.zeroValue52 }
def Tryz.laysSlE041_f129_ren:Go.Shelf.Ren:=⟨fun|41=>129|n=>n,fun|22=>173|23=>180|4=>4|n=>n,fun|n=>n⟩
theorem Tryz.laysSlE041_f129:Go.Proofs.SlLaysE0.n41 Tryz.prog Tryz.laysSlE041_f129_ren:={
 mixed:=by kernel_rfl
 f41:=⟨Tryz.f129.name,by decide,Tryz.func129.trans (congrArg some (by kernel_rfl))⟩
 t4:=Tryz.underlying4
 a4:=Tryz.isAgg4
 z4:=Tryz.sizeOf4
 v4:=Tryz.zeroValue4
 t22:=Tryz.underlying173
 a22:=Tryz.isAgg173
 z22:=Tryz.sizeOf173
 v22:=Tryz.zeroValue173 }
def Tryz.laysSlE041_f138_ren:Go.Shelf.Ren:=⟨fun|41=>138|n=>n,fun|22=>26|23=>38|4=>4|n=>n,fun|n=>n⟩
theorem Tryz.laysSlE041_f138:Go.Proofs.SlLaysE0.n41 Tryz.prog Tryz.laysSlE041_f138_ren:={
 mixed:=by kernel_rfl
 f41:=⟨Tryz.f138.name,by decide,Tryz.func138.trans (congrArg some (by kernel_rfl))⟩
 t4:=Tryz.underlying4
 a4:=Tryz.isAgg4
 z4:=Tryz.sizeOf4
 v4:=Tryz.zeroValue4
 t22:=Tryz.underlying26
 a22:=Tryz.isAgg26
 z22:=Tryz.sizeOf26
 v22:=Tryz.zeroValue26 }
end Go.Proofs
namespace Go.Proofs.YtlngokonhalcdaaGreatDoor
open Go.Ab Go.Proofs Go.RowKit Go.Shelf
set_option maxRecDepth 100000 in
theorem dfr74:Zh3 Tryz.prog 74:=fun n cap w=>by
 refine⟨?_,?_⟩
 ·have h:=YH Tryz.func74 (c:=bodyOf Tryz.f74) rfl (by kernel_rfl) cap w
  have e:(invoke (.fn (.func 74) cap) #[]).run Tryz.prog w=(callFunc 74 cap).run Tryz.prog w:=by simp[go_sem,invoke]
  rw[e];exact h
 ·refine callsDIn_of_wpSIn Tryz.func74 rfl trivial fun c₀ cs hu=>?_;have hs:(cap++Array.replicate (Tryz.f74.ntmps-cap.size) undef).size=max cap.size 9:=by
   rw[Tryz.ntmps74];simp;omega
  generalize cap++Array.replicate (Tryz.f74.ntmps-cap.size) undef=tm at hs⊢;apply wpSIn_seq;apply wpSIn_region;simp[wpOpsSIn,go_sem,recoverD,hu,Exit.thenS];have l2:2<max cap.size 9:=by omega
  have l3:3<max cap.size 9:=by omega
  have l4:4<max cap.size 9:=by omega
  have l5:5<max cap.size 9:=by omega
  have hb:(binOp .neq 20 .nilIface .nilIface).run Tryz.prog w=.ok (.bool false) w:=by simp[binOp,Z4D Tryz.underlying20]
  apply wpSIn_seq;apply wpSIn_region;simp[wpOpsSIn,go_sem,hs,Exit.thenS,l2,l3,l4,hb];refine wpSIn_cond (t:=false) (by simp[Act.eval,hs,l5]) ?_
  simp only[Bool.false_eq_true,if_false];refine wpSIn_of_wpIn rfl (wpIn_skip ?_);cases c₀;simp_all [bodyPostS,results,Tryz.results74]
set_option maxHeartbeats 1000000 in
set_option maxRecDepth 100000 in
theorem cc143_used (b:Nat) (w:World) (h0:w.cell? ⟨b,0,none⟩=some (.pointer (some ⟨b,0,none⟩))) :
  Calls Tryz.prog 143 #[.pointer (some ⟨b,0,none⟩)] w fun e w'=>e=.returned (.tuple #[])/\w'=w:=by
 obtain⟨j,hj,_⟩:=Option.map_eq_some_iff.1 (show(Tryz.prog.info? 163).map (·.size)=some 2 by kernel_rfl)
 go_enter Tryz.func143,Tryz.ntmps143
 go_wp2
 rw[Lib.run_neq_ptr_same w _ Tryz.underlying161 hj]
 go_wp2
 go_end0
 exact⟨rfl,rfl⟩
set_option maxHeartbeats 1000000 in
set_option maxRecDepth 100000 in
theorem cc143_fresh (b:Nat) (w:World) (h0:w.cell? ⟨b,0,none⟩=some (.pointer none)) (hsh:w.shape? b=some (163,2)) (hfz:w.frozen? ⟨b,0,none⟩=false) :
  Calls Tryz.prog 143 #[.pointer (some ⟨b,0,none⟩)] w fun e w'=>e=.returned (.tuple #[])/\w'=w.setCell ⟨b,0,none⟩ (.pointer (some ⟨b,0,none⟩)):=by
 obtain⟨j,hj,hjs⟩:=Option.map_eq_some_iff.1 (show(Tryz.prog.info? 163).map (·.size)=some 2 by kernel_rfl)
 go_enter Tryz.func143,Tryz.ntmps143
 go_wp2
 rw[Lib.run_to_unsafe w ⟨b,0,none⟩ Tryz.underlying161 Tryz.underlying220 hj (by rw[hjs];decide) hsh (Nat.zero_lt_succ 1)]
 simp only[Result.andThen];rw[Oper.upon_value]
 go_wp2
 rw[run_callFunc_extern Tryz.func167 (by kernel_rfl) (by kernel_rfl) (by kernel_rfl) (e:=Extern.AbiNoEscape.same) (by kernel_rfl)]
 rw[Lib.run_noEscape];simp only[Result.andThen];rw[Oper.upon_value]
 go_wp2
 rw[Lib.run_from_unsafe w ⟨b,0,none⟩ Tryz.underlying220 Tryz.underlying161 hj hsh (show liesAt Tryz.prog Tryz.prog.depth 163 (2 / Tryz.prog.cellsOf 163) 0 163 1=true by kernel_rfl)]
 simp only[Result.andThen];rw[Oper.upon_value]
 go_wp2
 go_end0
 exact⟨rfl,rfl⟩
theorem ccOk143:Zjp Tryz.prog 143 163:=Zit (YH Tryz.func143 (c:=bodyOf Tryz.f143) rfl (by kernel_rfl)) cc143_used cc143_fresh
theorem leafOk144:Z4f Tryz.prog E.inv 144 Z3D:=Z9J (YH Tryz.func144 (c:=bodyOf Tryz.f144) rfl (by kernel_rfl)) fun s c w _=>Any.stringslite_IndexByte Tryz.lays217 s c w
theorem leafOk76:Z4f Tryz.prog E.inv 76 Z8W:=ZeF (YH Tryz.func76 (c:=bodyOf Tryz.f76) rfl (by kernel_rfl)) fun s q hs h1 w hi=>(let⟨m,hm⟩:=hi.1;Any.strings_Split { Tryz.laysM146 with } Tryz.laysM146.i9 s q m w hs hm h1)
theorem leafOk120:Z4f Tryz.prog E.inv 120 ZbT:=Zgz (YH Tryz.func120 (c:=bodyOf Tryz.f120) rfl (by kernel_rfl)) fun s hm v hv w _=>Calls.mono (Any.strconv_Atoi_ok Tryz.laysC172 s hm v hv w) fun e w' h=>⟨h.1,by rcases h.2 with h2|⟨t,h2⟩<;>rw[h2]<;>first|exact Below.refl _ _|exact ZcL w _ t⟩
theorem leafOk85:Z4f Tryz.prog E.inv 85 ZbU:=ZgA (YH Tryz.func85 (c:=bodyOf Tryz.f85) rfl (by kernel_rfl)) fun n h0 h1 w hi=>Calls.mono (Any.strconv_Itoa Tryz.laysM171 n h0 h1 w (Eq.mp (congrArg (fun s=>Lib.TabIs Tryz.prog w s .u64 Lib.pow10Tab) (by kernel_rfl)) hi.2)) fun e w' h=>⟨h.1,by obtain⟨k,os,h2⟩:=h.2;rw[h2];exact Zeo w k os⟩
theorem srtOk109:ZcE Tryz.prog 109 3:=Zic (YH Tryz.func109 (c:=bodyOf Tryz.f109) rfl (by kernel_rfl)) Tryz.lays189 (by kernel_rfl)
theorem clnOk138:∃ei,E.ty 38=some ei/\Z8i Tryz.prog 138 38 ei.size ei.bytes:=⟨⟨(.struct [(3,0),(3,1),(36,2)]),4,32,[(.int .i64 (0)),(.int .i64 (0)),(.int .i64 (0)),(.int .i64 (0))],true,true,[],false⟩,by kernel_rfl,Z6J (YH Tryz.func138 (c:=bodyOf Tryz.f138) rfl (by kernel_rfl)) Tryz.laysSlE041_f138 (by kernel_rfl) (by kernel_rfl) (Z7s (by kernel_rfl)) (by decide)⟩
theorem clnOk129:∃ei,E.ty 180=some ei/\Z8i Tryz.prog 129 180 ei.size ei.bytes:=⟨⟨(.struct [(3,0),(3,1)]),2,16,[(.int .i64 (0)),(.int .i64 (0))],true,true,[],false⟩,by kernel_rfl,Z6J (YH Tryz.func129 (c:=bodyOf Tryz.f129) rfl (by kernel_rfl)) Tryz.laysSlE041_f129 (by kernel_rfl) (by kernel_rfl) (Z7s (by kernel_rfl)) (by decide)⟩
theorem clnOk89:∃ei,E.ty 36=some ei/\Z8i Tryz.prog 89 36 ei.size ei.bytes:=⟨⟨(.struct [(3,0),(3,1)]),2,16,[(.int .i64 (0)),(.int .i64 (0))],true,true,[],false⟩,by kernel_rfl,Z6J (YH Tryz.func89 (c:=bodyOf Tryz.f89) rfl (by kernel_rfl)) Tryz.laysSlE041_f89 (by kernel_rfl) (by kernel_rfl) (Z7s (by kernel_rfl)) (by decide)⟩
theorem clnOk69:∃ei,E.ty 67=some ei/\Z8i Tryz.prog 69 67 ei.size ei.bytes:=⟨⟨(.struct [(3,0),(3,1),(36,2)]),4,32,[(.int .i64 (0)),(.int .i64 (0)),(.int .i64 (0)),(.int .i64 (0))],true,true,[],false⟩,by kernel_rfl,Z6J (YH Tryz.func69 (c:=bodyOf Tryz.f69) rfl (by kernel_rfl)) Tryz.laysSlE041_f69 (by kernel_rfl) (by kernel_rfl) (Z7s (by kernel_rfl)) (by decide)⟩
theorem clnAll:Zbv (fun g e=>∃ei,E.ty e=some ei/\Z8i Tryz.prog g e ei.size ei.bytes) clnT 1 0:=⟨⟨trivial,trivial,⟨⟨⟨⟨⟨⟨trivial,clnOk129,trivial⟩,trivial,trivial⟩,trivial,trivial⟩,trivial,trivial⟩,trivial,⟨trivial,trivial,⟨⟨trivial,clnOk89,trivial⟩,trivial,trivial⟩⟩⟩,trivial,⟨⟨⟨⟨trivial,clnOk69,trivial⟩,trivial,trivial⟩,trivial,trivial⟩,trivial,trivial⟩⟩⟩,trivial,⟨trivial,trivial,⟨⟨trivial,trivial,⟨⟨⟨⟨trivial,clnOk138,trivial⟩,trivial,trivial⟩,trivial,trivial⟩,trivial,trivial⟩⟩,trivial,trivial⟩⟩⟩
theorem srtAll:Zbv (fun g e=>ZcE Tryz.prog g e) srtT 1 0:=⟨⟨trivial,trivial,⟨trivial,trivial,⟨trivial,trivial,⟨⟨trivial,trivial,⟨trivial,srtOk109,trivial⟩⟩,trivial,trivial⟩⟩⟩⟩,trivial,trivial⟩
theorem leafAll:Zbv (fun g L=>Z4f Tryz.prog E.inv g L) leafT 1 0:=⟨⟨trivial,trivial,⟨trivial,trivial,⟨⟨trivial,trivial,⟨⟨trivial,leafOk85,trivial⟩,trivial,trivial⟩⟩,trivial,trivial⟩⟩⟩,trivial,⟨⟨⟨⟨trivial,trivial,⟨⟨⟨trivial,leafOk144,trivial⟩,trivial,trivial⟩,trivial,trivial⟩⟩,trivial,⟨trivial,trivial,⟨trivial,trivial,⟨trivial,leafOk120,trivial⟩⟩⟩⟩,trivial,⟨trivial,trivial,⟨⟨⟨trivial,leafOk76,trivial⟩,trivial,trivial⟩,trivial,trivial⟩⟩⟩,trivial,trivial⟩⟩
theorem ccAll:Zbv (fun g t=>Zjp Tryz.prog g t) ccT 1 0:=⟨⟨⟨⟨⟨trivial,trivial,⟨⟨⟨trivial,ccOk143,trivial⟩,trivial,trivial⟩,trivial,trivial⟩⟩,trivial,trivial⟩,trivial,trivial⟩,trivial,trivial⟩,trivial,trivial⟩
end Go.Proofs.YtlngokonhalcdaaGreatDoor
namespace Go.Proofs.YtlngokonhalcdaaGreatDoor
open Go.Ab Go.Proofs
theorem tyAll:Zek (fun t i=>Zij Tryz.prog t i) tyT=true:=by kernel_rfl
theorem tabTy:∀t ti,E.ty t=some ti->ZO Tryz.prog t ti:=fun _ _ h=>Z7s (Z6D tyAll h)
theorem mixed:Tryz.prog.follows .mixedOrders=true:=by kernel_rfl
theorem fnOk_of {f : Nat} {fn : Func} {m : Nat} {hs : List Z3P} {pu : Bool} {xm : List (Nat × Nat)} {rm : Nat} {ca : Bool} {pb : List (Nat × Nat)} {mr : List (Nat × Nat × Nat × TypeId × Nat)} (hf : Tryz.prog.funcs[f]? = some fn) (hb : fn.body = some (bodyOf fn)) (hn : (fn.name == "runtime.NumGoroutine") = false) : Zv Tryz.prog f ⟨bodyOf fn, fn.ntmps, fn.results.toList, m, hs, pu, xm, rm, ca, pb, mr⟩ := ⟨⟨fn, hf, hb, rfl, rfl⟩, Go.Ab.YH hf hb hn⟩
theorem fnOk3:Zv Tryz.prog 3 g3:=fnOk_of Tryz.func3 rfl (by kernel_rfl)
theorem fnOk4:Zv Tryz.prog 4 g4:=fnOk_of Tryz.func4 rfl (by kernel_rfl)
theorem fnOk5:Zv Tryz.prog 5 g5:=fnOk_of Tryz.func5 rfl (by kernel_rfl)
theorem fnOk6:Zv Tryz.prog 6 g6:=fnOk_of Tryz.func6 rfl (by kernel_rfl)
theorem fnOk7:Zv Tryz.prog 7 g7:=fnOk_of Tryz.func7 rfl (by kernel_rfl)
theorem fnOk8:Zv Tryz.prog 8 g8:=fnOk_of Tryz.func8 rfl (by kernel_rfl)
theorem fnOk9:Zv Tryz.prog 9 g9:=fnOk_of Tryz.func9 rfl (by kernel_rfl)
theorem fnOk10:Zv Tryz.prog 10 g10:=fnOk_of Tryz.func10 rfl (by kernel_rfl)
theorem fnOk11:Zv Tryz.prog 11 g11:=fnOk_of Tryz.func11 rfl (by kernel_rfl)
theorem fnOk12:Zv Tryz.prog 12 g12:=fnOk_of Tryz.func12 rfl (by kernel_rfl)
theorem fnOk13:Zv Tryz.prog 13 g13:=fnOk_of Tryz.func13 rfl (by kernel_rfl)
theorem fnOk14:Zv Tryz.prog 14 g14:=fnOk_of Tryz.func14 rfl (by kernel_rfl)
theorem fnOk15:Zv Tryz.prog 15 g15:=fnOk_of Tryz.func15 rfl (by kernel_rfl)
theorem fnOk16:Zv Tryz.prog 16 g16:=fnOk_of Tryz.func16 rfl (by kernel_rfl)
theorem fnOk17:Zv Tryz.prog 17 g17:=fnOk_of Tryz.func17 rfl (by kernel_rfl)
theorem fnOk18:Zv Tryz.prog 18 g18:=fnOk_of Tryz.func18 rfl (by kernel_rfl)
theorem fnOk19:Zv Tryz.prog 19 g19:=fnOk_of Tryz.func19 rfl (by kernel_rfl)
theorem fnOk20:Zv Tryz.prog 20 g20:=fnOk_of Tryz.func20 rfl (by kernel_rfl)
theorem fnOk21:Zv Tryz.prog 21 g21:=fnOk_of Tryz.func21 rfl (by kernel_rfl)
theorem fnOk22:Zv Tryz.prog 22 g22:=fnOk_of Tryz.func22 rfl (by kernel_rfl)
theorem fnOk23:Zv Tryz.prog 23 g23:=fnOk_of Tryz.func23 rfl (by kernel_rfl)
theorem fnOk24:Zv Tryz.prog 24 g24:=fnOk_of Tryz.func24 rfl (by kernel_rfl)
theorem fnOk25:Zv Tryz.prog 25 g25:=fnOk_of Tryz.func25 rfl (by kernel_rfl)
theorem fnOk26:Zv Tryz.prog 26 g26:=fnOk_of Tryz.func26 rfl (by kernel_rfl)
theorem fnOk27:Zv Tryz.prog 27 g27:=fnOk_of Tryz.func27 rfl (by kernel_rfl)
theorem fnOk28:Zv Tryz.prog 28 g28:=fnOk_of Tryz.func28 rfl (by kernel_rfl)
theorem fnOk29:Zv Tryz.prog 29 g29:=fnOk_of Tryz.func29 rfl (by kernel_rfl)
theorem fnOk30:Zv Tryz.prog 30 g30:=fnOk_of Tryz.func30 rfl (by kernel_rfl)
theorem fnOk31:Zv Tryz.prog 31 g31:=fnOk_of Tryz.func31 rfl (by kernel_rfl)
theorem fnOk32:Zv Tryz.prog 32 g32:=fnOk_of Tryz.func32 rfl (by kernel_rfl)
theorem fnOk33:Zv Tryz.prog 33 g33:=fnOk_of Tryz.func33 rfl (by kernel_rfl)
theorem fnOk34:Zv Tryz.prog 34 g34:=fnOk_of Tryz.func34 rfl (by kernel_rfl)
theorem fnOk35:Zv Tryz.prog 35 g35:=fnOk_of Tryz.func35 rfl (by kernel_rfl)
theorem fnOk36:Zv Tryz.prog 36 g36:=fnOk_of Tryz.func36 rfl (by kernel_rfl)
theorem fnOk37:Zv Tryz.prog 37 g37:=fnOk_of Tryz.func37 rfl (by kernel_rfl)
theorem fnOk38:Zv Tryz.prog 38 g38:=fnOk_of Tryz.func38 rfl (by kernel_rfl)
theorem fnOk39:Zv Tryz.prog 39 g39:=fnOk_of Tryz.func39 rfl (by kernel_rfl)
theorem fnOk40:Zv Tryz.prog 40 g40:=fnOk_of Tryz.func40 rfl (by kernel_rfl)
theorem fnOk41:Zv Tryz.prog 41 g41:=fnOk_of Tryz.func41 rfl (by kernel_rfl)
theorem fnOk42:Zv Tryz.prog 42 g42:=fnOk_of Tryz.func42 rfl (by kernel_rfl)
theorem fnOk43:Zv Tryz.prog 43 g43:=fnOk_of Tryz.func43 rfl (by kernel_rfl)
theorem fnOk44:Zv Tryz.prog 44 g44:=fnOk_of Tryz.func44 rfl (by kernel_rfl)
theorem fnOk45:Zv Tryz.prog 45 g45:=fnOk_of Tryz.func45 rfl (by kernel_rfl)
theorem fnOk46:Zv Tryz.prog 46 g46:=fnOk_of Tryz.func46 rfl (by kernel_rfl)
theorem fnOk47:Zv Tryz.prog 47 g47:=fnOk_of Tryz.func47 rfl (by kernel_rfl)
theorem fnOk48:Zv Tryz.prog 48 g48:=fnOk_of Tryz.func48 rfl (by kernel_rfl)
theorem fnOk49:Zv Tryz.prog 49 g49:=fnOk_of Tryz.func49 rfl (by kernel_rfl)
theorem fnOk50:Zv Tryz.prog 50 g50:=fnOk_of Tryz.func50 rfl (by kernel_rfl)
theorem fnOk51:Zv Tryz.prog 51 g51:=fnOk_of Tryz.func51 rfl (by kernel_rfl)
theorem fnOk52:Zv Tryz.prog 52 g52:=fnOk_of Tryz.func52 rfl (by kernel_rfl)
theorem fnOk53:Zv Tryz.prog 53 g53:=fnOk_of Tryz.func53 rfl (by kernel_rfl)
theorem fnOk54:Zv Tryz.prog 54 g54:=fnOk_of Tryz.func54 rfl (by kernel_rfl)
theorem fnOk55:Zv Tryz.prog 55 g55:=fnOk_of Tryz.func55 rfl (by kernel_rfl)
theorem fnOk56:Zv Tryz.prog 56 g56:=fnOk_of Tryz.func56 rfl (by kernel_rfl)
theorem fnOk57:Zv Tryz.prog 57 g57:=fnOk_of Tryz.func57 rfl (by kernel_rfl)
theorem fnOk58:Zv Tryz.prog 58 g58:=fnOk_of Tryz.func58 rfl (by kernel_rfl)
theorem fnOk59:Zv Tryz.prog 59 g59:=fnOk_of Tryz.func59 rfl (by kernel_rfl)
theorem fnOk60:Zv Tryz.prog 60 g60:=fnOk_of Tryz.func60 rfl (by kernel_rfl)
theorem fnOk61:Zv Tryz.prog 61 g61:=fnOk_of Tryz.func61 rfl (by kernel_rfl)
theorem fnOk62:Zv Tryz.prog 62 g62:=fnOk_of Tryz.func62 rfl (by kernel_rfl)
theorem fnOk63:Zv Tryz.prog 63 g63:=fnOk_of Tryz.func63 rfl (by kernel_rfl)
theorem fnOk64:Zv Tryz.prog 64 g64:=fnOk_of Tryz.func64 rfl (by kernel_rfl)
theorem fnOk65:Zv Tryz.prog 65 g65:=fnOk_of Tryz.func65 rfl (by kernel_rfl)
theorem fnOk66:Zv Tryz.prog 66 g66:=fnOk_of Tryz.func66 rfl (by kernel_rfl)
theorem fnOk67:Zv Tryz.prog 67 g67:=fnOk_of Tryz.func67 rfl (by kernel_rfl)
theorem fnOk68:Zv Tryz.prog 68 g68:=fnOk_of Tryz.func68 rfl (by kernel_rfl)
theorem fnOk70:Zv Tryz.prog 70 g70:=fnOk_of Tryz.func70 rfl (by kernel_rfl)
theorem fnOk71:Zv Tryz.prog 71 g71:=fnOk_of Tryz.func71 rfl (by kernel_rfl)
theorem fnOk72:Zv Tryz.prog 72 g72:=fnOk_of Tryz.func72 rfl (by kernel_rfl)
theorem fnOk73:Zv Tryz.prog 73 g73:=fnOk_of Tryz.func73 rfl (by kernel_rfl)
theorem fnOk75:Zv Tryz.prog 75 g75:=fnOk_of Tryz.func75 rfl (by kernel_rfl)
theorem fnOk77:Zv Tryz.prog 77 g77:=fnOk_of Tryz.func77 rfl (by kernel_rfl)
theorem fnOk78:Zv Tryz.prog 78 g78:=fnOk_of Tryz.func78 rfl (by kernel_rfl)
theorem fnOk79:Zv Tryz.prog 79 g79:=fnOk_of Tryz.func79 rfl (by kernel_rfl)
theorem fnOk80:Zv Tryz.prog 80 g80:=fnOk_of Tryz.func80 rfl (by kernel_rfl)
theorem fnOk81:Zv Tryz.prog 81 g81:=fnOk_of Tryz.func81 rfl (by kernel_rfl)
theorem fnOk82:Zv Tryz.prog 82 g82:=fnOk_of Tryz.func82 rfl (by kernel_rfl)
theorem fnOk83:Zv Tryz.prog 83 g83:=fnOk_of Tryz.func83 rfl (by kernel_rfl)
theorem fnOk84:Zv Tryz.prog 84 g84:=fnOk_of Tryz.func84 rfl (by kernel_rfl)
theorem fnOk86:Zv Tryz.prog 86 g86:=fnOk_of Tryz.func86 rfl (by kernel_rfl)
theorem fnOk87:Zv Tryz.prog 87 g87:=fnOk_of Tryz.func87 rfl (by kernel_rfl)
theorem fnOk88:Zv Tryz.prog 88 g88:=fnOk_of Tryz.func88 rfl (by kernel_rfl)
theorem fnOk90:Zv Tryz.prog 90 g90:=fnOk_of Tryz.func90 rfl (by kernel_rfl)
theorem fnOk91:Zv Tryz.prog 91 g91:=fnOk_of Tryz.func91 rfl (by kernel_rfl)
theorem fnOk92:Zv Tryz.prog 92 g92:=fnOk_of Tryz.func92 rfl (by kernel_rfl)
theorem fnOk93:Zv Tryz.prog 93 g93:=fnOk_of Tryz.func93 rfl (by kernel_rfl)
theorem fnOk94:Zv Tryz.prog 94 g94:=fnOk_of Tryz.func94 rfl (by kernel_rfl)
theorem fnOk95:Zv Tryz.prog 95 g95:=fnOk_of Tryz.func95 rfl (by kernel_rfl)
theorem fnOk96:Zv Tryz.prog 96 g96:=fnOk_of Tryz.func96 rfl (by kernel_rfl)
theorem fnOk97:Zv Tryz.prog 97 g97:=fnOk_of Tryz.func97 rfl (by kernel_rfl)
theorem fnOk98:Zv Tryz.prog 98 g98:=fnOk_of Tryz.func98 rfl (by kernel_rfl)
theorem fnOk99:Zv Tryz.prog 99 g99:=fnOk_of Tryz.func99 rfl (by kernel_rfl)
theorem fnOk100:Zv Tryz.prog 100 g100:=fnOk_of Tryz.func100 rfl (by kernel_rfl)
theorem fnOk101:Zv Tryz.prog 101 g101:=fnOk_of Tryz.func101 rfl (by kernel_rfl)
theorem fnOk102:Zv Tryz.prog 102 g102:=fnOk_of Tryz.func102 rfl (by kernel_rfl)
theorem fnOk103:Zv Tryz.prog 103 g103:=fnOk_of Tryz.func103 rfl (by kernel_rfl)
theorem fnOk104:Zv Tryz.prog 104 g104:=fnOk_of Tryz.func104 rfl (by kernel_rfl)
theorem fnOk105:Zv Tryz.prog 105 g105:=fnOk_of Tryz.func105 rfl (by kernel_rfl)
theorem fnOk106:Zv Tryz.prog 106 g106:=fnOk_of Tryz.func106 rfl (by kernel_rfl)
theorem fnOk107:Zv Tryz.prog 107 g107:=fnOk_of Tryz.func107 rfl (by kernel_rfl)
theorem fnOk108:Zv Tryz.prog 108 g108:=fnOk_of Tryz.func108 rfl (by kernel_rfl)
theorem fnOk110:Zv Tryz.prog 110 g110:=fnOk_of Tryz.func110 rfl (by kernel_rfl)
theorem fnOk111:Zv Tryz.prog 111 g111:=fnOk_of Tryz.func111 rfl (by kernel_rfl)
theorem fnOk112:Zv Tryz.prog 112 g112:=fnOk_of Tryz.func112 rfl (by kernel_rfl)
theorem fnOk113:Zv Tryz.prog 113 g113:=fnOk_of Tryz.func113 rfl (by kernel_rfl)
theorem fnOk114:Zv Tryz.prog 114 g114:=fnOk_of Tryz.func114 rfl (by kernel_rfl)
theorem fnOk115:Zv Tryz.prog 115 g115:=fnOk_of Tryz.func115 rfl (by kernel_rfl)
theorem fnOk116:Zv Tryz.prog 116 g116:=fnOk_of Tryz.func116 rfl (by kernel_rfl)
theorem fnOk117:Zv Tryz.prog 117 g117:=fnOk_of Tryz.func117 rfl (by kernel_rfl)
theorem fnOk119:Zv Tryz.prog 119 g119:=fnOk_of Tryz.func119 rfl (by kernel_rfl)
theorem fnOk121:Zv Tryz.prog 121 g121:=fnOk_of Tryz.func121 rfl (by kernel_rfl)
theorem fnOk122:Zv Tryz.prog 122 g122:=fnOk_of Tryz.func122 rfl (by kernel_rfl)
theorem fnOk123:Zv Tryz.prog 123 g123:=fnOk_of Tryz.func123 rfl (by kernel_rfl)
theorem fnOk125:Zv Tryz.prog 125 g125:=fnOk_of Tryz.func125 rfl (by kernel_rfl)
theorem fnOk126:Zv Tryz.prog 126 g126:=fnOk_of Tryz.func126 rfl (by kernel_rfl)
theorem fnOk127:Zv Tryz.prog 127 g127:=fnOk_of Tryz.func127 rfl (by kernel_rfl)
theorem fnOk128:Zv Tryz.prog 128 g128:=fnOk_of Tryz.func128 rfl (by kernel_rfl)
theorem fnOk130:Zv Tryz.prog 130 g130:=fnOk_of Tryz.func130 rfl (by kernel_rfl)
theorem fnOk131:Zv Tryz.prog 131 g131:=fnOk_of Tryz.func131 rfl (by kernel_rfl)
theorem fnOk132:Zv Tryz.prog 132 g132:=fnOk_of Tryz.func132 rfl (by kernel_rfl)
theorem fnOk133:Zv Tryz.prog 133 g133:=fnOk_of Tryz.func133 rfl (by kernel_rfl)
theorem fnOk134:Zv Tryz.prog 134 g134:=fnOk_of Tryz.func134 rfl (by kernel_rfl)
theorem fnOk135:Zv Tryz.prog 135 g135:=fnOk_of Tryz.func135 rfl (by kernel_rfl)
theorem fnOk136:Zv Tryz.prog 136 g136:=fnOk_of Tryz.func136 rfl (by kernel_rfl)
theorem fnOk137:Zv Tryz.prog 137 g137:=fnOk_of Tryz.func137 rfl (by kernel_rfl)
theorem fnOk141:Zv Tryz.prog 141 g141:=fnOk_of Tryz.func141 rfl (by kernel_rfl)
theorem fnOk142:Zv Tryz.prog 142 g142:=fnOk_of Tryz.func142 rfl (by kernel_rfl)
theorem fnOk148:Zv Tryz.prog 148 g148:=fnOk_of Tryz.func148 rfl (by kernel_rfl)
theorem fnOk152:Zv Tryz.prog 152 g152:=fnOk_of Tryz.func152 rfl (by kernel_rfl)
theorem fnOk153:Zv Tryz.prog 153 g153:=fnOk_of Tryz.func153 rfl (by kernel_rfl)
theorem fnOk154:Zv Tryz.prog 154 g154:=fnOk_of Tryz.func154 rfl (by kernel_rfl)
theorem fnOk155:Zv Tryz.prog 155 g155:=fnOk_of Tryz.func155 rfl (by kernel_rfl)
theorem fnOk182:Zv Tryz.prog 182 g182:=fnOk_of Tryz.func182 rfl (by kernel_rfl)
theorem fnAll:Zbv (fun f F=>Zv Tryz.prog f F) fnT 1 0:=⟨⟨⟨⟨⟨⟨⟨⟨trivial,fnOk127,trivial⟩,fnOk63,trivial⟩,fnOk31,⟨trivial,fnOk95,trivial⟩⟩,fnOk15,⟨⟨trivial,fnOk79,trivial⟩,fnOk47,⟨trivial,fnOk111,trivial⟩⟩⟩,fnOk7,⟨⟨⟨⟨trivial,fnOk135,trivial⟩,fnOk71,trivial⟩,fnOk39,⟨trivial,fnOk103,trivial⟩⟩,fnOk23,⟨⟨trivial,fnOk87,trivial⟩,fnOk55,⟨trivial,fnOk119,trivial⟩⟩⟩⟩,fnOk3,⟨⟨⟨⟨⟨trivial,fnOk131,trivial⟩,fnOk67,trivial⟩,fnOk35,⟨trivial,fnOk99,trivial⟩⟩,fnOk19,⟨⟨trivial,fnOk83,trivial⟩,fnOk51,⟨trivial,fnOk115,trivial⟩⟩⟩,fnOk11,⟨⟨⟨trivial,fnOk75,trivial⟩,fnOk43,⟨trivial,fnOk107,trivial⟩⟩,fnOk27,⟨⟨⟨trivial,fnOk155,trivial⟩,fnOk91,trivial⟩,fnOk59,⟨trivial,fnOk123,trivial⟩⟩⟩⟩⟩,trivial,⟨⟨⟨⟨⟨trivial,fnOk65,trivial⟩,fnOk33,⟨trivial,fnOk97,trivial⟩⟩,fnOk17,⟨⟨trivial,fnOk81,trivial⟩,fnOk49,⟨trivial,fnOk113,trivial⟩⟩⟩,fnOk9,⟨⟨⟨⟨trivial,fnOk137,trivial⟩,fnOk73,trivial⟩,fnOk41,⟨trivial,fnOk105,trivial⟩⟩,fnOk25,⟨⟨⟨trivial,fnOk153,trivial⟩,trivial,trivial⟩,fnOk57,⟨trivial,fnOk121,trivial⟩⟩⟩⟩,fnOk5,⟨⟨⟨⟨⟨trivial,fnOk133,trivial⟩,trivial,trivial⟩,fnOk37,⟨trivial,fnOk101,trivial⟩⟩,fnOk21,⟨trivial,fnOk53,⟨trivial,fnOk117,trivial⟩⟩⟩,fnOk13,⟨⟨⟨⟨trivial,fnOk141,trivial⟩,fnOk77,trivial⟩,fnOk45,trivial⟩,fnOk29,⟨⟨trivial,fnOk93,trivial⟩,fnOk61,⟨trivial,fnOk125,trivial⟩⟩⟩⟩⟩⟩,trivial,⟨⟨⟨⟨⟨⟨⟨trivial,fnOk128,trivial⟩,fnOk64,trivial⟩,fnOk32,⟨trivial,fnOk96,trivial⟩⟩,fnOk16,⟨⟨trivial,fnOk80,trivial⟩,fnOk48,⟨trivial,fnOk112,trivial⟩⟩⟩,fnOk8,⟨⟨⟨⟨trivial,fnOk136,trivial⟩,fnOk72,trivial⟩,fnOk40,⟨trivial,fnOk104,trivial⟩⟩,fnOk24,⟨⟨⟨trivial,fnOk152,trivial⟩,fnOk88,trivial⟩,fnOk56,trivial⟩⟩⟩,fnOk4,⟨⟨⟨⟨⟨trivial,fnOk132,trivial⟩,fnOk68,trivial⟩,fnOk36,⟨trivial,fnOk100,trivial⟩⟩,fnOk20,⟨⟨⟨trivial,fnOk148,trivial⟩,fnOk84,trivial⟩,fnOk52,⟨trivial,fnOk116,trivial⟩⟩⟩,fnOk12,⟨⟨trivial,fnOk44,⟨trivial,fnOk108,trivial⟩⟩,fnOk28,⟨⟨trivial,fnOk92,trivial⟩,fnOk60,trivial⟩⟩⟩⟩,trivial,⟨⟨⟨⟨⟨⟨trivial,fnOk130,trivial⟩,fnOk66,trivial⟩,fnOk34,⟨trivial,fnOk98,trivial⟩⟩,fnOk18,⟨⟨trivial,fnOk82,trivial⟩,fnOk50,⟨trivial,fnOk114,trivial⟩⟩⟩,fnOk10,⟨⟨trivial,fnOk42,⟨trivial,fnOk106,trivial⟩⟩,fnOk26,⟨⟨⟨trivial,fnOk154,trivial⟩,fnOk90,trivial⟩,fnOk58,⟨trivial,fnOk122,trivial⟩⟩⟩⟩,fnOk6,⟨⟨⟨⟨⟨trivial,fnOk134,trivial⟩,fnOk70,trivial⟩,fnOk38,⟨trivial,fnOk102,trivial⟩⟩,fnOk22,⟨⟨trivial,fnOk86,trivial⟩,fnOk54,⟨⟨trivial,fnOk182,trivial⟩,trivial,trivial⟩⟩⟩,fnOk14,⟨⟨⟨⟨trivial,fnOk142,trivial⟩,fnOk78,trivial⟩,fnOk46,⟨trivial,fnOk110,trivial⟩⟩,fnOk30,⟨⟨trivial,fnOk94,trivial⟩,fnOk62,⟨trivial,fnOk126,trivial⟩⟩⟩⟩⟩⟩⟩
theorem tabFn:Z8j Tryz.prog E where
 fn:=fun _ _ h=>Z3T fnAll h
 leaf:=fun _ _ xs d h=>Z3T leafAll h xs d
 dfr:=fun g h=>by
  unfold E at h;simp only[Bool.or_eq_true]at h;exact Nat.eq_of_beq_eq_true h▸dfr74
 cc:=fun _ _ h=>Z3T ccAll h
 cln:=fun _ _ h=>Z3T clnAll h
 srt:=fun _ _ h=>Z3T srtAll h
end Go.Proofs.YtlngokonhalcdaaGreatDoor
