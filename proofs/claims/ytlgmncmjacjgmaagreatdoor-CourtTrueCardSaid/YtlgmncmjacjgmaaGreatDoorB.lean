/- The tables of the program, and that they are right. -/
import Derived.Test.YtlgmncmjacjgmaaGreatDoorA3
import Derived.Test.YtlgmncmjacjgmaaGreatDoorL
import Derived.Test.YtlgmncmjacjgmaaGreatDoorProg
import Derived.Shelf.LaysM
import Derived.Shelf.LaysC
import Derived.Shelf.Strconv.Itoa3
import Derived.Shelf.Strconv.AtoiAll
import Derived.Shelf.Strings.Shaped
import Derived.Shelf.Strings.SplitShaped
import Derived.Shelf.Strings.Search1
import Derived.Shelf.SlicesE.Clone
import Derived.Shelf.Sort.Plain
import Derived.Shelf.Slices.In.SortNone
import Derived.Ground.SlgnProg
import Derived.Shelf.Strings.Builder1
import Derived.Lib.Walk
import Derived.TacticsInMore
import Derived.RegionIn
import Derived.RecoverIn
import Derived.KernelRfl
set_option linter.unusedSectionVars false
set_option linter.unusedVariables false
set_option linter.unusedSimpArgs false
namespace Go.Proofs.YtlgmncmjacjgmaaGreatDoor
open Go.Ab Go.Proofs
def tyT : Tr TI := (.node (.node (.node (.node (.node (.node (.node (.node (.node .leaf (some ⟨(.struct [(9, 0)]), 1, 16, [(.str ⟨#[]⟩)], true, true, [], false⟩) .leaf) none .leaf) none .leaf) (some ⟨(.int .i64), 1, 8, [(.int .i64 (0))], false, false, [], false⟩) (.node .leaf none (.node .leaf (some ⟨(.array 24 5), 24, 24, [(.int .u8 (0)), (.int .u8 (0)), (.int .u8 (0)), (.int .u8 (0)), (.int .u8 (0)), (.int .u8 (0)), (.int .u8 (0)), (.int .u8 (0)), (.int .u8 (0)), (.int .u8 (0)), (.int .u8 (0)), (.int .u8 (0)), (.int .u8 (0)), (.int .u8 (0)), (.int .u8 (0)), (.int .u8 (0)), (.int .u8 (0)), (.int .u8 (0)), (.int .u8 (0)), (.int .u8 (0)), (.int .u8 (0)), (.int .u8 (0)), (.int .u8 (0)), (.int .u8 (0))], true, false, [], false⟩) .leaf))) none (.node (.node (.node .leaf (some ⟨(.slice 150), 1, 24, [.nils], false, false, [], false⟩) .leaf) none .leaf) none (.node (.node .leaf (some ⟨.iface, 1, 16, [.nilif], false, false, [], false⟩) .leaf) none .leaf))) (some ⟨(.struct [(2, 0), (3, 1), (4, 2), (6, 3)]), 4, 24, [(.int .i64 (0)), (.int .i64 (0)), (.bool false), (.int .u8 (0))], true, true, [], false⟩) (.node (.node (.node .leaf none (.node .leaf (some ⟨(.int .i64), 1, 8, [(.int .i64 (0))], false, false, [], false⟩) .leaf)) none (.node (.node .leaf (some ⟨.func, 1, 8, [.nilfn], false, false, [], false⟩) .leaf) (some ⟨(.array 10 28), 20, 160, [(.int .i64 (0)), (.int .i64 (0)), (.int .i64 (0)), (.int .i64 (0)), (.int .i64 (0)), (.int .i64 (0)), (.int .i64 (0)), (.int .i64 (0)), (.int .i64 (0)), (.int .i64 (0)), (.int .i64 (0)), (.int .i64 (0)), (.int .i64 (0)), (.int .i64 (0)), (.int .i64 (0)), (.int .i64 (0)), (.int .i64 (0)), (.int .i64 (0)), (.int .i64 (0)), (.int .i64 (0))], true, false, [], false⟩) .leaf)) (some ⟨(.slice 49), 1, 24, [.nils], false, false, [], false⟩) (.node .leaf none (.node .leaf (some ⟨(.struct [(34, 0), (34, 1), (118, 2)]), 3, 72, [.nils, .nils, .nils], false, false, [], false⟩) (.node .leaf (some ⟨(.struct [(5, 0), (5, 1)]), 2, 2, [(.int .u8 (0)), (.int .u8 (0))], true, true, [], false⟩) .leaf))))) (some ⟨(.int .i64), 1, 8, [(.int .i64 (0))], false, false, [], false⟩) (.node (.node (.node .leaf none (.node (.node .leaf (some ⟨(.struct [(3, 0), (3, 1)]), 2, 16, [(.int .i64 (0)), (.int .i64 (0))], true, true, [], false⟩) .leaf) none (.node .leaf (some ⟨(.int .u64), 1, 8, [(.int .u64 (0))], false, false, [], false⟩) .leaf))) none (.node (.node (.node .leaf (some ⟨.func, 1, 8, [.nilfn], false, false, [], false⟩) .leaf) none .leaf) none .leaf)) (some ⟨.string, 1, 16, [(.str ⟨#[]⟩)], false, false, [], false⟩) (.node (.node (.node (.node (.node .leaf (some ⟨(.int .i32), 1, 4, [(.int .i32 (0))], false, false, [], false⟩) .leaf) none .leaf) none .leaf) (some ⟨(.slice 5), 1, 24, [.nils], false, false, [], false⟩) (.node (.node .leaf (some ⟨(.ptr 173), 1, 8, [.nilp], false, false, [], false⟩) .leaf) none .leaf)) (some ⟨(.struct [(3, 0), (3, 1)]), 2, 16, [(.int .i64 (0)), (.int .i64 (0))], true, true, [], false⟩) (.node .leaf (some ⟨(.struct [(52, 0), (52, 1)]), 2, 48, [.nils, .nils], false, false, [], false⟩) (.node (.node .leaf (some ⟨.func, 1, 8, [.nilfn], false, false, [], false⟩) .leaf) (some ⟨.func, 1, 8, [.nilfn], false, false, [], false⟩) .leaf))))) (some ⟨.func, 1, 8, [.nilfn], false, false, [], false⟩) (.node (.node (.node (.node (.node (.node (.node .leaf (some ⟨(.array 64 5), 64, 64, [(.int .u8 (0)), (.int .u8 (0)), (.int .u8 (0)), (.int .u8 (0)), (.int .u8 (0)), (.int .u8 (0)), (.int .u8 (0)), (.int .u8 (0)), (.int .u8 (0)), (.int .u8 (0)), (.int .u8 (0)), (.int .u8 (0)), (.int .u8 (0)), (.int .u8 (0)), (.int .u8 (0)), (.int .u8 (0)), (.int .u8 (0)), (.int .u8 (0)), (.int .u8 (0)), (.int .u8 (0)), (.int .u8 (0)), (.int .u8 (0)), (.int .u8 (0)), (.int .u8 (0)), (.int .u8 (0)), (.int .u8 (0)), (.int .u8 (0)), (.int .u8 (0)), (.int .u8 (0)), (.int .u8 (0)), (.int .u8 (0)), (.int .u8 (0)), (.int .u8 (0)), (.int .u8 (0)), (.int .u8 (0)), (.int .u8 (0)), (.int .u8 (0)), (.int .u8 (0)), (.int .u8 (0)), (.int .u8 (0)), (.int .u8 (0)), (.int .u8 (0)), (.int .u8 (0)), (.int .u8 (0)), (.int .u8 (0)), (.int .u8 (0)), (.int .u8 (0)), (.int .u8 (0)), (.int .u8 (0)), (.int .u8 (0)), (.int .u8 (0)), (.int .u8 (0)), (.int .u8 (0)), (.int .u8 (0)), (.int .u8 (0)), (.int .u8 (0)), (.int .u8 (0)), (.int .u8 (0)), (.int .u8 (0)), (.int .u8 (0)), (.int .u8 (0)), (.int .u8 (0)), (.int .u8 (0)), (.int .u8 (0))], true, false, [], false⟩) .leaf) none .leaf) none .leaf) none .leaf) none (.node .leaf (some ⟨(.struct [(3, 0), (3, 1), (28, 2)]), 4, 32, [(.int .i64 (0)), (.int .i64 (0)), (.int .i64 (0)), (.int .i64 (0))], true, true, [], false⟩) (.node .leaf none (.node .leaf (some ⟨(.array 20 210), 20, 160, [(.int .u64 (0)), (.int .u64 (0)), (.int .u64 (0)), (.int .u64 (0)), (.int .u64 (0)), (.int .u64 (0)), (.int .u64 (0)), (.int .u64 (0)), (.int .u64 (0)), (.int .u64 (0)), (.int .u64 (0)), (.int .u64 (0)), (.int .u64 (0)), (.int .u64 (0)), (.int .u64 (0)), (.int .u64 (0)), (.int .u64 (0)), (.int .u64 (0)), (.int .u64 (0)), (.int .u64 (0))], true, false, [], false⟩) .leaf)))) (some ⟨.string, 1, 16, [(.str ⟨#[]⟩)], false, false, [], false⟩) (.node (.node (.node (.node (.node .leaf (some ⟨(.int .u8), 1, 1, [(.int .u8 (0))], false, false, [], false⟩) .leaf) (some ⟨.func, 1, 8, [.nilfn], false, false, [], false⟩) .leaf) (some ⟨(.array 4 61), 4, 8, [(.int .u16 (0)), (.int .u16 (0)), (.int .u16 (0)), (.int .u16 (0))], true, false, [], false⟩) .leaf) (some ⟨(.struct [(26, 0), (30, 1)]), 5, 56, [.nils, (.int .i64 (0)), (.int .i64 (0)), (.int .i64 (0)), (.int .i64 (0))], false, false, [], false⟩) (.node .leaf (some ⟨.func, 1, 8, [.nilfn], false, false, [], false⟩) .leaf)) (some ⟨(.struct [(22, 0), (23, 1)]), 2, 48, [.nils, .nils], false, false, [], false⟩) (.node (.node .leaf (some ⟨(.slice 34), 1, 24, [.nils], false, false, [], false⟩) (.node .leaf (some ⟨(.int .i64), 1, 8, [(.int .i64 (0))], false, false, [], false⟩) .leaf)) none (.node (.node .leaf (some ⟨(.int .u64), 1, 8, [(.int .u64 (0))], false, false, [], false⟩) .leaf) none (.node .leaf (some ⟨(.array 16 248), 32, 32, [(.int .u8 (0)), (.int .u8 (0)), (.int .u8 (0)), (.int .u8 (0)), (.int .u8 (0)), (.int .u8 (0)), (.int .u8 (0)), (.int .u8 (0)), (.int .u8 (0)), (.int .u8 (0)), (.int .u8 (0)), (.int .u8 (0)), (.int .u8 (0)), (.int .u8 (0)), (.int .u8 (0)), (.int .u8 (0)), (.int .u8 (0)), (.int .u8 (0)), (.int .u8 (0)), (.int .u8 (0)), (.int .u8 (0)), (.int .u8 (0)), (.int .u8 (0)), (.int .u8 (0)), (.int .u8 (0)), (.int .u8 (0)), (.int .u8 (0)), (.int .u8 (0)), (.int .u8 (0)), (.int .u8 (0)), (.int .u8 (0)), (.int .u8 (0))], true, false, [], false⟩) .leaf))))) (some ⟨(.int .u8), 1, 1, [(.int .u8 (0))], false, false, [], false⟩) (.node (.node (.node (.node .leaf (some ⟨(.struct [(9, 0), (3, 1), (3, 2)]), 3, 32, [(.str ⟨#[]⟩), (.int .i64 (0)), (.int .i64 (0))], true, true, [], false⟩) .leaf) none (.node (.node .leaf (some ⟨.func, 1, 8, [.nilfn], false, false, [], false⟩) .leaf) none .leaf)) (some ⟨(.int .i32), 1, 4, [(.int .i32 (0))], false, false, [], false⟩) (.node (.node (.node .leaf (some ⟨(.struct [(3, 0), (3, 1)]), 2, 16, [(.int .i64 (0)), (.int .i64 (0))], true, true, [], false⟩) .leaf) none .leaf) none .leaf)) (some ⟨(.struct [(9, 0), (12, 1)]), 2, 24, [(.str ⟨#[]⟩), (.int .u64 (0))], false, false, [], false⟩) (.node (.node (.node (.node .leaf (some ⟨.func, 1, 8, [.nilfn], false, false, [], false⟩) .leaf) (some ⟨(.struct [(25, 0), (26, 2)]), 3, 72, [.nils, .nils, .nils], false, false, [], false⟩) .leaf) (some ⟨(.struct [(30, 0), (43, 4)]), 5, 56, [(.int .i64 (0)), (.int .i64 (0)), (.int .i64 (0)), (.int .i64 (0)), .nils], false, false, [], false⟩) (.node (.node .leaf (some ⟨(.struct [(171, 0), (43, 1)]), 2, 32, [.nilp, .nils], false, false, [], false⟩) .leaf) none .leaf)) (some ⟨(.struct [(3, 0), (3, 1), (28, 2)]), 4, 32, [(.int .i64 (0)), (.int .i64 (0)), (.int .i64 (0)), (.int .i64 (0))], true, true, [], false⟩) (.node .leaf (some ⟨(.int .u16), 1, 2, [(.int .u16 (0))], false, false, [], false⟩) .leaf))))) none (.node (.node (.node (.node (.node (.node (.node (.node .leaf (some ⟨(.array 32 5), 32, 32, [(.int .u8 (0)), (.int .u8 (0)), (.int .u8 (0)), (.int .u8 (0)), (.int .u8 (0)), (.int .u8 (0)), (.int .u8 (0)), (.int .u8 (0)), (.int .u8 (0)), (.int .u8 (0)), (.int .u8 (0)), (.int .u8 (0)), (.int .u8 (0)), (.int .u8 (0)), (.int .u8 (0)), (.int .u8 (0)), (.int .u8 (0)), (.int .u8 (0)), (.int .u8 (0)), (.int .u8 (0)), (.int .u8 (0)), (.int .u8 (0)), (.int .u8 (0)), (.int .u8 (0)), (.int .u8 (0)), (.int .u8 (0)), (.int .u8 (0)), (.int .u8 (0)), (.int .u8 (0)), (.int .u8 (0)), (.int .u8 (0)), (.int .u8 (0))], true, false, [], false⟩) .leaf) none .leaf) none (.node .leaf (some ⟨(.ptr 5), 1, 8, [.nilp], false, false, [], false⟩) .leaf)) none .leaf) none (.node (.node .leaf none (.node .leaf (some ⟨(.int .u32), 1, 4, [(.int .u32 (0))], false, false, [], false⟩) .leaf)) none .leaf)) (some ⟨(.struct [(2, 0), (3, 1), (4, 2), (6, 3)]), 4, 24, [(.int .i64 (0)), (.int .i64 (0)), (.bool false), (.int .u8 (0))], true, true, [], false⟩) (.node (.node (.node (.node (.node .leaf (some ⟨(.int .u8), 1, 1, [(.int .u8 (0))], false, false, [], false⟩) .leaf) none .leaf) none .leaf) none (.node (.node .leaf (some ⟨.func, 1, 8, [.nilfn], false, false, [], false⟩) .leaf) (some ⟨(.array 10 28), 20, 160, [(.int .i64 (0)), (.int .i64 (0)), (.int .i64 (0)), (.int .i64 (0)), (.int .i64 (0)), (.int .i64 (0)), (.int .i64 (0)), (.int .i64 (0)), (.int .i64 (0)), (.int .i64 (0)), (.int .i64 (0)), (.int .i64 (0)), (.int .i64 (0)), (.int .i64 (0)), (.int .i64 (0)), (.int .i64 (0)), (.int .i64 (0)), (.int .i64 (0)), (.int .i64 (0)), (.int .i64 (0))], true, false, [], false⟩) .leaf)) (some ⟨(.struct [(22, 0), (23, 1)]), 2, 48, [.nils, .nils], false, false, [], false⟩) (.node .leaf none (.node .leaf (some ⟨(.struct [(34, 0), (34, 1), (118, 2)]), 3, 72, [.nils, .nils, .nils], false, false, [], false⟩) (.node .leaf (some ⟨(.struct [(5, 0), (5, 1)]), 2, 2, [(.int .u8 (0)), (.int .u8 (0))], true, true, [], false⟩) .leaf))))) (some ⟨.bool, 1, 1, [(.bool false)], false, false, [], false⟩) (.node (.node (.node (.node .leaf (some ⟨(.struct [(9, 0), (3, 1), (3, 2)]), 3, 32, [(.str ⟨#[]⟩), (.int .i64 (0)), (.int .i64 (0))], true, true, [], false⟩) .leaf) none .leaf) (some ⟨.iface, 1, 16, [.nilif], false, false, [], false⟩) (.node .leaf (some ⟨(.slice 61), 1, 24, [.nils], false, false, [], false⟩) (.node .leaf (some ⟨(.slice 120), 1, 24, [.nils], false, false, [], false⟩) .leaf))) (some ⟨(.int .u64), 1, 8, [(.int .u64 (0))], false, false, [], false⟩) (.node (.node (.node (.node (.node .leaf (some ⟨(.int .i32), 1, 4, [(.int .i32 (0))], false, false, [], false⟩) .leaf) none .leaf) none .leaf) (some ⟨(.struct [(30, 0), (43, 4)]), 5, 56, [(.int .i64 (0)), (.int .i64 (0)), (.int .i64 (0)), (.int .i64 (0)), .nils], false, false, [], false⟩) .leaf) (some ⟨(.struct [(3, 0), (3, 1)]), 2, 16, [(.int .i64 (0)), (.int .i64 (0))], true, true, [], false⟩) (.node (.node (.node .leaf (some ⟨.func, 1, 8, [.nilfn], false, false, [], false⟩) .leaf) none .leaf) (some ⟨(.struct [(52, 0), (52, 1)]), 2, 48, [.nils, .nils], false, false, [], false⟩) (.node (.node .leaf (some ⟨.func, 1, 8, [.nilfn], false, false, [], false⟩) .leaf) (some ⟨.func, 1, 8, [.nilfn], false, false, [], false⟩) .leaf))))) (some ⟨(.int .i64), 1, 8, [(.int .i64 (0))], false, false, [], false⟩) (.node (.node (.node (.node .leaf (some ⟨(.slice 3), 1, 24, [.nils], false, false, [], false⟩) (.node (.node .leaf (some ⟨(.struct [(3, 0), (3, 1)]), 2, 16, [(.int .i64 (0)), (.int .i64 (0))], true, true, [], false⟩) .leaf) none .leaf)) none (.node (.node (.node .leaf (some ⟨.func, 1, 8, [.nilfn], false, false, [], false⟩) .leaf) none (.node .leaf (some ⟨(.int .u64), 1, 8, [(.int .u64 (0))], false, false, [], false⟩) .leaf)) none (.node (.node .leaf (some ⟨.func, 1, 8, [.nilfn], false, false, [], false⟩) .leaf) none (.node .leaf (some ⟨(.array 65 5), 65, 65, [(.int .u8 (0)), (.int .u8 (0)), (.int .u8 (0)), (.int .u8 (0)), (.int .u8 (0)), (.int .u8 (0)), (.int .u8 (0)), (.int .u8 (0)), (.int .u8 (0)), (.int .u8 (0)), (.int .u8 (0)), (.int .u8 (0)), (.int .u8 (0)), (.int .u8 (0)), (.int .u8 (0)), (.int .u8 (0)), (.int .u8 (0)), (.int .u8 (0)), (.int .u8 (0)), (.int .u8 (0)), (.int .u8 (0)), (.int .u8 (0)), (.int .u8 (0)), (.int .u8 (0)), (.int .u8 (0)), (.int .u8 (0)), (.int .u8 (0)), (.int .u8 (0)), (.int .u8 (0)), (.int .u8 (0)), (.int .u8 (0)), (.int .u8 (0)), (.int .u8 (0)), (.int .u8 (0)), (.int .u8 (0)), (.int .u8 (0)), (.int .u8 (0)), (.int .u8 (0)), (.int .u8 (0)), (.int .u8 (0)), (.int .u8 (0)), (.int .u8 (0)), (.int .u8 (0)), (.int .u8 (0)), (.int .u8 (0)), (.int .u8 (0)), (.int .u8 (0)), (.int .u8 (0)), (.int .u8 (0)), (.int .u8 (0)), (.int .u8 (0)), (.int .u8 (0)), (.int .u8 (0)), (.int .u8 (0)), (.int .u8 (0)), (.int .u8 (0)), (.int .u8 (0)), (.int .u8 (0)), (.int .u8 (0)), (.int .u8 (0)), (.int .u8 (0)), (.int .u8 (0)), (.int .u8 (0)), (.int .u8 (0)), (.int .u8 (0))], true, false, [], false⟩) .leaf)))) (some ⟨.string, 1, 16, [(.str ⟨#[]⟩)], false, false, [], false⟩) (.node (.node (.node (.node .leaf (some ⟨(.map 3 3), 1, 8, [.nilmap], false, false, [], false⟩) .leaf) none .leaf) (some ⟨(.struct [(26, 0), (30, 1)]), 5, 56, [.nils, (.int .i64 (0)), (.int .i64 (0)), (.int .i64 (0)), (.int .i64 (0))], false, false, [], false⟩) (.node (.node .leaf (some ⟨.func, 1, 8, [.nilfn], false, false, [], false⟩) .leaf) (some ⟨.func, 1, 8, [.nilfn], false, false, [], false⟩) .leaf)) (some ⟨(.slice 30), 1, 24, [.nils], false, false, [], false⟩) .leaf)) (some ⟨(.int .u8), 1, 1, [(.int .u8 (0))], false, false, [], false⟩) (.node (.node .leaf (some ⟨(.slice 69), 1, 24, [.nils], false, false, [], false⟩) (.node (.node (.node .leaf (some ⟨(.struct [(3, 0), (3, 1)]), 2, 16, [(.int .i64 (0)), (.int .i64 (0))], true, true, [], false⟩) .leaf) none .leaf) (some ⟨(.slice 28), 1, 24, [.nils], false, false, [], false⟩) (.node .leaf (some ⟨(.slice 163), 1, 24, [.nils], false, false, [], false⟩) (.node .leaf (some ⟨(.array 256 5), 256, 256, [(.int .u8 (0)), (.int .u8 (0)), (.int .u8 (0)), (.int .u8 (0)), (.int .u8 (0)), (.int .u8 (0)), (.int .u8 (0)), (.int .u8 (0)), (.int .u8 (0)), (.int .u8 (0)), (.int .u8 (0)), (.int .u8 (0)), (.int .u8 (0)), (.int .u8 (0)), (.int .u8 (0)), (.int .u8 (0)), (.int .u8 (0)), (.int .u8 (0)), (.int .u8 (0)), (.int .u8 (0)), (.int .u8 (0)), (.int .u8 (0)), (.int .u8 (0)), (.int .u8 (0)), (.int .u8 (0)), (.int .u8 (0)), (.int .u8 (0)), (.int .u8 (0)), (.int .u8 (0)), (.int .u8 (0)), (.int .u8 (0)), (.int .u8 (0)), (.int .u8 (0)), (.int .u8 (0)), (.int .u8 (0)), (.int .u8 (0)), (.int .u8 (0)), (.int .u8 (0)), (.int .u8 (0)), (.int .u8 (0)), (.int .u8 (0)), (.int .u8 (0)), (.int .u8 (0)), (.int .u8 (0)), (.int .u8 (0)), (.int .u8 (0)), (.int .u8 (0)), (.int .u8 (0)), (.int .u8 (0)), (.int .u8 (0)), (.int .u8 (0)), (.int .u8 (0)), (.int .u8 (0)), (.int .u8 (0)), (.int .u8 (0)), (.int .u8 (0)), (.int .u8 (0)), (.int .u8 (0)), (.int .u8 (0)), (.int .u8 (0)), (.int .u8 (0)), (.int .u8 (0)), (.int .u8 (0)), (.int .u8 (0)), (.int .u8 (0)), (.int .u8 (0)), (.int .u8 (0)), (.int .u8 (0)), (.int .u8 (0)), (.int .u8 (0)), (.int .u8 (0)), (.int .u8 (0)), (.int .u8 (0)), (.int .u8 (0)), (.int .u8 (0)), (.int .u8 (0)), (.int .u8 (0)), (.int .u8 (0)), (.int .u8 (0)), (.int .u8 (0)), (.int .u8 (0)), (.int .u8 (0)), (.int .u8 (0)), (.int .u8 (0)), (.int .u8 (0)), (.int .u8 (0)), (.int .u8 (0)), (.int .u8 (0)), (.int .u8 (0)), (.int .u8 (0)), (.int .u8 (0)), (.int .u8 (0)), (.int .u8 (0)), (.int .u8 (0)), (.int .u8 (0)), (.int .u8 (0)), (.int .u8 (0)), (.int .u8 (0)), (.int .u8 (0)), (.int .u8 (0)), (.int .u8 (0)), (.int .u8 (0)), (.int .u8 (0)), (.int .u8 (0)), (.int .u8 (0)), (.int .u8 (0)), (.int .u8 (0)), (.int .u8 (0)), (.int .u8 (0)), (.int .u8 (0)), (.int .u8 (0)), (.int .u8 (0)), (.int .u8 (0)), (.int .u8 (0)), (.int .u8 (0)), (.int .u8 (0)), (.int .u8 (0)), (.int .u8 (0)), (.int .u8 (0)), (.int .u8 (0)), (.int .u8 (0)), (.int .u8 (0)), (.int .u8 (0)), (.int .u8 (0)), (.int .u8 (0)), (.int .u8 (0)), (.int .u8 (0)), (.int .u8 (0)), (.int .u8 (0)), (.int .u8 (0)), (.int .u8 (0)), (.int .u8 (0)), (.int .u8 (0)), (.int .u8 (0)), (.int .u8 (0)), (.int .u8 (0)), (.int .u8 (0)), (.int .u8 (0)), (.int .u8 (0)), (.int .u8 (0)), (.int .u8 (0)), (.int .u8 (0)), (.int .u8 (0)), (.int .u8 (0)), (.int .u8 (0)), (.int .u8 (0)), (.int .u8 (0)), (.int .u8 (0)), (.int .u8 (0)), (.int .u8 (0)), (.int .u8 (0)), (.int .u8 (0)), (.int .u8 (0)), (.int .u8 (0)), (.int .u8 (0)), (.int .u8 (0)), (.int .u8 (0)), (.int .u8 (0)), (.int .u8 (0)), (.int .u8 (0)), (.int .u8 (0)), (.int .u8 (0)), (.int .u8 (0)), (.int .u8 (0)), (.int .u8 (0)), (.int .u8 (0)), (.int .u8 (0)), (.int .u8 (0)), (.int .u8 (0)), (.int .u8 (0)), (.int .u8 (0)), (.int .u8 (0)), (.int .u8 (0)), (.int .u8 (0)), (.int .u8 (0)), (.int .u8 (0)), (.int .u8 (0)), (.int .u8 (0)), (.int .u8 (0)), (.int .u8 (0)), (.int .u8 (0)), (.int .u8 (0)), (.int .u8 (0)), (.int .u8 (0)), (.int .u8 (0)), (.int .u8 (0)), (.int .u8 (0)), (.int .u8 (0)), (.int .u8 (0)), (.int .u8 (0)), (.int .u8 (0)), (.int .u8 (0)), (.int .u8 (0)), (.int .u8 (0)), (.int .u8 (0)), (.int .u8 (0)), (.int .u8 (0)), (.int .u8 (0)), (.int .u8 (0)), (.int .u8 (0)), (.int .u8 (0)), (.int .u8 (0)), (.int .u8 (0)), (.int .u8 (0)), (.int .u8 (0)), (.int .u8 (0)), (.int .u8 (0)), (.int .u8 (0)), (.int .u8 (0)), (.int .u8 (0)), (.int .u8 (0)), (.int .u8 (0)), (.int .u8 (0)), (.int .u8 (0)), (.int .u8 (0)), (.int .u8 (0)), (.int .u8 (0)), (.int .u8 (0)), (.int .u8 (0)), (.int .u8 (0)), (.int .u8 (0)), (.int .u8 (0)), (.int .u8 (0)), (.int .u8 (0)), (.int .u8 (0)), (.int .u8 (0)), (.int .u8 (0)), (.int .u8 (0)), (.int .u8 (0)), (.int .u8 (0)), (.int .u8 (0)), (.int .u8 (0)), (.int .u8 (0)), (.int .u8 (0)), (.int .u8 (0)), (.int .u8 (0)), (.int .u8 (0)), (.int .u8 (0)), (.int .u8 (0)), (.int .u8 (0)), (.int .u8 (0)), (.int .u8 (0)), (.int .u8 (0)), (.int .u8 (0)), (.int .u8 (0)), (.int .u8 (0)), (.int .u8 (0)), (.int .u8 (0)), (.int .u8 (0)), (.int .u8 (0)), (.int .u8 (0)), (.int .u8 (0)), (.int .u8 (0)), (.int .u8 (0)), (.int .u8 (0)), (.int .u8 (0))], true, false, [], false⟩) .leaf)))) (some ⟨(.struct [(9, 0), (12, 1)]), 2, 24, [(.str ⟨#[]⟩), (.int .u64 (0))], false, false, [], false⟩) (.node (.node (.node (.node .leaf (some ⟨.func, 1, 8, [.nilfn], false, false, [], false⟩) .leaf) (some ⟨(.struct [(25, 0), (26, 2)]), 3, 72, [.nils, .nils, .nils], false, false, [], false⟩) .leaf) none .leaf) (some ⟨(.struct [(3, 0), (3, 1), (28, 2)]), 4, 32, [(.int .i64 (0)), (.int .i64 (0)), (.int .i64 (0)), (.int .i64 (0))], true, true, [], false⟩) (.node .leaf (some ⟨(.array 3 61), 3, 6, [(.int .u16 (0)), (.int .u16 (0)), (.int .u16 (0))], true, false, [], false⟩) (.node .leaf (some ⟨(.slice 9), 1, 24, [.nils], false, false, [], false⟩) (.node .leaf (some ⟨(.struct [(9, 0)]), 1, 16, [(.str ⟨#[]⟩)], true, true, [], false⟩) .leaf))))))))
noncomputable def bodyOf (f:Func):Code:=match f.body with|some c=>c|none=>.skip
noncomputable def mkF (f:Func) (m:Nat) (hs:List Z3Q) (pu:Bool) (xm:List (Nat×Nat)) (rm:Nat) (ca:Bool) (pb:List (Nat×Nat)) (mr:List (Nat×Nat×Nat×TypeId×Nat)):FI:=⟨bodyOf f,f.ntmps,f.results.toList,m,hs,pu,xm,rm,ca,pb,mr⟩
noncomputable def g3:FI:=mkF Tryz.f3 144115205255733231 [] true [] 64 false [] []
noncomputable def g4:FI:=mkF Tryz.f4 25736117115085391131901046942220680945729520602754655744688127 [⟨0,50088,[.cell 14 1 49],false⟩] true [(1,50088),(0,17320)] 64 false [] []
noncomputable def g5:FI:=mkF Tryz.f5 1152921505161019359 [⟨0,924,[.slot 8 30],false⟩] true [(1,924),(0,412)] 64 false [] []
noncomputable def g6:FI:=mkF Tryz.f6 83076754997802409019354109924343679 [⟨0,140840,[],false⟩] true [(1,140840),(0,1576)] 64 false [] []
noncomputable def g7:FI:=mkF Tryz.f7 452312848589848406602609732647645373760502365786866414931800733868651184111 [⟨0,14506,[],false⟩,⟨2,33161224,[],false⟩] true [(1,14506),(0,42),(3,33161224),(2,16252928)] 64 false [] []
noncomputable def g8:FI:=mkF Tryz.f8 263151 [] true [] 192 false [] []
noncomputable def g9:FI:=mkF Tryz.f9 16879 [] true [] 192 false [] []
noncomputable def g10:FI:=mkF Tryz.f10 2251803576240111 [⟨1,1610612842,[.slot 6 3],false⟩] true [(0,106),(2,1610612842),(1,64)] 192 false [] []
noncomputable def g11:FI:=mkF Tryz.f11 1101701056495 [⟨0,1578,[.slot 9 3],false⟩] true [(1,1578),(0,512)] 192 false [] []
noncomputable def g12:FI:=mkF Tryz.f12 33571891 [⟨0,35,[],false⟩] true [(1,35),(0,0)] 16 false [] []
noncomputable def g13:FI:=mkF Tryz.f13 10035046790773455982583 [⟨0,25165910,[.slot 4 3],false⟩,⟨2,964690902,[.slot 9 30,.slot 8 3],false⟩] true [(3,964690902),(2,25166678),(1,25165910),(0,16)] 48 false [] []
noncomputable def g14:FI:=mkF Tryz.f14 8804691609527 [⟨0,262,[],false⟩,⟨2,1798,[],false⟩] true [(3,1798),(2,262),(1,262),(0,0)] 48 false [] []
noncomputable def g15:FI:=mkF Tryz.f15 786431 [] true [] 1 false [] []
noncomputable def g16:FI:=mkF Tryz.f16 87 [] true [] 16 false [] []
noncomputable def g17:FI:=mkF Tryz.f17 18258071327 [] true [(0,1036)] 768 false [] []
noncomputable def g18:FI:=mkF Tryz.f18 131635 [⟨0,35,[],false⟩] true [(1,35),(0,0)] 16 false [] []
noncomputable def g19:FI:=mkF Tryz.f19 19 [] true [] 16 false [] []
noncomputable def g20:FI:=mkF Tryz.f20 147 [] true [] 16 false [] []
noncomputable def g21:FI:=mkF Tryz.f21 72057597842690039 [⟨0,4195076,[],false⟩,⟨2,1610614016,[],false⟩] true [(3,1610614016),(2,0),(1,0),(0,772)] 48 false [] []
noncomputable def g22:FI:=mkF Tryz.f22 33571891 [⟨0,35,[],false⟩] true [(1,35),(0,0)] 16 false [] []
noncomputable def g23:FI:=mkF Tryz.f23 39 [] true [] 4 false [] []
noncomputable def g24:FI:=mkF Tryz.f24 33015 [] true [] 48 false [] []
noncomputable def g25:FI:=mkF Tryz.f25 8389631 [⟨0,236,[.slot 5 30],true⟩] false [(1,236),(0,32)] 16 true [] []
noncomputable def g26:FI:=mkF Tryz.f26 2147518463 [⟨0,236,[.slot 5 3],false⟩,⟨2,1004,[],false⟩] true [(3,1004),(2,492),(1,236),(0,32)] 16 false [] []
noncomputable def g27:FI:=mkF Tryz.f27 274878957343 [⟨0,1566,[],false⟩] true [(1,1566),(0,512)] 256 false [] []
noncomputable def g28:FI:=mkF Tryz.f28 71 [] true [] 64 false [] []
noncomputable def g29:FI:=mkF Tryz.f29 111 [] true [] 64 false [] []
noncomputable def g30:FI:=mkF Tryz.f30 271 [] true [] 256 false [] []
noncomputable def g31:FI:=mkF Tryz.f31 34429076463 [] true [(0,320)] 192 false [] []
noncomputable def g32:FI:=mkF Tryz.f32 532543 [] true [(0,0)] 16 false [] []
noncomputable def g33:FI:=mkF Tryz.f33 4415226446191 [] true [] 64 false [] []
noncomputable def g34:FI:=mkF Tryz.f34 4832887279 [⟨0,416,[],false⟩] true [(1,416),(0,0)] 64 false [] []
noncomputable def g36:FI:=mkF Tryz.f36 23 [] true [] 16 false [] []
noncomputable def g37:FI:=mkF Tryz.f37 183 [] true [] 48 false [] []
noncomputable def g38:FI:=mkF Tryz.f38 34628706291 [⟨0,3587,[],false⟩] true [(1,3587),(0,3)] 16 false [] []
noncomputable def g39:FI:=mkF Tryz.f39 55 [⟨0,20,[],false⟩] true [(1,0),(0,4)] 4 false [] []
noncomputable def g40:FI:=mkF Tryz.f40 1125900464685879 [⟨0,518,[],false⟩] true [(1,518),(0,0)] 48 false [] []
noncomputable def g41:FI:=mkF Tryz.f41 537008071 [⟨0,390,[.slot 7 34],false⟩,⟨2,1926,[.slot 7 34],false⟩] true [(3,1926),(2,390),(1,390),(0,128)] 64 false [] []
noncomputable def g42:FI:=mkF Tryz.f42 23 [] true [] 16 false [] []
noncomputable def g43:FI:=mkF Tryz.f43 33556723 [⟨0,227,[.slot 5 30],false⟩] true [(1,227),(0,32)] 16 false [] []
noncomputable def g44:FI:=mkF Tryz.f44 1 [] true [] 1 false [] []
noncomputable def g45:FI:=mkF Tryz.f45 7 [] false [] 4 false [] []
noncomputable def g46:FI:=mkF Tryz.f46 1 [] true [] 1 false [] []
noncomputable def g47:FI:=mkF Tryz.f47 16463 [] true [] 12 false [] []
noncomputable def g48:FI:=mkF Tryz.f48 140737656177917 [⟨0,16397,[.cell 2 0 69,.cell 2 1 49],false⟩] true [(2,0),(1,0),(0,13)] 12 false [] []
noncomputable def g49:FI:=mkF Tryz.f49 8797166818301 [⟨0,16444,[],false⟩] true [(1,0),(0,12)] 12 false [] []
noncomputable def g50:FI:=mkF Tryz.f50 288266660173840511 [⟨0,44,[],false⟩,⟨2,76,[],false⟩] true [(1,44),(0,12),(3,76),(2,0)] 16 false [] []
noncomputable def g51:FI:=mkF Tryz.f51 95 [] true [] 64 false [] []
noncomputable def g52:FI:=mkF Tryz.f52 688269427663 [⟨0,393422,[],false⟩,⟨2,137438953536,[.slot 6 3],false⟩] true [(1,393422),(0,192),(3,137438953536),(2,64)] 64 false [] [(2,(37,(6,(3,70093866271296))))]
noncomputable def g53:FI:=mkF Tryz.f53 7 [] false [] 4 false [] []
noncomputable def g55:FI:=mkF Tryz.f55 41538414791847272223429363643727871 [⟨0,98,[.slot 5 9],false⟩,⟨2,514,[],false⟩,⟨4,12290,[],false⟩] true [(1,98),(0,2),(3,514),(2,2),(5,12290),(4,0)] 28 false [] []
noncomputable def g56:FI:=mkF Tryz.f56 23 [] true [] 16 false [] []
noncomputable def g57:FI:=mkF Tryz.f57 137438969919 [] true [(0,0)] 16 false [] []
noncomputable def g58:FI:=mkF Tryz.f58 19 [] true [] 16 false [] []
noncomputable def g59:FI:=mkF Tryz.f59 134481695 [⟨0,1566,[.slot 9 3],false⟩] true [(1,1566),(0,512)] 256 false [] []
noncomputable def g60:FI:=mkF Tryz.f60 139319 [] true [] 48 false [] []
noncomputable def g61:FI:=mkF Tryz.f61 604275 [] true [] 16 false [] []
noncomputable def g62:FI:=mkF Tryz.f62 33587615 [] true [] 256 false [] []
noncomputable def g63:FI:=mkF Tryz.f63 68720658415 [⟨0,1834,[.slot 8 120],false⟩] true [(1,1834),(0,256)] 64 false [] []
noncomputable def g64:FI:=mkF Tryz.f64 543 [⟨0,30,[.cell 3 0 3,.cell 3 1 3],false⟩] true [(1,30),(0,12)] 4 false [] []
noncomputable def g65:FI:=mkF Tryz.f65 140806241452095 [] true [] 28 false [] []
noncomputable def g66:FI:=mkF Tryz.f66 16106189503 [⟨0,28714,[],false⟩,⟨2,7516192808,[],false⟩] true [(1,28714),(0,42),(3,7516192808),(2,8)] 4 false [] []
noncomputable def g68:FI:=mkF Tryz.f68 7 [] false [] 4 false [] []
noncomputable def g70:FI:=mkF Tryz.f70 19 [] true [] 16 false [] []
noncomputable def g71:FI:=mkF Tryz.f71 9 [] true [] 0 false [] []
noncomputable def g72:FI:=mkF Tryz.f72 246227 [⟨0,114704,[.slot 4 3],false⟩] true [(1,114704),(0,16)] 16 false [] []
noncomputable def g73:FI:=mkF Tryz.f73 51 [] true [] 48 false [] []
noncomputable def g74:FI:=mkF Tryz.f74 19 [] true [] 16 false [] []
noncomputable def g75:FI:=mkF Tryz.f75 947 [⟨0,387,[],false⟩] true [(1,387),(0,1)] 16 false [] []
noncomputable def g77:FI:=mkF Tryz.f77 19 [] false [] 16 false [] []
noncomputable def g78:FI:=mkF Tryz.f78 23 [] false [] 16 false [] []
noncomputable def g79:FI:=mkF Tryz.f79 23 [] true [] 16 false [] []
noncomputable def g81:FI:=mkF Tryz.f81 7807 [⟨0,3598,[],false⟩] false [(1,3598),(0,14)] 0 true [] []
noncomputable def g82:FI:=mkF Tryz.f82 162298890911060791960072274116607 [⟨0,8796093027304,[],false⟩] false [(1,0),(0,512)] 512 true [] []
noncomputable def g83:FI:=mkF Tryz.f83 81549309680231488798624078815 [⟨0,1573204,[],false⟩,⟨2,1924146922324,[],false⟩,⟨4,4436,[],false⟩,⟨6,1083197534374707740536738132,[],false⟩] true [(3,1924146922324),(2,1573204),(1,1573204),(0,340),(7,1083197534374707740536738132),(6,4436),(5,4436),(4,336)] 192 false [(25,4)] []
noncomputable def g84:FI:=mkF Tryz.f84 127 [] false [] 64 false [] []
noncomputable def g86:FI:=mkF Tryz.f86 71 [] true [] 64 false [] []
noncomputable def g87:FI:=mkF Tryz.f87 2195 [] true [] 16 false [] []
noncomputable def g88:FI:=mkF Tryz.f88 66483 [⟨0,387,[],false⟩] true [(1,387),(0,0)] 16 false [] []
noncomputable def g89:FI:=mkF Tryz.f89 2105331 [⟨0,3586,[],false⟩] false [(1,3586),(0,0)] 48 true [] []
noncomputable def g90:FI:=mkF Tryz.f90 55 [] false [] 32 false [] []
noncomputable def g91:FI:=mkF Tryz.f91 5 [] true [] 4 false [] []
noncomputable def g92:FI:=mkF Tryz.f92 79 [] true [] 64 false [] []
noncomputable def g93:FI:=mkF Tryz.f93 22838750697712822674296722619833405512627519999 [⟨0,22,[],true⟩,⟨2,54,[],true⟩,⟨4,86,[],true⟩,⟨6,278,[],true⟩] true [(3,54),(2,22),(5,86),(4,22),(7,278),(6,22),(1,22),(0,6)] 12 false [] []
noncomputable def g94:FI:=mkF Tryz.f94 4506073530632143 [⟨0,1934,[.slot 7 163],false⟩] true [(1,1934),(0,128)] 64 false [] []
noncomputable def g95:FI:=mkF Tryz.f95 590295819154807062783 [] true [] 64 false [] []
noncomputable def g96:FI:=mkF Tryz.f96 2105331 [⟨0,3586,[],false⟩] false [(1,3586),(0,0)] 48 true [] []
noncomputable def g97:FI:=mkF Tryz.f97 264311 [] false [(0,0)] 32 false [] []
noncomputable def g98:FI:=mkF Tryz.f98 265133 [⟨0,137,[],false⟩] true [(2,161),(1,137),(0,9)] 4 false [] []
noncomputable def g99:FI:=mkF Tryz.f99 19 [] false [] 16 false [] []
noncomputable def g100:FI:=mkF Tryz.f100 15 [] false [] 8 false [] []
noncomputable def g101:FI:=mkF Tryz.f101 2105331 [⟨0,3586,[],false⟩] false [(1,3586),(0,0)] 48 true [] []
noncomputable def g102:FI:=mkF Tryz.f102 55 [] false [] 32 false [] []
noncomputable def g103:FI:=mkF Tryz.f103 32823 [] false [] 32 false [] []
noncomputable def g104:FI:=mkF Tryz.f104 3983 [⟨0,1805,[],false⟩] false [(1,1805),(0,13)] 0 false [] []
noncomputable def g105:FI:=mkF Tryz.f105 51 [] false [] 48 false [] []
noncomputable def g106:FI:=mkF Tryz.f106 5 [] false [] 4 false [] []
noncomputable def g107:FI:=mkF Tryz.f107 16779419 [⟨0,3,[],false⟩] false [(1,3),(0,0)] 0 false [] []
noncomputable def g108:FI:=mkF Tryz.f108 19 [] true [] 16 false [] []
noncomputable def g110:FI:=mkF Tryz.f110 147 [] true [] 16 false [] []
noncomputable def g112:FI:=mkF Tryz.f112 563 [] true [] 48 false [] []
noncomputable def g113:FI:=mkF Tryz.f113 132147 [⟨0,35,[],false⟩] true [(1,35),(0,0)] 16 false [] []
noncomputable def g115:FI:=mkF Tryz.f115 66483 [⟨0,387,[],false⟩] false [(1,387),(0,0)] 16 false [] []
noncomputable def g119:FI:=mkF Tryz.f119 19 [] false [] 16 false [] []
noncomputable def g120:FI:=mkF Tryz.f120 7 [] true [] 4 false [] []
noncomputable def g121:FI:=mkF Tryz.f121 35201803616751 [⟨0,117440621,[],false⟩] false [(1,117440621),(0,0)] 0 false [] []
noncomputable def g122:FI:=mkF Tryz.f122 35184380479629 [⟨0,9,[],false⟩] true [(1,9),(0,0)] 4 false [] []
noncomputable def g123:FI:=mkF Tryz.f123 131635 [⟨0,35,[],false⟩] true [(1,35),(0,0)] 16 false [] []
noncomputable def g124:FI:=mkF Tryz.f124 35201551962567 [⟨0,391,[],false⟩] true [(1,391),(0,128)] 64 false [] []
noncomputable def g125:FI:=mkF Tryz.f125 66483 [⟨0,387,[],false⟩] false [(1,387),(0,0)] 16 false [] []
noncomputable def g131:FI:=mkF Tryz.f131 19 [] true [] 16 false [] []
noncomputable def g146:FI:=mkF Tryz.f146 66483 [⟨0,387,[],false⟩] false [(1,387),(0,0)] 16 false [] []
noncomputable def g147:FI:=mkF Tryz.f147 71 [] true [] 64 false [] []
noncomputable def fnT:Tr FI:=(.node (.node (.node (.node (.node (.node (.node .leaf (some g63) .leaf) (some g31) (.node .leaf (some g95) .leaf)) (some g15) (.node (.node .leaf (some g79) .leaf) (some g47) .leaf)) (some g7) (.node (.node (.node .leaf (some g71) .leaf) (some g39) (.node .leaf (some g103) .leaf)) (some g23) (.node (.node .leaf (some g87) .leaf) (some g55) (.node .leaf (some g119) .leaf)))) (some g3) (.node (.node (.node (.node (.node .leaf (some g131) .leaf) none .leaf) none (.node .leaf (some g99) .leaf)) (some g19) (.node (.node (.node .leaf (some g147) .leaf) (some g83) .leaf) (some g51) (.node .leaf (some g115) .leaf))) (some g11) (.node (.node (.node .leaf (some g75) .leaf) (some g43) (.node .leaf (some g107) .leaf)) (some g27) (.node (.node .leaf (some g91) .leaf) (some g59) (.node .leaf (some g123) .leaf))))) none (.node (.node (.node (.node (.node .leaf (some g65) .leaf) (some g33) (.node .leaf (some g97) .leaf)) (some g17) (.node (.node .leaf (some g81) .leaf) (some g49) (.node .leaf (some g113) .leaf))) (some g9) (.node (.node (.node .leaf (some g73) .leaf) (some g41) (.node .leaf (some g105) .leaf)) (some g25) (.node (.node .leaf (some g89) .leaf) (some g57) (.node .leaf (some g121) .leaf)))) (some g5) (.node (.node (.node .leaf (some g37) (.node .leaf (some g101) .leaf)) (some g21) (.node .leaf (some g53) .leaf)) (some g13) (.node (.node (.node .leaf (some g77) .leaf) (some g45) .leaf) (some g29) (.node (.node .leaf (some g93) .leaf) (some g61) (.node .leaf (some g125) .leaf)))))) none (.node (.node (.node (.node (.node (.node .leaf (some g64) .leaf) (some g32) (.node .leaf (some g96) .leaf)) (some g16) (.node .leaf (some g48) (.node .leaf (some g112) .leaf))) (some g8) (.node (.node (.node .leaf (some g72) .leaf) (some g40) (.node .leaf (some g104) .leaf)) (some g24) (.node (.node .leaf (some g88) .leaf) (some g56) (.node .leaf (some g120) .leaf)))) (some g4) (.node (.node (.node (.node .leaf (some g68) .leaf) (some g36) (.node .leaf (some g100) .leaf)) (some g20) (.node (.node .leaf (some g84) .leaf) (some g52) .leaf)) (some g12) (.node (.node .leaf (some g44) (.node .leaf (some g108) .leaf)) (some g28) (.node (.node .leaf (some g92) .leaf) (some g60) (.node .leaf (some g124) .leaf))))) none (.node (.node (.node (.node (.node .leaf (some g66) .leaf) (some g34) (.node .leaf (some g98) .leaf)) (some g18) (.node (.node (.node .leaf (some g146) .leaf) (some g82) .leaf) (some g50) .leaf)) (some g10) (.node (.node (.node .leaf (some g74) .leaf) (some g42) (.node .leaf (some g106) .leaf)) (some g26) (.node (.node .leaf (some g90) .leaf) (some g58) (.node .leaf (some g122) .leaf)))) (some g6) (.node (.node (.node (.node .leaf (some g70) .leaf) (some g38) (.node .leaf (some g102) .leaf)) (some g22) (.node (.node .leaf (some g86) .leaf) none .leaf)) (some g14) (.node (.node (.node .leaf (some g78) .leaf) (some g46) (.node .leaf (some g110) .leaf)) (some g30) (.node (.node .leaf (some g94) .leaf) (some g62) .leaf))))))
noncomputable def powN:String:=((Tryz.prog.globals[3]?).map (·.name)).getD default
def leafT:Tr (List DV->Option DV):=(.node (.node (.node (.node (.node (.node (.node (.node .leaf (some Z3E) .leaf) none .leaf) none .leaf) none (.node .leaf none (.node .leaf (some ZbT) .leaf))) none .leaf) none .leaf) none (.node .leaf none (.node (.node (.node (.node .leaf (some Z8Y) .leaf) none .leaf) none .leaf) none .leaf))) none (.node (.node .leaf none (.node .leaf none (.node (.node (.node .leaf (some ZbU) .leaf) none .leaf) none .leaf))) none .leaf))
def ccT:Tr TypeId:=(.node .leaf none (.node .leaf none (.node .leaf none (.node .leaf none (.node .leaf none (.node .leaf none (.node .leaf (some 173) .leaf)))))))
def clnT:Tr TypeId:=(.node (.node (.node .leaf none (.node (.node (.node .leaf (some 49) .leaf) none .leaf) none .leaf)) none (.node .leaf none (.node (.node .leaf none (.node (.node .leaf (some 150) .leaf) none .leaf)) none .leaf))) none (.node (.node .leaf none (.node (.node .leaf none (.node .leaf none (.node .leaf (some 30) .leaf))) none .leaf)) none (.node .leaf none (.node (.node .leaf none (.node .leaf (some 28) .leaf)) none .leaf))))
def srtT:Tr TypeId:=(.node .leaf none (.node (.node (.node (.node .leaf none (.node (.node .leaf (some 3) .leaf) none .leaf)) none .leaf) none .leaf) none .leaf))
noncomputable def E:Env:=⟨tyT.get,fnT.get,leafT.get,ccT.get,clnT.get,srtT.get,fun g=>Nat.beq g 67,fun w=>(∃m,w.cell? ⟨0,0,none⟩=some (.int .i64 m))/\Lib.TabIs Tryz.prog w powN .u64 Lib.pow10Tab,fun _ _ h hb=>⟨ZbY h.1 hb,Ze6 h.2 hb⟩⟩
end Go.Proofs.YtlgmncmjacjgmaaGreatDoor
namespace Go.Proofs
open Go.Shelf
def Tryz.laysM171_ren:Go.Shelf.Ren:=⟨fun|171=>76|243=>114|246=>134|283=>159|284=>160|285=>161|286=>162|129=>145|317=>175|318=>176|319=>177|320=>178|337=>183|338=>184|n=>n,fun|3=>3|9=>9|2=>2|4=>4|171=>223|0=>0|53=>210|37=>43|5=>5|173=>225|212=>241|51=>208|20=>20|213=>242|46=>185|232=>256|233=>257|n=>n,fun|17=>3|18=>6|19=>7|n=>n⟩
theorem Tryz.laysM171:Go.Proofs.LaysM.n171 Tryz.prog Tryz.laysM171_ren:={
 mixed:=by kernel_rfl
 f129:=Tryz.func145.trans (congrArg some (by kernel_rfl))
 f171:=Tryz.func76.trans (congrArg some (by kernel_rfl))
 f243:=Tryz.func114.trans (congrArg some (by kernel_rfl))
 f246:=Tryz.func134.trans (congrArg some (by kernel_rfl))
 f283:=Tryz.func159.trans (congrArg some (by kernel_rfl))
 f284:=Tryz.func160.trans (congrArg some (by kernel_rfl))
 f285:=Tryz.func161.trans (congrArg some (by kernel_rfl))
 f286:=Tryz.func162.trans (congrArg some (by kernel_rfl))
 f317:=Tryz.func175.trans (congrArg some (by kernel_rfl))
 f318:=Tryz.func176.trans (congrArg some (by kernel_rfl))
 f319:=Tryz.func177.trans (congrArg some (by kernel_rfl))
 f320:=Tryz.func178.trans (congrArg some (by kernel_rfl))
 f337:=Tryz.func183.trans (congrArg some (by kernel_rfl))
 f338:=Tryz.func184.trans (congrArg some (by kernel_rfl))
 t0:=Tryz.underlying0
 a0:=Tryz.isAgg0
 z0:=Tryz.sizeOf0
 v0:=Tryz.zeroValue0
 t2:=Tryz.underlying2
 a2:=Tryz.isAgg2
 z2:=Tryz.sizeOf2
 v2:=Tryz.zeroValue2
 t3:=Tryz.underlying3
 a3:=Tryz.isAgg3
 z3:=Tryz.sizeOf3
 v3:=Tryz.zeroValue3
 t4:=Tryz.underlying4
 a4:=Tryz.isAgg4
 z4:=Tryz.sizeOf4
 v4:=Tryz.zeroValue4
 t5:=Tryz.underlying5
 a5:=Tryz.isAgg5
 z5:=Tryz.sizeOf5
 v5:=Tryz.zeroValue5
 t9:=Tryz.underlying9
 a9:=Tryz.isAgg9
 z9:=Tryz.sizeOf9
 v9:=Tryz.zeroValue9
 t20:=Tryz.underlying20
 a20:=Tryz.isAgg20
 z20:=Tryz.sizeOf20
 v20:=Tryz.zeroValue20
 t37:=Tryz.underlying43
 a37:=Tryz.isAgg43
 z37:=Tryz.sizeOf43
 v37:=Tryz.zeroValue43
 t46:=Tryz.underlying185
 a46:=Tryz.isAgg185
 z46:=Tryz.sizeOf185
 v46:=Tryz.zeroValue185
 t51:=Tryz.underlying208
 a51:=Tryz.isAgg208
 z51:=Tryz.sizeOf208
 v51:=Tryz.zeroValue208
 t53:=Tryz.underlying210
 a53:=Tryz.isAgg210
 z53:=Tryz.sizeOf210
 v53:=Tryz.zeroValue210
 t171:=Tryz.underlying223
 a171:=Tryz.isAgg223
 z171:=Tryz.sizeOf223
 v171:=Tryz.zeroValue223
 t173:=Tryz.underlying225
 a173:=Tryz.isAgg225
 z173:=Tryz.sizeOf225
 v173:=Tryz.zeroValue225
 t212:=Tryz.underlying241
 a212:=Tryz.isAgg241
 z212:=Tryz.sizeOf241
 v212:=Tryz.zeroValue241
 t213:=Tryz.underlying242
 a213:=Tryz.isAgg242
 z213:=Tryz.sizeOf242
 t232:=Tryz.underlying256
 a232:=Tryz.isAgg256
 z232:=Tryz.sizeOf256
 v232:=Tryz.zeroValue256
 t233:=Tryz.underlying257
 a233:=Tryz.isAgg257
 z233:=Tryz.sizeOf257
 v233:=Tryz.zeroValue257
 g17:=by kernel_rfl
 g18:=by kernel_rfl
 g19:=by kernel_rfl
 i0:=by kernel_rfl
 i2:=by kernel_rfl
 i3:=by kernel_rfl
 i4:=by kernel_rfl
 i5:=by kernel_rfl
 i9:=by kernel_rfl
 i20:=by kernel_rfl
 i37:=by kernel_rfl
 i46:=by kernel_rfl
 i51:=by kernel_rfl
 i53:=by kernel_rfl
 i171:=by kernel_rfl
 i173:=by kernel_rfl
 i212:=by kernel_rfl
 i232:=by kernel_rfl
 i233:=by kernel_rfl
 m17:=by kernel_rfl
 m18:=by kernel_rfl
 m19:=by kernel_rfl }
def Tryz.laysC172_ren:Go.Shelf.Ren:=⟨fun|172=>111|244=>132|245=>133|247=>154|279=>155|280=>156|281=>157|282=>158|287=>172|316=>173|171=>76|205=>174|321=>181|322=>182|243=>114|246=>134|283=>159|284=>160|285=>161|286=>162|129=>145|317=>175|318=>176|319=>177|320=>178|337=>183|338=>184|n=>n,fun|9=>9|3=>3|75=>175|76=>176|4=>4|5=>5|167=>217|37=>43|0=>0|85=>218|2=>2|168=>220|53=>210|175=>234|46=>185|210=>238|127=>192|145=>255|143=>253|21=>21|171=>223|173=>225|212=>241|51=>208|20=>20|213=>242|232=>256|233=>257|80=>179|n=>n,fun|15=>1|16=>2|17=>3|18=>6|19=>7|n=>n⟩
theorem Tryz.laysC172:Go.Proofs.LaysC.n172 Tryz.prog Tryz.laysC172_ren:={
 mixed:=by kernel_rfl
 f129:=Tryz.func145.trans (congrArg some (by kernel_rfl))
 f171:=Tryz.func76.trans (congrArg some (by kernel_rfl))
 f172:=Tryz.func111.trans (congrArg some (by kernel_rfl))
 f205:=Tryz.func174.trans (congrArg some (by kernel_rfl))
 f243:=Tryz.func114.trans (congrArg some (by kernel_rfl))
 f244:=Tryz.func132.trans (congrArg some (by kernel_rfl))
 f245:=Tryz.func133.trans (congrArg some (by kernel_rfl))
 f246:=Tryz.func134.trans (congrArg some (by kernel_rfl))
 f247:=Tryz.func154.trans (congrArg some (by kernel_rfl))
 f279:=Tryz.func155.trans (congrArg some (by kernel_rfl))
 f280:=Tryz.func156.trans (congrArg some (by kernel_rfl))
 f281:=Tryz.func157.trans (congrArg some (by kernel_rfl))
 f282:=Tryz.func158.trans (congrArg some (by kernel_rfl))
 f283:=Tryz.func159.trans (congrArg some (by kernel_rfl))
 f284:=Tryz.func160.trans (congrArg some (by kernel_rfl))
 f285:=Tryz.func161.trans (congrArg some (by kernel_rfl))
 f286:=Tryz.func162.trans (congrArg some (by kernel_rfl))
 f287:=Tryz.func172.trans (congrArg some (by kernel_rfl))
 f316:=Tryz.func173.trans (congrArg some (by kernel_rfl))
 f317:=Tryz.func175.trans (congrArg some (by kernel_rfl))
 f318:=Tryz.func176.trans (congrArg some (by kernel_rfl))
 f319:=Tryz.func177.trans (congrArg some (by kernel_rfl))
 f320:=Tryz.func178.trans (congrArg some (by kernel_rfl))
 f321:=Tryz.func181.trans (congrArg some (by kernel_rfl))
 f322:=Tryz.func182.trans (congrArg some (by kernel_rfl))
 f337:=Tryz.func183.trans (congrArg some (by kernel_rfl))
 f338:=Tryz.func184.trans (congrArg some (by kernel_rfl))
 t0:=Tryz.underlying0
 a0:=Tryz.isAgg0
 z0:=Tryz.sizeOf0
 v0:=Tryz.zeroValue0
 t2:=Tryz.underlying2
 a2:=Tryz.isAgg2
 z2:=Tryz.sizeOf2
 v2:=Tryz.zeroValue2
 t3:=Tryz.underlying3
 a3:=Tryz.isAgg3
 z3:=Tryz.sizeOf3
 v3:=Tryz.zeroValue3
 t4:=Tryz.underlying4
 a4:=Tryz.isAgg4
 z4:=Tryz.sizeOf4
 v4:=Tryz.zeroValue4
 t5:=Tryz.underlying5
 a5:=Tryz.isAgg5
 z5:=Tryz.sizeOf5
 v5:=Tryz.zeroValue5
 t9:=Tryz.underlying9
 a9:=Tryz.isAgg9
 z9:=Tryz.sizeOf9
 v9:=Tryz.zeroValue9
 t20:=Tryz.underlying20
 a20:=Tryz.isAgg20
 z20:=Tryz.sizeOf20
 v20:=Tryz.zeroValue20
 t21:=Tryz.underlying21
 a21:=Tryz.isAgg21
 z21:=Tryz.sizeOf21
 v21:=Tryz.zeroValue21
 t37:=Tryz.underlying43
 a37:=Tryz.isAgg43
 z37:=Tryz.sizeOf43
 v37:=Tryz.zeroValue43
 t46:=Tryz.underlying185
 a46:=Tryz.isAgg185
 z46:=Tryz.sizeOf185
 v46:=Tryz.zeroValue185
 t51:=Tryz.underlying208
 a51:=Tryz.isAgg208
 z51:=Tryz.sizeOf208
 v51:=Tryz.zeroValue208
 t53:=Tryz.underlying210
 a53:=Tryz.isAgg210
 z53:=Tryz.sizeOf210
 v53:=Tryz.zeroValue210
 t75:=Tryz.underlying175
 a75:=Tryz.isAgg175
 z75:=Tryz.sizeOf175
 v75:=Tryz.zeroValue175
 t76:=Tryz.underlying176
 a76:=Tryz.isAgg176
 z76:=Tryz.sizeOf176
 v76:=Tryz.zeroValue176
 t85:=Tryz.underlying218
 a85:=Tryz.isAgg218
 z85:=Tryz.sizeOf218
 v85:=Tryz.zeroValue218
 t127:=Tryz.underlying192
 a127:=Tryz.isAgg192
 z127:=Tryz.sizeOf192
 v127:=Tryz.zeroValue192
 t143:=Tryz.underlying253
 a143:=Tryz.isAgg253
 z143:=Tryz.sizeOf253
 v143:=Tryz.zeroValue253
 t145:=Tryz.underlying255
 a145:=Tryz.isAgg255
 z145:=Tryz.sizeOf255
 v145:=Tryz.zeroValue255
 t167:=Tryz.underlying217
 a167:=Tryz.isAgg217
 z167:=Tryz.sizeOf217
 v167:=Tryz.zeroValue217
 t168:=Tryz.underlying220
 a168:=Tryz.isAgg220
 z168:=Tryz.sizeOf220
 v168:=Tryz.zeroValue220
 t171:=Tryz.underlying223
 a171:=Tryz.isAgg223
 z171:=Tryz.sizeOf223
 v171:=Tryz.zeroValue223
 t173:=Tryz.underlying225
 a173:=Tryz.isAgg225
 z173:=Tryz.sizeOf225
 v173:=Tryz.zeroValue225
 t175:=Tryz.underlying234
 a175:=Tryz.isAgg234
 z175:=Tryz.sizeOf234
 v175:=Tryz.zeroValue234
 t210:=Tryz.underlying238
 a210:=Tryz.isAgg238
 z210:=Tryz.sizeOf238
 v210:=Tryz.zeroValue238
 t212:=Tryz.underlying241
 a212:=Tryz.isAgg241
 z212:=Tryz.sizeOf241
 v212:=Tryz.zeroValue241
 t213:=Tryz.underlying242
 a213:=Tryz.isAgg242
 z213:=Tryz.sizeOf242
 t232:=Tryz.underlying256
 a232:=Tryz.isAgg256
 z232:=Tryz.sizeOf256
 v232:=Tryz.zeroValue256
 t233:=Tryz.underlying257
 a233:=Tryz.isAgg257
 z233:=Tryz.sizeOf257
 v233:=Tryz.zeroValue257
 g15:=by kernel_rfl
 g16:=by kernel_rfl
 g17:=by kernel_rfl
 g18:=by kernel_rfl
 g19:=by kernel_rfl
 t80:=Tryz.underlying179
 a80:=Tryz.isAgg179
 z80:=Tryz.sizeOf179
 v80:=Tryz.zeroValue179
 i0:=by kernel_rfl
 i2:=by kernel_rfl
 i3:=by kernel_rfl
 i4:=by kernel_rfl
 i5:=by kernel_rfl
 i9:=by kernel_rfl
 i20:=by kernel_rfl
 i21:=by kernel_rfl
 i37:=by kernel_rfl
 i46:=by kernel_rfl
 i51:=by kernel_rfl
 i53:=by kernel_rfl
 i75:=by kernel_rfl
 i76:=by kernel_rfl
 i80:=by kernel_rfl
 i85:=by kernel_rfl
 i127:=by kernel_rfl
 i143:=by kernel_rfl
 i145:=by kernel_rfl
 i167:=by kernel_rfl
 i168:=by kernel_rfl
 i171:=by kernel_rfl
 i173:=by kernel_rfl
 i175:=by kernel_rfl
 i210:=by kernel_rfl
 i212:=by kernel_rfl
 i232:=by kernel_rfl
 i233:=by kernel_rfl
 m15:=by kernel_rfl
 m16:=by kernel_rfl
 m17:=by kernel_rfl
 m18:=by kernel_rfl
 m19:=by kernel_rfl
 c0:=by kernel_rfl
 c2:=by kernel_rfl
 c3:=by kernel_rfl
 c4:=by kernel_rfl
 c5:=by kernel_rfl
 c9:=by kernel_rfl
 c20:=by kernel_rfl
 c21:=by kernel_rfl
 c37:=by kernel_rfl
 c46:=by kernel_rfl
 c51:=by kernel_rfl
 c53:=by kernel_rfl
 c75:=by kernel_rfl
 c76:=by kernel_rfl
 c80:=by kernel_rfl
 c85:=by kernel_rfl
 c127:=by kernel_rfl
 c143:=by kernel_rfl
 c145:=by kernel_rfl
 c167:=by kernel_rfl
 c168:=by kernel_rfl
 c171:=by kernel_rfl
 c173:=by kernel_rfl
 c175:=by kernel_rfl
 c210:=by kernel_rfl
 c212:=by kernel_rfl
 c213:=by kernel_rfl
 c232:=by kernel_rfl
 c233:=by kernel_rfl }
def Tryz.laysM146_ren:Go.Shelf.Ren:=⟨fun|146=>69|221=>109|268=>128|138=>129|143=>130|195=>150|197=>151|218=>152|219=>153|260=>168|217=>127|225=>169|224=>170|267=>171|266=>149|314=>180|n=>n,fun|9=>9|31=>126|3=>3|4=>4|0=>0|105=>215|21=>21|5=>5|46=>185|119=>246|139=>249|138=>248|146=>250|51=>208|n=>n,fun|1=>0|3=>4|4=>5|n=>n⟩
theorem Tryz.laysM146:Go.Proofs.LaysM.n146 Tryz.prog Tryz.laysM146_ren:={
 mixed:=by kernel_rfl
 f138:=Tryz.func129.trans (congrArg some (by kernel_rfl))
 f143:=Tryz.func130.trans (congrArg some (by kernel_rfl))
 f146:=Tryz.func69.trans (congrArg some (by kernel_rfl))
 f195:=Tryz.func150.trans (congrArg some (by kernel_rfl))
 f197:=Tryz.func151.trans (congrArg some (by kernel_rfl))
 f217:=Tryz.func127.trans (congrArg some (by kernel_rfl))
 f218:=Tryz.func152.trans (congrArg some (by kernel_rfl))
 f219:=Tryz.func153.trans (congrArg some (by kernel_rfl))
 f221:=Tryz.func109.trans (congrArg some (by kernel_rfl))
 f224:=Tryz.func170.trans (congrArg some (by kernel_rfl))
 f225:=Tryz.func169.trans (congrArg some (by kernel_rfl))
 f260:=Tryz.func168.trans (congrArg some (by kernel_rfl))
 f266:=Tryz.func149.trans (congrArg some (by kernel_rfl))
 f267:=Tryz.func171.trans (congrArg some (by kernel_rfl))
 f268:=Tryz.func128.trans (congrArg some (by kernel_rfl))
 f314:=Tryz.func180.trans (congrArg some (by kernel_rfl))
 t0:=Tryz.underlying0
 a0:=Tryz.isAgg0
 z0:=Tryz.sizeOf0
 v0:=Tryz.zeroValue0
 t3:=Tryz.underlying3
 a3:=Tryz.isAgg3
 z3:=Tryz.sizeOf3
 v3:=Tryz.zeroValue3
 t4:=Tryz.underlying4
 a4:=Tryz.isAgg4
 z4:=Tryz.sizeOf4
 v4:=Tryz.zeroValue4
 t5:=Tryz.underlying5
 a5:=Tryz.isAgg5
 z5:=Tryz.sizeOf5
 v5:=Tryz.zeroValue5
 t9:=Tryz.underlying9
 a9:=Tryz.isAgg9
 z9:=Tryz.sizeOf9
 v9:=Tryz.zeroValue9
 t21:=Tryz.underlying21
 a21:=Tryz.isAgg21
 z21:=Tryz.sizeOf21
 v21:=Tryz.zeroValue21
 t31:=Tryz.underlying126
 a31:=Tryz.isAgg126
 z31:=Tryz.sizeOf126
 v31:=Tryz.zeroValue126
 t46:=Tryz.underlying185
 a46:=Tryz.isAgg185
 z46:=Tryz.sizeOf185
 v46:=Tryz.zeroValue185
 t51:=Tryz.underlying208
 a51:=Tryz.isAgg208
 z51:=Tryz.sizeOf208
 v51:=Tryz.zeroValue208
 t105:=Tryz.underlying215
 a105:=Tryz.isAgg215
 z105:=Tryz.sizeOf215
 v105:=Tryz.zeroValue215
 t119:=Tryz.underlying246
 a119:=Tryz.isAgg246
 z119:=Tryz.sizeOf246
 t138:=Tryz.underlying248
 a138:=Tryz.isAgg248
 z138:=Tryz.sizeOf248
 v138:=Tryz.zeroValue248
 t139:=Tryz.underlying249
 a139:=Tryz.isAgg249
 z139:=Tryz.sizeOf249
 v139:=Tryz.zeroValue249
 t146:=Tryz.underlying250
 a146:=Tryz.isAgg250
 z146:=Tryz.sizeOf250
 v146:=Tryz.zeroValue250
 g1:=by kernel_rfl
 g3:=by kernel_rfl
 g4:=by kernel_rfl
 i0:=by kernel_rfl
 i3:=by kernel_rfl
 i4:=by kernel_rfl
 i5:=by kernel_rfl
 i9:=by kernel_rfl
 i21:=by kernel_rfl
 i31:=by kernel_rfl
 i46:=by kernel_rfl
 i51:=by kernel_rfl
 i105:=by kernel_rfl
 i138:=by kernel_rfl
 i139:=by kernel_rfl
 i146:=by kernel_rfl
 m1:=by kernel_rfl
 s1_3:=fun w h=>Go.Proofs.cell_of_shapedOpen_int (zero := #[.int .i64 0]) (t:=3) h (of_decide_eq_true (by kernel_rfl)) (by kernel_rfl) rfl (by kernel_rfl) (by kernel_rfl) Tryz.underlying3
 m3:=by kernel_rfl
 m4:=by kernel_rfl }
def Tryz.lays217_ren:Go.Shelf.Ren:=⟨fun|217=>127|266=>149|n=>n,fun|9=>9|5=>5|3=>3|n=>n,fun|n=>n⟩
theorem Tryz.lays217:Go.Proofs.Lays.n217 Tryz.prog Tryz.lays217_ren:={
 mixed:=by kernel_rfl
 f217:=Tryz.func127.trans (congrArg some (by kernel_rfl))
 f266:=Tryz.func149.trans (congrArg some (by kernel_rfl))
 t3:=Tryz.underlying3
 a3:=Tryz.isAgg3
 z3:=Tryz.sizeOf3
 v3:=Tryz.zeroValue3
 t5:=Tryz.underlying5
 a5:=Tryz.isAgg5
 z5:=Tryz.sizeOf5
 v5:=Tryz.zeroValue5
 t9:=Tryz.underlying9
 a9:=Tryz.isAgg9
 z9:=Tryz.sizeOf9
 v9:=Tryz.zeroValue9 }
def Tryz.lays189_ren:Go.Shelf.Ren:=⟨fun|189=>80|125=>118|257=>117|128=>144|129=>145|294=>135|295=>136|296=>137|297=>138|298=>139|299=>140|216=>141|300=>142|301=>143|328=>163|329=>164|330=>165|331=>166|332=>167|215=>91|343=>179|n=>n,fun|28=>34|3=>3|46=>185|0=>0|51=>208|53=>210|4=>4|183=>200|182=>199|131=>205|5=>5|9=>9|218=>227|222=>231|228=>243|229=>244|n=>n,fun|n=>n⟩
theorem Tryz.lays189:Go.Proofs.Lays.n189 Tryz.prog Tryz.lays189_ren:={
 mixed:=by kernel_rfl
 f125:=Tryz.func118.trans (congrArg some (by kernel_rfl))
 f128:=Tryz.func144.trans (congrArg some (by kernel_rfl))
 f129:=Tryz.func145.trans (congrArg some (by kernel_rfl))
 f189:=Tryz.func80.trans (congrArg some (by kernel_rfl))
 f215:=Tryz.func91.trans (congrArg some (by kernel_rfl))
 f216:=Tryz.func141.trans (congrArg some (by kernel_rfl))
 f257:=Tryz.func117.trans (congrArg some (by kernel_rfl))
 f294:=Tryz.func135.trans (congrArg some (by kernel_rfl))
 f295:=Tryz.func136.trans (congrArg some (by kernel_rfl))
 f296:=Tryz.func137.trans (congrArg some (by kernel_rfl))
 f297:=Tryz.func138.trans (congrArg some (by kernel_rfl))
 f298:=Tryz.func139.trans (congrArg some (by kernel_rfl))
 f299:=Tryz.func140.trans (congrArg some (by kernel_rfl))
 f300:=Tryz.func142.trans (congrArg some (by kernel_rfl))
 f301:=Tryz.func143.trans (congrArg some (by kernel_rfl))
 f328:=Tryz.func163.trans (congrArg some (by kernel_rfl))
 f329:=Tryz.func164.trans (congrArg some (by kernel_rfl))
 f330:=Tryz.func165.trans (congrArg some (by kernel_rfl))
 f331:=Tryz.func166.trans (congrArg some (by kernel_rfl))
 f332:=Tryz.func167.trans (congrArg some (by kernel_rfl))
 f343:=Tryz.func179.trans (congrArg some (by kernel_rfl))
 t0:=Tryz.underlying0
 a0:=Tryz.isAgg0
 z0:=Tryz.sizeOf0
 v0:=Tryz.zeroValue0
 t3:=Tryz.underlying3
 a3:=Tryz.isAgg3
 z3:=Tryz.sizeOf3
 v3:=Tryz.zeroValue3
 t4:=Tryz.underlying4
 a4:=Tryz.isAgg4
 z4:=Tryz.sizeOf4
 v4:=Tryz.zeroValue4
 t5:=Tryz.underlying5
 a5:=Tryz.isAgg5
 z5:=Tryz.sizeOf5
 v5:=Tryz.zeroValue5
 t9:=Tryz.underlying9
 a9:=Tryz.isAgg9
 z9:=Tryz.sizeOf9
 v9:=Tryz.zeroValue9
 t28:=Tryz.underlying34
 a28:=Tryz.isAgg34
 z28:=Tryz.sizeOf34
 v28:=Tryz.zeroValue34
 t46:=Tryz.underlying185
 a46:=Tryz.isAgg185
 z46:=Tryz.sizeOf185
 v46:=Tryz.zeroValue185
 t51:=Tryz.underlying208
 a51:=Tryz.isAgg208
 z51:=Tryz.sizeOf208
 v51:=Tryz.zeroValue208
 t53:=Tryz.underlying210
 a53:=Tryz.isAgg210
 z53:=Tryz.sizeOf210
 v53:=Tryz.zeroValue210
 t131:=Tryz.underlying205
 a131:=Tryz.isAgg205
 z131:=Tryz.sizeOf205
 v131:=Tryz.zeroValue205
 t182:=Tryz.underlying199
 a182:=Tryz.isAgg199
 z182:=Tryz.sizeOf199
 v182:=Tryz.zeroValue199
 t183:=Tryz.underlying200
 a183:=Tryz.isAgg200
 z183:=Tryz.sizeOf200
 v183:=Tryz.zeroValue200
 t218:=Tryz.underlying227
 a218:=Tryz.isAgg227
 z218:=Tryz.sizeOf227
 v218:=Tryz.zeroValue227
 t222:=Tryz.underlying231
 a222:=Tryz.isAgg231
 z222:=Tryz.sizeOf231
 v222:=Tryz.zeroValue231
 t228:=Tryz.underlying243
 a228:=Tryz.isAgg243
 z228:=Tryz.sizeOf243
 v228:=Tryz.zeroValue243
 t229:=Tryz.underlying244
 a229:=Tryz.isAgg244
 z229:=Tryz.sizeOf244
 v229:=Tryz.zeroValue244 }
def Tryz.laysSlE041_f35_ren:Go.Shelf.Ren:=⟨fun|41=>35|n=>n,fun|22=>23|23=>49|4=>4|n=>n,fun|n=>n⟩
theorem Tryz.laysSlE041_f35:Go.Proofs.SlLaysE0.n41 Tryz.prog Tryz.laysSlE041_f35_ren:={
 mixed:=by kernel_rfl
 f41:=⟨Tryz.f35.name,by decide,Tryz.func35.trans (congrArg some (by kernel_rfl))⟩
 t4:=Tryz.underlying4
 a4:=Tryz.isAgg4
 z4:=Tryz.sizeOf4
 v4:=Tryz.zeroValue4
 t22:=Tryz.underlying23
 a22:=Tryz.isAgg23
 z22:=Tryz.sizeOf23
 v22:=Tryz.zeroValue23 }
def Tryz.laysSlE041_f54_ren:Go.Shelf.Ren:=⟨fun|41=>54|n=>n,fun|22=>54|23=>28|4=>4|n=>n,fun|n=>n⟩
theorem Tryz.laysSlE041_f54:Go.Proofs.SlLaysE0.n41 Tryz.prog Tryz.laysSlE041_f54_ren:={
 mixed:=by kernel_rfl
 f41:=⟨Tryz.f54.name,by decide,Tryz.func54.trans (congrArg some (by kernel_rfl))⟩
 t4:=Tryz.underlying4
 a4:=Tryz.isAgg4
 z4:=Tryz.sizeOf4
 v4:=Tryz.zeroValue4
 t22:=Tryz.underlying54
 a22:=Tryz.isAgg54
 z22:=Tryz.sizeOf54
 v22:=Tryz.zeroValue54 }
def Tryz.laysSlE041_f85_ren:Go.Shelf.Ren:=⟨fun|41=>85|n=>n,fun|22=>143|23=>150|4=>4|n=>n,fun|n=>n⟩
theorem Tryz.laysSlE041_f85:Go.Proofs.SlLaysE0.n41 Tryz.prog Tryz.laysSlE041_f85_ren:={
 mixed:=by kernel_rfl
 f41:=⟨Tryz.f85.name,by decide,Tryz.func85.trans (congrArg some (by kernel_rfl))⟩
 t4:=Tryz.underlying4
 a4:=Tryz.isAgg4
 z4:=Tryz.sizeOf4
 v4:=Tryz.zeroValue4
 t22:=Tryz.underlying143
 a22:=Tryz.isAgg143
 z22:=Tryz.sizeOf143
 v22:=Tryz.zeroValue143 }
def Tryz.laysSlE041_f116_ren:Go.Shelf.Ren:=⟨fun|41=>116|n=>n,fun|22=>26|23=>30|4=>4|n=>n,fun|n=>n⟩
theorem Tryz.laysSlE041_f116:Go.Proofs.SlLaysE0.n41 Tryz.prog Tryz.laysSlE041_f116_ren:={
 mixed:=by kernel_rfl
 f41:=⟨Tryz.f116.name,by decide,Tryz.func116.trans (congrArg some (by kernel_rfl))⟩
 t4:=Tryz.underlying4
 a4:=Tryz.isAgg4
 z4:=Tryz.sizeOf4
 v4:=Tryz.zeroValue4
 t22:=Tryz.underlying26
 a22:=Tryz.isAgg26
 z22:=Tryz.sizeOf26
 v22:=Tryz.zeroValue26 }
end Go.Proofs
namespace Go.Proofs.YtlgmncmjacjgmaaGreatDoor
open Go.Ab Go.Proofs Go.RowKit Go.Shelf
set_option maxRecDepth 100000 in
theorem dfr67:Zh3 Tryz.prog 67:=fun n cap w=>by
 refine⟨?_,?_⟩
 ·have h:=YH Tryz.func67 (c:=bodyOf Tryz.f67) rfl (by kernel_rfl) cap w
  have e:(invoke (.fn (.func 67) cap) #[]).run Tryz.prog w=(callFunc 67 cap).run Tryz.prog w:=by simp[go_sem,invoke]
  rw[e];exact h
 ·refine callsDIn_of_wpSIn Tryz.func67 rfl trivial fun c₀ cs hu=>?_;have hs:(cap++Array.replicate (Tryz.f67.ntmps-cap.size) undef).size=max cap.size 9:=by
   rw[Tryz.ntmps67];simp;omega
  generalize cap++Array.replicate (Tryz.f67.ntmps-cap.size) undef=tm at hs⊢;apply wpSIn_seq;apply wpSIn_region;simp[wpOpsSIn,go_sem,recoverD,hu,Exit.thenS];have l2:2<max cap.size 9:=by omega
  have l3:3<max cap.size 9:=by omega
  have l4:4<max cap.size 9:=by omega
  have l5:5<max cap.size 9:=by omega
  have hb:(binOp .neq 20 .nilIface .nilIface).run Tryz.prog w=.ok (.bool false) w:=by simp[binOp,Z4D Tryz.underlying20]
  apply wpSIn_seq;apply wpSIn_region;simp[wpOpsSIn,go_sem,hs,Exit.thenS,l2,l3,l4,hb];refine wpSIn_cond (t:=false) (by simp[Act.eval,hs,l5]) ?_
  simp only[Bool.false_eq_true,if_false];refine wpSIn_of_wpIn rfl (wpIn_skip ?_);cases c₀;simp_all [bodyPostS,results,Tryz.results67]
set_option maxHeartbeats 1000000 in
set_option maxRecDepth 100000 in
theorem cc126_used (b:Nat) (w:World) (h0:w.cell? ⟨b,0,none⟩=some (.pointer (some ⟨b,0,none⟩))) :
  Calls Tryz.prog 126 #[.pointer (some ⟨b,0,none⟩)] w fun e w'=>e=.returned (.tuple #[])/\w'=w:=by
 obtain⟨j,hj,_⟩:=Option.map_eq_some_iff.1 (show(Tryz.prog.info? 173).map (·.size)=some 2 by kernel_rfl)
 go_enter Tryz.func126,Tryz.ntmps126
 go_wp2
 rw[Lib.run_neq_ptr_same w _ Tryz.underlying171 hj]
 go_wp2
 go_end0
 exact⟨rfl,rfl⟩
set_option maxHeartbeats 1000000 in
set_option maxRecDepth 100000 in
theorem cc126_fresh (b:Nat) (w:World) (h0:w.cell? ⟨b,0,none⟩=some (.pointer none)) (hsh:w.shape? b=some (173,2)) (hfz:w.frozen? ⟨b,0,none⟩=false) :
  Calls Tryz.prog 126 #[.pointer (some ⟨b,0,none⟩)] w fun e w'=>e=.returned (.tuple #[])/\w'=w.setCell ⟨b,0,none⟩ (.pointer (some ⟨b,0,none⟩)):=by
 obtain⟨j,hj,hjs⟩:=Option.map_eq_some_iff.1 (show(Tryz.prog.info? 173).map (·.size)=some 2 by kernel_rfl)
 go_enter Tryz.func126,Tryz.ntmps126
 go_wp2
 rw[Lib.run_to_unsafe w ⟨b,0,none⟩ Tryz.underlying171 Tryz.underlying212 hj (by rw[hjs];decide) hsh (Nat.zero_lt_succ 1)]
 simp only[Result.andThen];rw[Oper.upon_value]
 go_wp2
 rw[run_callFunc_extern Tryz.func148 (by kernel_rfl) (by kernel_rfl) (by kernel_rfl) (e:=Extern.AbiNoEscape.same) (by kernel_rfl)]
 rw[Lib.run_noEscape];simp only[Result.andThen];rw[Oper.upon_value]
 go_wp2
 rw[Lib.run_from_unsafe w ⟨b,0,none⟩ Tryz.underlying212 Tryz.underlying171 hj hsh (show liesAt Tryz.prog Tryz.prog.depth 173 (2 / Tryz.prog.cellsOf 173) 0 173 1=true by kernel_rfl)]
 simp only[Result.andThen];rw[Oper.upon_value]
 go_wp2
 go_end0
 exact⟨rfl,rfl⟩
theorem ccOk126:Zjr Tryz.prog 126 173:=Ziu (YH Tryz.func126 (c:=bodyOf Tryz.f126) rfl (by kernel_rfl)) cc126_used cc126_fresh
theorem leafOk127:Z4g Tryz.prog E.inv 127 Z3E:=Z9L (YH Tryz.func127 (c:=bodyOf Tryz.f127) rfl (by kernel_rfl)) fun s c w _=>Any.stringslite_IndexByte Tryz.lays217 s c w
theorem leafOk69:Z4g Tryz.prog E.inv 69 Z8Y:=ZeF (YH Tryz.func69 (c:=bodyOf Tryz.f69) rfl (by kernel_rfl)) fun s q hs h1 w hi=>(let⟨m,hm⟩:=hi.1;Any.strings_Split { Tryz.laysM146 with } Tryz.laysM146.i9 s q m w hs hm h1)
theorem leafOk111:Z4g Tryz.prog E.inv 111 ZbT:=Zgz (YH Tryz.func111 (c:=bodyOf Tryz.f111) rfl (by kernel_rfl)) fun s hm v hv w _=>Calls.mono (Any.strconv_Atoi_ok Tryz.laysC172 s hm v hv w) fun e w' h=>⟨h.1,by rcases h.2 with h2|⟨t,h2⟩<;>rw[h2]<;>first|exact Below.refl _ _|exact ZcL w _ t⟩
theorem leafOk76:Z4g Tryz.prog E.inv 76 ZbU:=ZgA (YH Tryz.func76 (c:=bodyOf Tryz.f76) rfl (by kernel_rfl)) fun n h0 h1 w hi=>Calls.mono (Any.strconv_Itoa Tryz.laysM171 n h0 h1 w (Eq.mp (congrArg (fun s=>Lib.TabIs Tryz.prog w s .u64 Lib.pow10Tab) (by kernel_rfl)) hi.2)) fun e w' h=>⟨h.1,by obtain⟨k,os,h2⟩:=h.2;rw[h2];exact Zeo w k os⟩
theorem srtOk80:ZcE Tryz.prog 80 3:=Zid (YH Tryz.func80 (c:=bodyOf Tryz.f80) rfl (by kernel_rfl)) Tryz.lays189 (by kernel_rfl)
theorem clnOk116:∃ei,E.ty 30=some ei/\Z8i Tryz.prog 116 30 ei.size ei.bytes:=⟨⟨(.struct [(3,0),(3,1),(28,2)]),4,32,[(.int .i64 (0)),(.int .i64 (0)),(.int .i64 (0)),(.int .i64 (0))],true,true,[],false⟩,by kernel_rfl,Z6J (YH Tryz.func116 (c:=bodyOf Tryz.f116) rfl (by kernel_rfl)) Tryz.laysSlE041_f116 (by kernel_rfl) (by kernel_rfl) (Z7s (by kernel_rfl)) (by decide)⟩
theorem clnOk85:∃ei,E.ty 150=some ei/\Z8i Tryz.prog 85 150 ei.size ei.bytes:=⟨⟨(.struct [(3,0),(3,1)]),2,16,[(.int .i64 (0)),(.int .i64 (0))],true,true,[],false⟩,by kernel_rfl,Z6J (YH Tryz.func85 (c:=bodyOf Tryz.f85) rfl (by kernel_rfl)) Tryz.laysSlE041_f85 (by kernel_rfl) (by kernel_rfl) (Z7s (by kernel_rfl)) (by decide)⟩
theorem clnOk54:∃ei,E.ty 28=some ei/\Z8i Tryz.prog 54 28 ei.size ei.bytes:=⟨⟨(.struct [(3,0),(3,1)]),2,16,[(.int .i64 (0)),(.int .i64 (0))],true,true,[],false⟩,by kernel_rfl,Z6J (YH Tryz.func54 (c:=bodyOf Tryz.f54) rfl (by kernel_rfl)) Tryz.laysSlE041_f54 (by kernel_rfl) (by kernel_rfl) (Z7s (by kernel_rfl)) (by decide)⟩
theorem clnOk35:∃ei,E.ty 49=some ei/\Z8i Tryz.prog 35 49 ei.size ei.bytes:=⟨⟨(.struct [(3,0),(3,1),(28,2)]),4,32,[(.int .i64 (0)),(.int .i64 (0)),(.int .i64 (0)),(.int .i64 (0))],true,true,[],false⟩,by kernel_rfl,Z6J (YH Tryz.func35 (c:=bodyOf Tryz.f35) rfl (by kernel_rfl)) Tryz.laysSlE041_f35 (by kernel_rfl) (by kernel_rfl) (Z7s (by kernel_rfl)) (by decide)⟩
theorem clnAll:Zbv (fun g e=>∃ei,E.ty e=some ei/\Z8i Tryz.prog g e ei.size ei.bytes) clnT 1 0:=⟨⟨⟨trivial,trivial,⟨⟨⟨trivial,clnOk35,trivial⟩,trivial,trivial⟩,trivial,trivial⟩⟩,trivial,⟨trivial,trivial,⟨⟨trivial,trivial,⟨⟨trivial,clnOk85,trivial⟩,trivial,trivial⟩⟩,trivial,trivial⟩⟩⟩,trivial,⟨⟨trivial,trivial,⟨⟨trivial,trivial,⟨trivial,trivial,⟨trivial,clnOk116,trivial⟩⟩⟩,trivial,trivial⟩⟩,trivial,⟨trivial,trivial,⟨⟨trivial,trivial,⟨trivial,clnOk54,trivial⟩⟩,trivial,trivial⟩⟩⟩⟩
theorem srtAll:Zbv (fun g e=>ZcE Tryz.prog g e) srtT 1 0:=⟨trivial,trivial,⟨⟨⟨⟨trivial,trivial,⟨⟨trivial,srtOk80,trivial⟩,trivial,trivial⟩⟩,trivial,trivial⟩,trivial,trivial⟩,trivial,trivial⟩⟩
theorem leafAll:Zbv (fun g L=>Z4g Tryz.prog E.inv g L) leafT 1 0:=⟨⟨⟨⟨⟨⟨⟨⟨trivial,leafOk127,trivial⟩,trivial,trivial⟩,trivial,trivial⟩,trivial,⟨trivial,trivial,⟨trivial,leafOk111,trivial⟩⟩⟩,trivial,trivial⟩,trivial,trivial⟩,trivial,⟨trivial,trivial,⟨⟨⟨⟨trivial,leafOk69,trivial⟩,trivial,trivial⟩,trivial,trivial⟩,trivial,trivial⟩⟩⟩,trivial,⟨⟨trivial,trivial,⟨trivial,trivial,⟨⟨⟨trivial,leafOk76,trivial⟩,trivial,trivial⟩,trivial,trivial⟩⟩⟩,trivial,trivial⟩⟩
theorem ccAll:Zbv (fun g t=>Zjr Tryz.prog g t) ccT 1 0:=⟨trivial,trivial,⟨trivial,trivial,⟨trivial,trivial,⟨trivial,trivial,⟨trivial,trivial,⟨trivial,trivial,⟨trivial,ccOk126,trivial⟩⟩⟩⟩⟩⟩⟩
end Go.Proofs.YtlgmncmjacjgmaaGreatDoor
namespace Go.Proofs.YtlgmncmjacjgmaaGreatDoor
open Go.Ab Go.Proofs
theorem tyAll:Zek (fun t i=>Zik Tryz.prog t i) tyT=true:=by kernel_rfl
theorem tabTy:∀t ti,E.ty t=some ti->ZO Tryz.prog t ti:=fun _ _ h=>Z7s (Z6D tyAll h)
theorem mixed:Tryz.prog.follows .mixedOrders=true:=by kernel_rfl
theorem fnOk_of {f : Nat} {fn : Func} {m : Nat} {hs : List Z3Q} {pu : Bool} {xm : List (Nat × Nat)} {rm : Nat} {ca : Bool} {pb : List (Nat × Nat)} {mr : List (Nat × Nat × Nat × TypeId × Nat)} (hf : Tryz.prog.funcs[f]? = some fn) (hb : fn.body = some (bodyOf fn)) (hn : (fn.name == "runtime.NumGoroutine") = false) : Zy Tryz.prog f ⟨bodyOf fn, fn.ntmps, fn.results.toList, m, hs, pu, xm, rm, ca, pb, mr⟩ := ⟨⟨fn, hf, hb, rfl, rfl⟩, Go.Ab.YH hf hb hn⟩
theorem fnOk3:Zy Tryz.prog 3 g3:=fnOk_of Tryz.func3 rfl (by kernel_rfl)
theorem fnOk4:Zy Tryz.prog 4 g4:=fnOk_of Tryz.func4 rfl (by kernel_rfl)
theorem fnOk5:Zy Tryz.prog 5 g5:=fnOk_of Tryz.func5 rfl (by kernel_rfl)
theorem fnOk6:Zy Tryz.prog 6 g6:=fnOk_of Tryz.func6 rfl (by kernel_rfl)
theorem fnOk7:Zy Tryz.prog 7 g7:=fnOk_of Tryz.func7 rfl (by kernel_rfl)
theorem fnOk8:Zy Tryz.prog 8 g8:=fnOk_of Tryz.func8 rfl (by kernel_rfl)
theorem fnOk9:Zy Tryz.prog 9 g9:=fnOk_of Tryz.func9 rfl (by kernel_rfl)
theorem fnOk10:Zy Tryz.prog 10 g10:=fnOk_of Tryz.func10 rfl (by kernel_rfl)
theorem fnOk11:Zy Tryz.prog 11 g11:=fnOk_of Tryz.func11 rfl (by kernel_rfl)
theorem fnOk12:Zy Tryz.prog 12 g12:=fnOk_of Tryz.func12 rfl (by kernel_rfl)
theorem fnOk13:Zy Tryz.prog 13 g13:=fnOk_of Tryz.func13 rfl (by kernel_rfl)
theorem fnOk14:Zy Tryz.prog 14 g14:=fnOk_of Tryz.func14 rfl (by kernel_rfl)
theorem fnOk15:Zy Tryz.prog 15 g15:=fnOk_of Tryz.func15 rfl (by kernel_rfl)
theorem fnOk16:Zy Tryz.prog 16 g16:=fnOk_of Tryz.func16 rfl (by kernel_rfl)
theorem fnOk17:Zy Tryz.prog 17 g17:=fnOk_of Tryz.func17 rfl (by kernel_rfl)
theorem fnOk18:Zy Tryz.prog 18 g18:=fnOk_of Tryz.func18 rfl (by kernel_rfl)
theorem fnOk19:Zy Tryz.prog 19 g19:=fnOk_of Tryz.func19 rfl (by kernel_rfl)
theorem fnOk20:Zy Tryz.prog 20 g20:=fnOk_of Tryz.func20 rfl (by kernel_rfl)
theorem fnOk21:Zy Tryz.prog 21 g21:=fnOk_of Tryz.func21 rfl (by kernel_rfl)
theorem fnOk22:Zy Tryz.prog 22 g22:=fnOk_of Tryz.func22 rfl (by kernel_rfl)
theorem fnOk23:Zy Tryz.prog 23 g23:=fnOk_of Tryz.func23 rfl (by kernel_rfl)
theorem fnOk24:Zy Tryz.prog 24 g24:=fnOk_of Tryz.func24 rfl (by kernel_rfl)
theorem fnOk25:Zy Tryz.prog 25 g25:=fnOk_of Tryz.func25 rfl (by kernel_rfl)
theorem fnOk26:Zy Tryz.prog 26 g26:=fnOk_of Tryz.func26 rfl (by kernel_rfl)
theorem fnOk27:Zy Tryz.prog 27 g27:=fnOk_of Tryz.func27 rfl (by kernel_rfl)
theorem fnOk28:Zy Tryz.prog 28 g28:=fnOk_of Tryz.func28 rfl (by kernel_rfl)
theorem fnOk29:Zy Tryz.prog 29 g29:=fnOk_of Tryz.func29 rfl (by kernel_rfl)
theorem fnOk30:Zy Tryz.prog 30 g30:=fnOk_of Tryz.func30 rfl (by kernel_rfl)
theorem fnOk31:Zy Tryz.prog 31 g31:=fnOk_of Tryz.func31 rfl (by kernel_rfl)
theorem fnOk32:Zy Tryz.prog 32 g32:=fnOk_of Tryz.func32 rfl (by kernel_rfl)
theorem fnOk33:Zy Tryz.prog 33 g33:=fnOk_of Tryz.func33 rfl (by kernel_rfl)
theorem fnOk34:Zy Tryz.prog 34 g34:=fnOk_of Tryz.func34 rfl (by kernel_rfl)
theorem fnOk36:Zy Tryz.prog 36 g36:=fnOk_of Tryz.func36 rfl (by kernel_rfl)
theorem fnOk37:Zy Tryz.prog 37 g37:=fnOk_of Tryz.func37 rfl (by kernel_rfl)
theorem fnOk38:Zy Tryz.prog 38 g38:=fnOk_of Tryz.func38 rfl (by kernel_rfl)
theorem fnOk39:Zy Tryz.prog 39 g39:=fnOk_of Tryz.func39 rfl (by kernel_rfl)
theorem fnOk40:Zy Tryz.prog 40 g40:=fnOk_of Tryz.func40 rfl (by kernel_rfl)
theorem fnOk41:Zy Tryz.prog 41 g41:=fnOk_of Tryz.func41 rfl (by kernel_rfl)
theorem fnOk42:Zy Tryz.prog 42 g42:=fnOk_of Tryz.func42 rfl (by kernel_rfl)
theorem fnOk43:Zy Tryz.prog 43 g43:=fnOk_of Tryz.func43 rfl (by kernel_rfl)
theorem fnOk44:Zy Tryz.prog 44 g44:=fnOk_of Tryz.func44 rfl (by kernel_rfl)
theorem fnOk45:Zy Tryz.prog 45 g45:=fnOk_of Tryz.func45 rfl (by kernel_rfl)
theorem fnOk46:Zy Tryz.prog 46 g46:=fnOk_of Tryz.func46 rfl (by kernel_rfl)
theorem fnOk47:Zy Tryz.prog 47 g47:=fnOk_of Tryz.func47 rfl (by kernel_rfl)
theorem fnOk48:Zy Tryz.prog 48 g48:=fnOk_of Tryz.func48 rfl (by kernel_rfl)
theorem fnOk49:Zy Tryz.prog 49 g49:=fnOk_of Tryz.func49 rfl (by kernel_rfl)
theorem fnOk50:Zy Tryz.prog 50 g50:=fnOk_of Tryz.func50 rfl (by kernel_rfl)
theorem fnOk51:Zy Tryz.prog 51 g51:=fnOk_of Tryz.func51 rfl (by kernel_rfl)
theorem fnOk52:Zy Tryz.prog 52 g52:=fnOk_of Tryz.func52 rfl (by kernel_rfl)
theorem fnOk53:Zy Tryz.prog 53 g53:=fnOk_of Tryz.func53 rfl (by kernel_rfl)
theorem fnOk55:Zy Tryz.prog 55 g55:=fnOk_of Tryz.func55 rfl (by kernel_rfl)
theorem fnOk56:Zy Tryz.prog 56 g56:=fnOk_of Tryz.func56 rfl (by kernel_rfl)
theorem fnOk57:Zy Tryz.prog 57 g57:=fnOk_of Tryz.func57 rfl (by kernel_rfl)
theorem fnOk58:Zy Tryz.prog 58 g58:=fnOk_of Tryz.func58 rfl (by kernel_rfl)
theorem fnOk59:Zy Tryz.prog 59 g59:=fnOk_of Tryz.func59 rfl (by kernel_rfl)
theorem fnOk60:Zy Tryz.prog 60 g60:=fnOk_of Tryz.func60 rfl (by kernel_rfl)
theorem fnOk61:Zy Tryz.prog 61 g61:=fnOk_of Tryz.func61 rfl (by kernel_rfl)
theorem fnOk62:Zy Tryz.prog 62 g62:=fnOk_of Tryz.func62 rfl (by kernel_rfl)
theorem fnOk63:Zy Tryz.prog 63 g63:=fnOk_of Tryz.func63 rfl (by kernel_rfl)
theorem fnOk64:Zy Tryz.prog 64 g64:=fnOk_of Tryz.func64 rfl (by kernel_rfl)
theorem fnOk65:Zy Tryz.prog 65 g65:=fnOk_of Tryz.func65 rfl (by kernel_rfl)
theorem fnOk66:Zy Tryz.prog 66 g66:=fnOk_of Tryz.func66 rfl (by kernel_rfl)
theorem fnOk68:Zy Tryz.prog 68 g68:=fnOk_of Tryz.func68 rfl (by kernel_rfl)
theorem fnOk70:Zy Tryz.prog 70 g70:=fnOk_of Tryz.func70 rfl (by kernel_rfl)
theorem fnOk71:Zy Tryz.prog 71 g71:=fnOk_of Tryz.func71 rfl (by kernel_rfl)
theorem fnOk72:Zy Tryz.prog 72 g72:=fnOk_of Tryz.func72 rfl (by kernel_rfl)
theorem fnOk73:Zy Tryz.prog 73 g73:=fnOk_of Tryz.func73 rfl (by kernel_rfl)
theorem fnOk74:Zy Tryz.prog 74 g74:=fnOk_of Tryz.func74 rfl (by kernel_rfl)
theorem fnOk75:Zy Tryz.prog 75 g75:=fnOk_of Tryz.func75 rfl (by kernel_rfl)
theorem fnOk77:Zy Tryz.prog 77 g77:=fnOk_of Tryz.func77 rfl (by kernel_rfl)
theorem fnOk78:Zy Tryz.prog 78 g78:=fnOk_of Tryz.func78 rfl (by kernel_rfl)
theorem fnOk79:Zy Tryz.prog 79 g79:=fnOk_of Tryz.func79 rfl (by kernel_rfl)
theorem fnOk81:Zy Tryz.prog 81 g81:=fnOk_of Tryz.func81 rfl (by kernel_rfl)
theorem fnOk82:Zy Tryz.prog 82 g82:=fnOk_of Tryz.func82 rfl (by kernel_rfl)
theorem fnOk83:Zy Tryz.prog 83 g83:=fnOk_of Tryz.func83 rfl (by kernel_rfl)
theorem fnOk84:Zy Tryz.prog 84 g84:=fnOk_of Tryz.func84 rfl (by kernel_rfl)
theorem fnOk86:Zy Tryz.prog 86 g86:=fnOk_of Tryz.func86 rfl (by kernel_rfl)
theorem fnOk87:Zy Tryz.prog 87 g87:=fnOk_of Tryz.func87 rfl (by kernel_rfl)
theorem fnOk88:Zy Tryz.prog 88 g88:=fnOk_of Tryz.func88 rfl (by kernel_rfl)
theorem fnOk89:Zy Tryz.prog 89 g89:=fnOk_of Tryz.func89 rfl (by kernel_rfl)
theorem fnOk90:Zy Tryz.prog 90 g90:=fnOk_of Tryz.func90 rfl (by kernel_rfl)
theorem fnOk91:Zy Tryz.prog 91 g91:=fnOk_of Tryz.func91 rfl (by kernel_rfl)
theorem fnOk92:Zy Tryz.prog 92 g92:=fnOk_of Tryz.func92 rfl (by kernel_rfl)
theorem fnOk93:Zy Tryz.prog 93 g93:=fnOk_of Tryz.func93 rfl (by kernel_rfl)
theorem fnOk94:Zy Tryz.prog 94 g94:=fnOk_of Tryz.func94 rfl (by kernel_rfl)
theorem fnOk95:Zy Tryz.prog 95 g95:=fnOk_of Tryz.func95 rfl (by kernel_rfl)
theorem fnOk96:Zy Tryz.prog 96 g96:=fnOk_of Tryz.func96 rfl (by kernel_rfl)
theorem fnOk97:Zy Tryz.prog 97 g97:=fnOk_of Tryz.func97 rfl (by kernel_rfl)
theorem fnOk98:Zy Tryz.prog 98 g98:=fnOk_of Tryz.func98 rfl (by kernel_rfl)
theorem fnOk99:Zy Tryz.prog 99 g99:=fnOk_of Tryz.func99 rfl (by kernel_rfl)
theorem fnOk100:Zy Tryz.prog 100 g100:=fnOk_of Tryz.func100 rfl (by kernel_rfl)
theorem fnOk101:Zy Tryz.prog 101 g101:=fnOk_of Tryz.func101 rfl (by kernel_rfl)
theorem fnOk102:Zy Tryz.prog 102 g102:=fnOk_of Tryz.func102 rfl (by kernel_rfl)
theorem fnOk103:Zy Tryz.prog 103 g103:=fnOk_of Tryz.func103 rfl (by kernel_rfl)
theorem fnOk104:Zy Tryz.prog 104 g104:=fnOk_of Tryz.func104 rfl (by kernel_rfl)
theorem fnOk105:Zy Tryz.prog 105 g105:=fnOk_of Tryz.func105 rfl (by kernel_rfl)
theorem fnOk106:Zy Tryz.prog 106 g106:=fnOk_of Tryz.func106 rfl (by kernel_rfl)
theorem fnOk107:Zy Tryz.prog 107 g107:=fnOk_of Tryz.func107 rfl (by kernel_rfl)
theorem fnOk108:Zy Tryz.prog 108 g108:=fnOk_of Tryz.func108 rfl (by kernel_rfl)
theorem fnOk110:Zy Tryz.prog 110 g110:=fnOk_of Tryz.func110 rfl (by kernel_rfl)
theorem fnOk112:Zy Tryz.prog 112 g112:=fnOk_of Tryz.func112 rfl (by kernel_rfl)
theorem fnOk113:Zy Tryz.prog 113 g113:=fnOk_of Tryz.func113 rfl (by kernel_rfl)
theorem fnOk115:Zy Tryz.prog 115 g115:=fnOk_of Tryz.func115 rfl (by kernel_rfl)
theorem fnOk119:Zy Tryz.prog 119 g119:=fnOk_of Tryz.func119 rfl (by kernel_rfl)
theorem fnOk120:Zy Tryz.prog 120 g120:=fnOk_of Tryz.func120 rfl (by kernel_rfl)
theorem fnOk121:Zy Tryz.prog 121 g121:=fnOk_of Tryz.func121 rfl (by kernel_rfl)
theorem fnOk122:Zy Tryz.prog 122 g122:=fnOk_of Tryz.func122 rfl (by kernel_rfl)
theorem fnOk123:Zy Tryz.prog 123 g123:=fnOk_of Tryz.func123 rfl (by kernel_rfl)
theorem fnOk124:Zy Tryz.prog 124 g124:=fnOk_of Tryz.func124 rfl (by kernel_rfl)
theorem fnOk125:Zy Tryz.prog 125 g125:=fnOk_of Tryz.func125 rfl (by kernel_rfl)
theorem fnOk131:Zy Tryz.prog 131 g131:=fnOk_of Tryz.func131 rfl (by kernel_rfl)
theorem fnOk146:Zy Tryz.prog 146 g146:=fnOk_of Tryz.func146 rfl (by kernel_rfl)
theorem fnOk147:Zy Tryz.prog 147 g147:=fnOk_of Tryz.func147 rfl (by kernel_rfl)
theorem fnAll:Zbv (fun f F=>Zy Tryz.prog f F) fnT 1 0:=⟨⟨⟨⟨⟨⟨⟨trivial,fnOk63,trivial⟩,fnOk31,⟨trivial,fnOk95,trivial⟩⟩,fnOk15,⟨⟨trivial,fnOk79,trivial⟩,fnOk47,trivial⟩⟩,fnOk7,⟨⟨⟨trivial,fnOk71,trivial⟩,fnOk39,⟨trivial,fnOk103,trivial⟩⟩,fnOk23,⟨⟨trivial,fnOk87,trivial⟩,fnOk55,⟨trivial,fnOk119,trivial⟩⟩⟩⟩,fnOk3,⟨⟨⟨⟨⟨trivial,fnOk131,trivial⟩,trivial,trivial⟩,trivial,⟨trivial,fnOk99,trivial⟩⟩,fnOk19,⟨⟨⟨trivial,fnOk147,trivial⟩,fnOk83,trivial⟩,fnOk51,⟨trivial,fnOk115,trivial⟩⟩⟩,fnOk11,⟨⟨⟨trivial,fnOk75,trivial⟩,fnOk43,⟨trivial,fnOk107,trivial⟩⟩,fnOk27,⟨⟨trivial,fnOk91,trivial⟩,fnOk59,⟨trivial,fnOk123,trivial⟩⟩⟩⟩⟩,trivial,⟨⟨⟨⟨⟨trivial,fnOk65,trivial⟩,fnOk33,⟨trivial,fnOk97,trivial⟩⟩,fnOk17,⟨⟨trivial,fnOk81,trivial⟩,fnOk49,⟨trivial,fnOk113,trivial⟩⟩⟩,fnOk9,⟨⟨⟨trivial,fnOk73,trivial⟩,fnOk41,⟨trivial,fnOk105,trivial⟩⟩,fnOk25,⟨⟨trivial,fnOk89,trivial⟩,fnOk57,⟨trivial,fnOk121,trivial⟩⟩⟩⟩,fnOk5,⟨⟨⟨trivial,fnOk37,⟨trivial,fnOk101,trivial⟩⟩,fnOk21,⟨trivial,fnOk53,trivial⟩⟩,fnOk13,⟨⟨⟨trivial,fnOk77,trivial⟩,fnOk45,trivial⟩,fnOk29,⟨⟨trivial,fnOk93,trivial⟩,fnOk61,⟨trivial,fnOk125,trivial⟩⟩⟩⟩⟩⟩,trivial,⟨⟨⟨⟨⟨⟨trivial,fnOk64,trivial⟩,fnOk32,⟨trivial,fnOk96,trivial⟩⟩,fnOk16,⟨trivial,fnOk48,⟨trivial,fnOk112,trivial⟩⟩⟩,fnOk8,⟨⟨⟨trivial,fnOk72,trivial⟩,fnOk40,⟨trivial,fnOk104,trivial⟩⟩,fnOk24,⟨⟨trivial,fnOk88,trivial⟩,fnOk56,⟨trivial,fnOk120,trivial⟩⟩⟩⟩,fnOk4,⟨⟨⟨⟨trivial,fnOk68,trivial⟩,fnOk36,⟨trivial,fnOk100,trivial⟩⟩,fnOk20,⟨⟨trivial,fnOk84,trivial⟩,fnOk52,trivial⟩⟩,fnOk12,⟨⟨trivial,fnOk44,⟨trivial,fnOk108,trivial⟩⟩,fnOk28,⟨⟨trivial,fnOk92,trivial⟩,fnOk60,⟨trivial,fnOk124,trivial⟩⟩⟩⟩⟩,trivial,⟨⟨⟨⟨⟨trivial,fnOk66,trivial⟩,fnOk34,⟨trivial,fnOk98,trivial⟩⟩,fnOk18,⟨⟨⟨trivial,fnOk146,trivial⟩,fnOk82,trivial⟩,fnOk50,trivial⟩⟩,fnOk10,⟨⟨⟨trivial,fnOk74,trivial⟩,fnOk42,⟨trivial,fnOk106,trivial⟩⟩,fnOk26,⟨⟨trivial,fnOk90,trivial⟩,fnOk58,⟨trivial,fnOk122,trivial⟩⟩⟩⟩,fnOk6,⟨⟨⟨⟨trivial,fnOk70,trivial⟩,fnOk38,⟨trivial,fnOk102,trivial⟩⟩,fnOk22,⟨⟨trivial,fnOk86,trivial⟩,trivial,trivial⟩⟩,fnOk14,⟨⟨⟨trivial,fnOk78,trivial⟩,fnOk46,⟨trivial,fnOk110,trivial⟩⟩,fnOk30,⟨⟨trivial,fnOk94,trivial⟩,fnOk62,trivial⟩⟩⟩⟩⟩⟩
theorem tabFn:Z8j Tryz.prog E where
 fn:=fun _ _ h=>Z3U fnAll h
 leaf:=fun _ _ xs d h=>Z3U leafAll h xs d
 dfr:=fun g h=>by
  unfold E at h;simp only[Bool.or_eq_true]at h;exact Nat.eq_of_beq_eq_true h▸dfr67
 cc:=fun _ _ h=>Z3U ccAll h
 cln:=fun _ _ h=>Z3U clnAll h
 srt:=fun _ _ h=>Z3U srtAll h
end Go.Proofs.YtlgmncmjacjgmaaGreatDoor
