/- The tables of the program, and that they are right. -/
import Derived.Test.YtaaalkppbbpacaaGreatDoorA3
import Derived.Test.YtaaalkppbbpacaaGreatDoorProg
import Derived.Shelf.LaysM
import Derived.Shelf.LaysC
import Derived.Shelf.Strconv.Itoa3
import Derived.Shelf.Strconv.AtoiAll
import Derived.Shelf.Strings.Shaped
import Derived.Shelf.Strings.SplitShaped
import Derived.Shelf.Strings.Builder1
import Derived.Lib.Walk
import Derived.TacticsInMore
import Derived.RegionIn
import Derived.RecoverIn
import Derived.KernelRfl
set_option linter.unusedSectionVars false
set_option linter.unusedVariables false
set_option linter.unusedSimpArgs false
namespace Go.Proofs.YtaaalkppbbpacaaGreatDoor
open Go.Ab Go.Proofs
noncomputable section
noncomputable def mZ0 : String := ((Tryz.prog.info? 204).bind fun i => (i.methods[3]?).map (·.name)).getD default
noncomputable def tyT : Tr TI := (.node (.node (.node (.node (.node (.node (.node .leaf none (.node (.node .leaf (some ⟨(.struct [(5, 0), (5, 1)]), 2, 2, [(.int .u8 (0)), (.int .u8 (0))], true, true, [], false⟩) .leaf) none .leaf)) (some ⟨(.struct [(25, 0), (29, 2), (27, 6), (3, 8)]), 9, 104, [.nils, .nils, (.int .i64 (0)), (.int .i64 (0)), (.int .i64 (0)), (.int .i64 (0)), (.int .i64 (0)), (.int .i64 (0)), (.int .i64 (0))], false, false, [], false⟩) (.node (.node .leaf (some ⟨(.slice 173), 1, 24, [.nils], false, false, [], false⟩) .leaf) none .leaf)) none (.node (.node (.node (.node .leaf (some ⟨(.ptr 5), 1, 8, [.nilp], false, false, [], false⟩) .leaf) none .leaf) none (.node .leaf (some ⟨.iface, 1, 16, [.nilif], false, false, [], false⟩) .leaf)) none .leaf)) (some ⟨(.struct [(2, 0), (3, 1), (4, 2), (6, 3)]), 4, 24, [(.int .i64 (0)), (.int .i64 (0)), (.bool false), (.int .u8 (0))], true, true, [], false⟩) (.node (.node (.node .leaf (some ⟨(.struct [(9, 0), (39, 1), (29, 2)]), 6, 72, [(.str ⟨#[]⟩), .nils, (.int .i64 (0)), (.int .i64 (0)), (.int .i64 (0)), (.int .i64 (0))], false, false, [], false⟩) (.node (.node .leaf (some ⟨(.array 32 5), 32, 32, [(.int .u8 (0)), (.int .u8 (0)), (.int .u8 (0)), (.int .u8 (0)), (.int .u8 (0)), (.int .u8 (0)), (.int .u8 (0)), (.int .u8 (0)), (.int .u8 (0)), (.int .u8 (0)), (.int .u8 (0)), (.int .u8 (0)), (.int .u8 (0)), (.int .u8 (0)), (.int .u8 (0)), (.int .u8 (0)), (.int .u8 (0)), (.int .u8 (0)), (.int .u8 (0)), (.int .u8 (0)), (.int .u8 (0)), (.int .u8 (0)), (.int .u8 (0)), (.int .u8 (0)), (.int .u8 (0)), (.int .u8 (0)), (.int .u8 (0)), (.int .u8 (0)), (.int .u8 (0)), (.int .u8 (0)), (.int .u8 (0)), (.int .u8 (0))], true, false, [], false⟩) .leaf) none .leaf)) (some ⟨(.slice 43), 1, 24, [.nils], false, false, [], false⟩) .leaf) (some ⟨(.slice 71), 1, 24, [.nils], false, false, [], false⟩) (.node .leaf (some ⟨(.struct [(53, 0), (54, 2), (54, 3)]), 4, 56, [(.int .u8 (0)), (.int .u8 (0)), .nils, .nils], false, false, [], false⟩) (.node .leaf none (.node .leaf (some ⟨(.slice 9), 1, 24, [.nils], false, false, [], false⟩) .leaf))))) (some ⟨(.int .i64), 1, 8, [(.int .i64 (0))], false, false, [], false⟩) (.node (.node (.node (.node (.node .leaf (some ⟨(.struct [(27, 0), (27, 2), (27, 4), (3, 6)]), 7, 56, [(.int .i64 (0)), (.int .i64 (0)), (.int .i64 (0)), (.int .i64 (0)), (.int .i64 (0)), (.int .i64 (0)), (.int .i64 (0))], true, true, [], false⟩) .leaf) (some ⟨(.slice 3), 1, 24, [.nils], false, false, [], false⟩) (.node .leaf (some ⟨(.array 4 27), 8, 64, [(.int .i64 (0)), (.int .i64 (0)), (.int .i64 (0)), (.int .i64 (0)), (.int .i64 (0)), (.int .i64 (0)), (.int .i64 (0)), (.int .i64 (0))], true, false, [], false⟩) .leaf)) (some ⟨(.int .i64), 1, 8, [(.int .i64 (0))], false, false, [], false⟩) .leaf) none (.node (.node .leaf none (.node (.node .leaf (some ⟨(.int .u8), 1, 1, [(.int .u8 (0))], false, false, [], false⟩) .leaf) (some ⟨(.struct [(52, 0), (61, 7), (208, 8), (209, 12)]), 13, 216, [.nils, .nils, (.int .i64 (0)), .nils, .nils, (.int .i64 (0)), (.int .i64 (0)), .nils, .nilif, .nilif, .nilif, .nilif, .nilmap], false, false, [], false⟩) .leaf)) (some ⟨(.struct [(25, 0), (3, 2), (49, 3), (50, 4), (3, 5), (3, 6)]), 7, 120, [.nils, .nils, (.int .i64 (0)), .nils, .nils, (.int .i64 (0)), (.int .i64 (0))], false, false, [], false⟩) (.node (.node (.node .leaf (some ⟨(.array 20 104), 20, 160, [(.int .u64 (0)), (.int .u64 (0)), (.int .u64 (0)), (.int .u64 (0)), (.int .u64 (0)), (.int .u64 (0)), (.int .u64 (0)), (.int .u64 (0)), (.int .u64 (0)), (.int .u64 (0)), (.int .u64 (0)), (.int .u64 (0)), (.int .u64 (0)), (.int .u64 (0)), (.int .u64 (0)), (.int .u64 (0)), (.int .u64 (0)), (.int .u64 (0)), (.int .u64 (0)), (.int .u64 (0))], true, false, [], false⟩) .leaf) none .leaf) none .leaf))) (some ⟨.string, 1, 16, [(.str ⟨#[]⟩)], false, false, [], false⟩) (.node (.node (.node (.node (.node .leaf (some ⟨.func, 1, 8, [.nilfn], false, false, [], false⟩) .leaf) none .leaf) none (.node (.node .leaf (some ⟨(.struct [(9, 0)]), 1, 16, [(.str ⟨#[]⟩)], true, true, [], false⟩) .leaf) none .leaf)) (some ⟨(.struct [(3, 0), (3, 1)]), 2, 16, [(.int .i64 (0)), (.int .i64 (0))], true, true, [], false⟩) (.node .leaf (some ⟨(.struct [(31, 0), (106, 9)]), 14, 144, [.nils, .nils, (.int .i64 (0)), (.int .i64 (0)), (.int .i64 (0)), (.int .i64 (0)), (.int .i64 (0)), (.int .i64 (0)), (.int .i64 (0)), (.int .u64 (0)), (.int .u64 (0)), (.int .u64 (0)), (.int .u64 (0)), (.int .u64 (0))], false, false, [], false⟩) (.node .leaf (some ⟨(.ptr 238), 1, 8, [.nilp], false, false, [], false⟩) .leaf))) (some ⟨(.struct [(3, 0), (3, 1)]), 2, 16, [(.int .i64 (0)), (.int .i64 (0))], true, true, [], false⟩) (.node (.node (.node (.node .leaf (some ⟨.func, 1, 8, [.nilfn], false, false, [], false⟩) .leaf) (some ⟨(.struct [(3, 0), (3, 1)]), 2, 16, [(.int .i64 (0)), (.int .i64 (0))], true, true, [], false⟩) .leaf) none (.node .leaf (some ⟨.func, 1, 8, [.nilfn], false, false, [], false⟩) .leaf)) none (.node .leaf (some ⟨(.slice 9), 1, 24, [.nils], false, false, [], false⟩) .leaf))))) (some ⟨.func, 1, 8, [.nilfn], false, false, [], false⟩) (.node (.node (.node (.node .leaf (some ⟨(.struct [(3, 0), (3, 1), (3, 2), (29, 3)]), 7, 56, [(.int .i64 (0)), (.int .i64 (0)), (.int .i64 (0)), (.int .i64 (0)), (.int .i64 (0)), (.int .i64 (0)), (.int .i64 (0))], true, true, [], false⟩) (.node (.node (.node .leaf (some ⟨(.int .u64), 1, 8, [(.int .u64 (0))], false, false, [], false⟩) .leaf) (some ⟨(.struct [(9, 0), (43, 1), (159, 3)]), 4, 56, [(.str ⟨#[]⟩), (.int .i64 (0)), (.int .i64 (0)), .nils], false, false, [], false⟩) .leaf) none (.node .leaf (some ⟨(.struct [(43, 0), (43, 2)]), 4, 32, [(.int .i64 (0)), (.int .i64 (0)), (.int .i64 (0)), (.int .i64 (0))], true, true, [], false⟩) .leaf))) none (.node (.node .leaf none (.node .leaf (some ⟨(.map 277 3), 1, 8, [.nilmap], false, false, [], false⟩) .leaf)) (some ⟨(.slice 125), 1, 24, [.nils], false, false, [], false⟩) .leaf)) (some ⟨.string, 1, 16, [(.str ⟨#[]⟩)], false, false, [], false⟩) (.node (.node (.node .leaf none (.node .leaf (some ⟨.func, 1, 8, [.nilfn], false, false, [], false⟩) .leaf)) none (.node .leaf (some ⟨(.array 5 104), 5, 40, [(.int .u64 (0)), (.int .u64 (0)), (.int .u64 (0)), (.int .u64 (0)), (.int .u64 (0))], true, false, [], false⟩) (.node .leaf (some ⟨.func, 1, 8, [.nilfn], false, false, [], false⟩) .leaf))) (some ⟨(.struct [(22, 0), (23, 1)]), 2, 48, [.nils, .nils], false, false, [], false⟩) (.node (.node (.node (.node .leaf (some ⟨.func, 1, 8, [.nilfn], false, false, [], false⟩) .leaf) (some ⟨(.struct [(71, 0)]), 6, 72, [(.str ⟨#[]⟩), .nils, (.int .i64 (0)), (.int .i64 (0)), (.int .i64 (0)), (.int .i64 (0))], false, false, [], false⟩) .leaf) none .leaf) (some ⟨(.struct [(56, 0), (53, 4)]), 6, 64, [(.int .u8 (0)), (.int .u8 (0)), .nils, .nils, (.int .u8 (0)), (.int .u8 (0))], false, false, [], false⟩) .leaf))) (some ⟨(.int .u8), 1, 1, [(.int .u8 (0))], false, false, [], false⟩) (.node (.node (.node (.node (.node .leaf (some ⟨(.struct [(3, 0), (3, 1), (3, 2), (3, 3)]), 4, 32, [(.int .i64 (0)), (.int .i64 (0)), (.int .i64 (0)), (.int .i64 (0))], true, true, [], false⟩) .leaf) none .leaf) none (.node (.node (.node .leaf (some ⟨(.array 24 5), 24, 24, [(.int .u8 (0)), (.int .u8 (0)), (.int .u8 (0)), (.int .u8 (0)), (.int .u8 (0)), (.int .u8 (0)), (.int .u8 (0)), (.int .u8 (0)), (.int .u8 (0)), (.int .u8 (0)), (.int .u8 (0)), (.int .u8 (0)), (.int .u8 (0)), (.int .u8 (0)), (.int .u8 (0)), (.int .u8 (0)), (.int .u8 (0)), (.int .u8 (0)), (.int .u8 (0)), (.int .u8 (0)), (.int .u8 (0)), (.int .u8 (0)), (.int .u8 (0)), (.int .u8 (0))], true, false, [], false⟩) .leaf) none .leaf) none (.node .leaf (some ⟨.func, 1, 8, [.nilfn], false, false, [], false⟩) .leaf))) (some ⟨(.int .i32), 1, 4, [(.int .i32 (0))], false, false, [], false⟩) (.node (.node (.node (.node .leaf (some ⟨(.struct [(3, 0), (43, 1)]), 3, 24, [(.int .i64 (0)), (.int .i64 (0)), (.int .i64 (0))], true, true, [], false⟩) .leaf) none .leaf) none (.node (.node .leaf (some ⟨(.int .i32), 1, 4, [(.int .i32 (0))], false, false, [], false⟩) .leaf) none .leaf)) (some ⟨(.array 2 5), 2, 2, [(.int .u8 (0)), (.int .u8 (0))], true, false, [], false⟩) (.node (.node .leaf (some ⟨(.ptr 25), 1, 8, [.nilp], false, false, [], false⟩) .leaf) none (.node .leaf (some ⟨.func, 1, 8, [.nilfn], false, false, [], false⟩) .leaf)))) (some ⟨(.struct [(9, 0), (12, 1)]), 2, 24, [(.str ⟨#[]⟩), (.int .u64 (0))], false, false, [], false⟩) (.node (.node .leaf none (.node (.node .leaf (some ⟨(.struct [(3, 0), (3, 1)]), 2, 16, [(.int .i64 (0)), (.int .i64 (0))], true, true, [], false⟩) .leaf) (some ⟨(.slice 106), 1, 24, [.nils], false, false, [], false⟩) .leaf)) (some ⟨(.struct [(27, 0), (27, 2)]), 4, 32, [(.int .i64 (0)), (.int .i64 (0)), (.int .i64 (0)), (.int .i64 (0))], true, true, [], false⟩) (.node (.node .leaf none (.node .leaf (some ⟨.func, 1, 8, [.nilfn], false, false, [], false⟩) .leaf)) (some ⟨(.slice 134), 1, 24, [.nils], false, false, [], true⟩) (.node (.node (.node .leaf (some ⟨(.array 256 5), 256, 256, [(.int .u8 (0)), (.int .u8 (0)), (.int .u8 (0)), (.int .u8 (0)), (.int .u8 (0)), (.int .u8 (0)), (.int .u8 (0)), (.int .u8 (0)), (.int .u8 (0)), (.int .u8 (0)), (.int .u8 (0)), (.int .u8 (0)), (.int .u8 (0)), (.int .u8 (0)), (.int .u8 (0)), (.int .u8 (0)), (.int .u8 (0)), (.int .u8 (0)), (.int .u8 (0)), (.int .u8 (0)), (.int .u8 (0)), (.int .u8 (0)), (.int .u8 (0)), (.int .u8 (0)), (.int .u8 (0)), (.int .u8 (0)), (.int .u8 (0)), (.int .u8 (0)), (.int .u8 (0)), (.int .u8 (0)), (.int .u8 (0)), (.int .u8 (0)), (.int .u8 (0)), (.int .u8 (0)), (.int .u8 (0)), (.int .u8 (0)), (.int .u8 (0)), (.int .u8 (0)), (.int .u8 (0)), (.int .u8 (0)), (.int .u8 (0)), (.int .u8 (0)), (.int .u8 (0)), (.int .u8 (0)), (.int .u8 (0)), (.int .u8 (0)), (.int .u8 (0)), (.int .u8 (0)), (.int .u8 (0)), (.int .u8 (0)), (.int .u8 (0)), (.int .u8 (0)), (.int .u8 (0)), (.int .u8 (0)), (.int .u8 (0)), (.int .u8 (0)), (.int .u8 (0)), (.int .u8 (0)), (.int .u8 (0)), (.int .u8 (0)), (.int .u8 (0)), (.int .u8 (0)), (.int .u8 (0)), (.int .u8 (0)), (.int .u8 (0)), (.int .u8 (0)), (.int .u8 (0)), (.int .u8 (0)), (.int .u8 (0)), (.int .u8 (0)), (.int .u8 (0)), (.int .u8 (0)), (.int .u8 (0)), (.int .u8 (0)), (.int .u8 (0)), (.int .u8 (0)), (.int .u8 (0)), (.int .u8 (0)), (.int .u8 (0)), (.int .u8 (0)), (.int .u8 (0)), (.int .u8 (0)), (.int .u8 (0)), (.int .u8 (0)), (.int .u8 (0)), (.int .u8 (0)), (.int .u8 (0)), (.int .u8 (0)), (.int .u8 (0)), (.int .u8 (0)), (.int .u8 (0)), (.int .u8 (0)), (.int .u8 (0)), (.int .u8 (0)), (.int .u8 (0)), (.int .u8 (0)), (.int .u8 (0)), (.int .u8 (0)), (.int .u8 (0)), (.int .u8 (0)), (.int .u8 (0)), (.int .u8 (0)), (.int .u8 (0)), (.int .u8 (0)), (.int .u8 (0)), (.int .u8 (0)), (.int .u8 (0)), (.int .u8 (0)), (.int .u8 (0)), (.int .u8 (0)), (.int .u8 (0)), (.int .u8 (0)), (.int .u8 (0)), (.int .u8 (0)), (.int .u8 (0)), (.int .u8 (0)), (.int .u8 (0)), (.int .u8 (0)), (.int .u8 (0)), (.int .u8 (0)), (.int .u8 (0)), (.int .u8 (0)), (.int .u8 (0)), (.int .u8 (0)), (.int .u8 (0)), (.int .u8 (0)), (.int .u8 (0)), (.int .u8 (0)), (.int .u8 (0)), (.int .u8 (0)), (.int .u8 (0)), (.int .u8 (0)), (.int .u8 (0)), (.int .u8 (0)), (.int .u8 (0)), (.int .u8 (0)), (.int .u8 (0)), (.int .u8 (0)), (.int .u8 (0)), (.int .u8 (0)), (.int .u8 (0)), (.int .u8 (0)), (.int .u8 (0)), (.int .u8 (0)), (.int .u8 (0)), (.int .u8 (0)), (.int .u8 (0)), (.int .u8 (0)), (.int .u8 (0)), (.int .u8 (0)), (.int .u8 (0)), (.int .u8 (0)), (.int .u8 (0)), (.int .u8 (0)), (.int .u8 (0)), (.int .u8 (0)), (.int .u8 (0)), (.int .u8 (0)), (.int .u8 (0)), (.int .u8 (0)), (.int .u8 (0)), (.int .u8 (0)), (.int .u8 (0)), (.int .u8 (0)), (.int .u8 (0)), (.int .u8 (0)), (.int .u8 (0)), (.int .u8 (0)), (.int .u8 (0)), (.int .u8 (0)), (.int .u8 (0)), (.int .u8 (0)), (.int .u8 (0)), (.int .u8 (0)), (.int .u8 (0)), (.int .u8 (0)), (.int .u8 (0)), (.int .u8 (0)), (.int .u8 (0)), (.int .u8 (0)), (.int .u8 (0)), (.int .u8 (0)), (.int .u8 (0)), (.int .u8 (0)), (.int .u8 (0)), (.int .u8 (0)), (.int .u8 (0)), (.int .u8 (0)), (.int .u8 (0)), (.int .u8 (0)), (.int .u8 (0)), (.int .u8 (0)), (.int .u8 (0)), (.int .u8 (0)), (.int .u8 (0)), (.int .u8 (0)), (.int .u8 (0)), (.int .u8 (0)), (.int .u8 (0)), (.int .u8 (0)), (.int .u8 (0)), (.int .u8 (0)), (.int .u8 (0)), (.int .u8 (0)), (.int .u8 (0)), (.int .u8 (0)), (.int .u8 (0)), (.int .u8 (0)), (.int .u8 (0)), (.int .u8 (0)), (.int .u8 (0)), (.int .u8 (0)), (.int .u8 (0)), (.int .u8 (0)), (.int .u8 (0)), (.int .u8 (0)), (.int .u8 (0)), (.int .u8 (0)), (.int .u8 (0)), (.int .u8 (0)), (.int .u8 (0)), (.int .u8 (0)), (.int .u8 (0)), (.int .u8 (0)), (.int .u8 (0)), (.int .u8 (0)), (.int .u8 (0)), (.int .u8 (0)), (.int .u8 (0)), (.int .u8 (0)), (.int .u8 (0)), (.int .u8 (0)), (.int .u8 (0)), (.int .u8 (0)), (.int .u8 (0)), (.int .u8 (0)), (.int .u8 (0)), (.int .u8 (0)), (.int .u8 (0)), (.int .u8 (0)), (.int .u8 (0)), (.int .u8 (0)), (.int .u8 (0)), (.int .u8 (0)), (.int .u8 (0)), (.int .u8 (0)), (.int .u8 (0)), (.int .u8 (0)), (.int .u8 (0)), (.int .u8 (0)), (.int .u8 (0)), (.int .u8 (0)), (.int .u8 (0)), (.int .u8 (0)), (.int .u8 (0)), (.int .u8 (0))], true, false, [], false⟩) .leaf) none .leaf) (some ⟨(.struct [(9, 0), (4, 1), (27, 2)]), 4, 40, [(.str ⟨#[]⟩), (.bool false), (.int .i64 (0)), (.int .i64 (0))], true, true, [], false⟩) .leaf)))))) none (.node (.node (.node (.node (.node (.node (.node (.node .leaf (some ⟨(.struct [(148, 0)]), 1, 8, [.nilp], false, false, [(mZ0, 249)], false⟩) .leaf) none .leaf) none (.node (.node .leaf (some ⟨(.array 16 319), 32, 32, [(.int .u8 (0)), (.int .u8 (0)), (.int .u8 (0)), (.int .u8 (0)), (.int .u8 (0)), (.int .u8 (0)), (.int .u8 (0)), (.int .u8 (0)), (.int .u8 (0)), (.int .u8 (0)), (.int .u8 (0)), (.int .u8 (0)), (.int .u8 (0)), (.int .u8 (0)), (.int .u8 (0)), (.int .u8 (0)), (.int .u8 (0)), (.int .u8 (0)), (.int .u8 (0)), (.int .u8 (0)), (.int .u8 (0)), (.int .u8 (0)), (.int .u8 (0)), (.int .u8 (0)), (.int .u8 (0)), (.int .u8 (0)), (.int .u8 (0)), (.int .u8 (0)), (.int .u8 (0)), (.int .u8 (0)), (.int .u8 (0)), (.int .u8 (0))], true, false, [], false⟩) .leaf) none .leaf)) (some ⟨(.slice 34), 1, 24, [.nils], false, false, [], false⟩) (.node (.node .leaf (some ⟨(.struct [(9, 0), (43, 1), (159, 3)]), 4, 56, [(.str ⟨#[]⟩), (.int .i64 (0)), (.int .i64 (0)), .nils], false, false, [], false⟩) .leaf) none (.node .leaf (some ⟨(.struct [(43, 0), (43, 2)]), 4, 32, [(.int .i64 (0)), (.int .i64 (0)), (.int .i64 (0)), (.int .i64 (0))], true, true, [], false⟩) .leaf))) none (.node (.node (.node .leaf (some ⟨(.int .u16), 1, 2, [(.int .u16 (0))], false, false, [], false⟩) .leaf) none (.node .leaf (some ⟨(.array 4 207), 4, 64, [.nilif, .nilif, .nilif, .nilif], false, false, [], false⟩) .leaf)) none (.node .leaf none (.node .leaf (some ⟨.iface, 1, 16, [.nilif], false, false, [], false⟩) .leaf)))) (some ⟨(.struct [(2, 0), (3, 1), (4, 2), (6, 3)]), 4, 24, [(.int .i64 (0)), (.int .i64 (0)), (.bool false), (.int .u8 (0))], true, true, [], false⟩) (.node (.node (.node (.node .leaf (some ⟨(.slice 27), 1, 24, [.nils], false, false, [], false⟩) .leaf) none (.node (.node .leaf (some ⟨(.array 64 5), 64, 64, [(.int .u8 (0)), (.int .u8 (0)), (.int .u8 (0)), (.int .u8 (0)), (.int .u8 (0)), (.int .u8 (0)), (.int .u8 (0)), (.int .u8 (0)), (.int .u8 (0)), (.int .u8 (0)), (.int .u8 (0)), (.int .u8 (0)), (.int .u8 (0)), (.int .u8 (0)), (.int .u8 (0)), (.int .u8 (0)), (.int .u8 (0)), (.int .u8 (0)), (.int .u8 (0)), (.int .u8 (0)), (.int .u8 (0)), (.int .u8 (0)), (.int .u8 (0)), (.int .u8 (0)), (.int .u8 (0)), (.int .u8 (0)), (.int .u8 (0)), (.int .u8 (0)), (.int .u8 (0)), (.int .u8 (0)), (.int .u8 (0)), (.int .u8 (0)), (.int .u8 (0)), (.int .u8 (0)), (.int .u8 (0)), (.int .u8 (0)), (.int .u8 (0)), (.int .u8 (0)), (.int .u8 (0)), (.int .u8 (0)), (.int .u8 (0)), (.int .u8 (0)), (.int .u8 (0)), (.int .u8 (0)), (.int .u8 (0)), (.int .u8 (0)), (.int .u8 (0)), (.int .u8 (0)), (.int .u8 (0)), (.int .u8 (0)), (.int .u8 (0)), (.int .u8 (0)), (.int .u8 (0)), (.int .u8 (0)), (.int .u8 (0)), (.int .u8 (0)), (.int .u8 (0)), (.int .u8 (0)), (.int .u8 (0)), (.int .u8 (0)), (.int .u8 (0)), (.int .u8 (0)), (.int .u8 (0)), (.int .u8 (0))], true, false, [], false⟩) .leaf) none .leaf)) none (.node (.node .leaf (some ⟨(.array 32 3), 32, 256, [(.int .i64 (0)), (.int .i64 (0)), (.int .i64 (0)), (.int .i64 (0)), (.int .i64 (0)), (.int .i64 (0)), (.int .i64 (0)), (.int .i64 (0)), (.int .i64 (0)), (.int .i64 (0)), (.int .i64 (0)), (.int .i64 (0)), (.int .i64 (0)), (.int .i64 (0)), (.int .i64 (0)), (.int .i64 (0)), (.int .i64 (0)), (.int .i64 (0)), (.int .i64 (0)), (.int .i64 (0)), (.int .i64 (0)), (.int .i64 (0)), (.int .i64 (0)), (.int .i64 (0)), (.int .i64 (0)), (.int .i64 (0)), (.int .i64 (0)), (.int .i64 (0)), (.int .i64 (0)), (.int .i64 (0)), (.int .i64 (0)), (.int .i64 (0))], true, false, [], false⟩) .leaf) (some ⟨(.int .u64), 1, 8, [(.int .u64 (0))], false, false, [], false⟩) (.node .leaf (some ⟨(.map 9 3), 1, 8, [.nilmap], false, false, [], false⟩) .leaf))) (some ⟨(.struct [(22, 0), (23, 1)]), 2, 48, [.nils, .nils], false, false, [], false⟩) (.node (.node (.node .leaf (some ⟨(.struct [(71, 0)]), 6, 72, [(.str ⟨#[]⟩), .nils, (.int .i64 (0)), (.int .i64 (0)), (.int .i64 (0)), (.int .i64 (0))], false, false, [], false⟩) .leaf) none .leaf) (some ⟨(.struct [(53, 0), (54, 2), (54, 3)]), 4, 56, [(.int .u8 (0)), (.int .u8 (0)), .nils, .nils], false, false, [], false⟩) .leaf))) (some ⟨.bool, 1, 1, [(.bool false)], false, false, [], false⟩) (.node (.node (.node (.node .leaf none (.node .leaf (some ⟨(.array 4 27), 8, 64, [(.int .i64 (0)), (.int .i64 (0)), (.int .i64 (0)), (.int .i64 (0)), (.int .i64 (0)), (.int .i64 (0)), (.int .i64 (0)), (.int .i64 (0))], true, false, [], false⟩) .leaf)) none (.node (.node (.node .leaf (some ⟨.func, 1, 8, [.nilfn], false, false, [], false⟩) .leaf) none .leaf) none (.node .leaf (some ⟨.func, 1, 8, [.nilfn], false, false, [], false⟩) .leaf))) (some ⟨.iface, 1, 16, [.nilif], false, false, [], false⟩) (.node (.node (.node (.node .leaf (some ⟨(.struct [(3, 0), (43, 1)]), 3, 24, [(.int .i64 (0)), (.int .i64 (0)), (.int .i64 (0))], true, true, [], false⟩) .leaf) (some ⟨(.ptr 211), 1, 8, [.nilp], false, false, [], false⟩) .leaf) none .leaf) (some ⟨(.struct [(25, 0), (3, 2), (49, 3), (50, 4), (3, 5), (3, 6)]), 7, 120, [.nils, .nils, (.int .i64 (0)), .nils, .nils, (.int .i64 (0)), (.int .i64 (0))], false, false, [], false⟩) (.node (.node (.node .leaf (some ⟨(.array 65 5), 65, 65, [(.int .u8 (0)), (.int .u8 (0)), (.int .u8 (0)), (.int .u8 (0)), (.int .u8 (0)), (.int .u8 (0)), (.int .u8 (0)), (.int .u8 (0)), (.int .u8 (0)), (.int .u8 (0)), (.int .u8 (0)), (.int .u8 (0)), (.int .u8 (0)), (.int .u8 (0)), (.int .u8 (0)), (.int .u8 (0)), (.int .u8 (0)), (.int .u8 (0)), (.int .u8 (0)), (.int .u8 (0)), (.int .u8 (0)), (.int .u8 (0)), (.int .u8 (0)), (.int .u8 (0)), (.int .u8 (0)), (.int .u8 (0)), (.int .u8 (0)), (.int .u8 (0)), (.int .u8 (0)), (.int .u8 (0)), (.int .u8 (0)), (.int .u8 (0)), (.int .u8 (0)), (.int .u8 (0)), (.int .u8 (0)), (.int .u8 (0)), (.int .u8 (0)), (.int .u8 (0)), (.int .u8 (0)), (.int .u8 (0)), (.int .u8 (0)), (.int .u8 (0)), (.int .u8 (0)), (.int .u8 (0)), (.int .u8 (0)), (.int .u8 (0)), (.int .u8 (0)), (.int .u8 (0)), (.int .u8 (0)), (.int .u8 (0)), (.int .u8 (0)), (.int .u8 (0)), (.int .u8 (0)), (.int .u8 (0)), (.int .u8 (0)), (.int .u8 (0)), (.int .u8 (0)), (.int .u8 (0)), (.int .u8 (0)), (.int .u8 (0)), (.int .u8 (0)), (.int .u8 (0)), (.int .u8 (0)), (.int .u8 (0)), (.int .u8 (0))], true, false, [], false⟩) .leaf) none .leaf) (some ⟨.func, 1, 8, [.nilfn], false, false, [], false⟩) .leaf))) (some ⟨(.int .u64), 1, 8, [(.int .u64 (0))], false, false, [], false⟩) (.node (.node (.node (.node (.node .leaf (some ⟨.func, 1, 8, [.nilfn], false, false, [], false⟩) .leaf) none .leaf) none (.node (.node .leaf (some ⟨(.struct [(9, 0)]), 1, 16, [(.str ⟨#[]⟩)], true, true, [], false⟩) .leaf) (some ⟨(.struct [(148, 0)]), 1, 8, [.nilp], false, false, [(mZ0, 247)], false⟩) .leaf)) none (.node (.node .leaf (some ⟨(.struct [(3, 0), (3, 1)]), 2, 16, [(.int .i64 (0)), (.int .i64 (0))], true, true, [], false⟩) .leaf) (some ⟨(.struct [(31, 0), (106, 9)]), 14, 144, [.nils, .nils, (.int .i64 (0)), (.int .i64 (0)), (.int .i64 (0)), (.int .i64 (0)), (.int .i64 (0)), (.int .i64 (0)), (.int .i64 (0)), (.int .u64 (0)), (.int .u64 (0)), (.int .u64 (0)), (.int .u64 (0)), (.int .u64 (0))], false, false, [], false⟩) (.node .leaf (some ⟨(.slice 5), 1, 24, [.nils], false, false, [], false⟩) .leaf))) (some ⟨(.struct [(27, 0), (27, 2)]), 4, 32, [(.int .i64 (0)), (.int .i64 (0)), (.int .i64 (0)), (.int .i64 (0))], true, true, [], false⟩) (.node .leaf none (.node .leaf (some ⟨(.struct [(9, 0), (4, 1), (27, 2)]), 4, 40, [(.str ⟨#[]⟩), (.bool false), (.int .i64 (0)), (.int .i64 (0))], true, true, [], false⟩) .leaf))))) (some ⟨(.int .i64), 1, 8, [(.int .i64 (0))], false, false, [], false⟩) (.node (.node (.node (.node (.node (.node .leaf (some ⟨(.struct [(27, 0), (27, 2), (27, 4), (3, 6)]), 7, 56, [(.int .i64 (0)), (.int .i64 (0)), (.int .i64 (0)), (.int .i64 (0)), (.int .i64 (0)), (.int .i64 (0)), (.int .i64 (0))], true, true, [], false⟩) .leaf) none .leaf) (some ⟨(.struct [(3, 0), (3, 1), (3, 2), (29, 3)]), 7, 56, [(.int .i64 (0)), (.int .i64 (0)), (.int .i64 (0)), (.int .i64 (0)), (.int .i64 (0)), (.int .i64 (0)), (.int .i64 (0))], true, true, [], false⟩) .leaf) none (.node (.node (.node (.node .leaf (some ⟨(.ptr 247), 1, 8, [.nilp], false, false, [], false⟩) .leaf) none .leaf) none (.node (.node .leaf (some ⟨(.int .u8), 1, 1, [(.int .u8 (0))], false, false, [], false⟩) .leaf) none .leaf)) (some ⟨(.slice 131), 1, 24, [.nils], false, false, [], false⟩) .leaf)) (some ⟨.string, 1, 16, [(.str ⟨#[]⟩)], false, false, [], false⟩) (.node (.node .leaf (some ⟨(.struct [(3, 0), (3, 1)]), 2, 16, [(.int .i64 (0)), (.int .i64 (0))], true, true, [], false⟩) (.node (.node (.node .leaf (some ⟨(.int .u32), 1, 4, [(.int .u32 (0))], false, false, [], false⟩) .leaf) (some ⟨(.array 8 43), 16, 128, [(.int .i64 (0)), (.int .i64 (0)), (.int .i64 (0)), (.int .i64 (0)), (.int .i64 (0)), (.int .i64 (0)), (.int .i64 (0)), (.int .i64 (0)), (.int .i64 (0)), (.int .i64 (0)), (.int .i64 (0)), (.int .i64 (0)), (.int .i64 (0)), (.int .i64 (0)), (.int .i64 (0)), (.int .i64 (0))], true, false, [], false⟩) .leaf) (some ⟨(.array 5 104), 5, 40, [(.int .u64 (0)), (.int .u64 (0)), (.int .u64 (0)), (.int .u64 (0)), (.int .u64 (0))], true, false, [], false⟩) .leaf)) (some ⟨(.struct [(3, 0), (3, 1)]), 2, 16, [(.int .i64 (0)), (.int .i64 (0))], true, true, [], false⟩) (.node (.node (.node .leaf (some ⟨(.struct [(3, 0), (3, 1)]), 2, 16, [(.int .i64 (0)), (.int .i64 (0))], true, true, [], false⟩) .leaf) none (.node (.node .leaf (some ⟨.func, 1, 8, [.nilfn], false, false, [], false⟩) .leaf) (some ⟨.func, 1, 8, [.nilfn], false, false, [], false⟩) .leaf)) (some ⟨(.struct [(56, 0), (53, 4)]), 6, 64, [(.int .u8 (0)), (.int .u8 (0)), .nils, .nils, (.int .u8 (0)), (.int .u8 (0))], false, false, [], false⟩) .leaf))) (some ⟨(.int .u8), 1, 1, [(.int .u8 (0))], false, false, [], false⟩) (.node (.node (.node (.node (.node .leaf (some ⟨(.struct [(3, 0), (3, 1), (3, 2), (3, 3)]), 4, 32, [(.int .i64 (0)), (.int .i64 (0)), (.int .i64 (0)), (.int .i64 (0))], true, true, [], false⟩) .leaf) (some ⟨(.struct [(9, 0), (39, 1), (29, 2)]), 6, 72, [(.str ⟨#[]⟩), .nils, (.int .i64 (0)), (.int .i64 (0)), (.int .i64 (0)), (.int .i64 (0))], false, false, [], false⟩) .leaf) none (.node .leaf none (.node .leaf (some ⟨.func, 1, 8, [.nilfn], false, false, [], false⟩) .leaf))) (some ⟨(.slice 161), 1, 24, [.nils], false, false, [], false⟩) (.node (.node .leaf none (.node (.node .leaf (some ⟨(.int .i32), 1, 4, [(.int .i32 (0))], false, false, [], false⟩) .leaf) none .leaf)) (some ⟨(.slice 144), 1, 24, [.nils], false, false, [], false⟩) (.node (.node (.node .leaf (some ⟨(.int .i64), 1, 8, [(.int .i64 (0))], false, false, [], false⟩) .leaf) none .leaf) none .leaf))) (some ⟨(.struct [(9, 0), (12, 1)]), 2, 24, [(.str ⟨#[]⟩), (.int .u64 (0))], false, false, [], false⟩) (.node (.node (.node (.node (.node .leaf (some ⟨.func, 1, 8, [.nilfn], false, false, [], false⟩) .leaf) none .leaf) none .leaf) none (.node .leaf none (.node .leaf (some ⟨(.struct [(235, 0), (236, 1)]), 2, 32, [.nilp, .nils], false, false, [], false⟩) .leaf))) (some ⟨(.struct [(25, 0), (29, 2), (27, 6), (3, 8)]), 9, 104, [.nils, .nils, (.int .i64 (0)), (.int .i64 (0)), (.int .i64 (0)), (.int .i64 (0)), (.int .i64 (0)), (.int .i64 (0)), (.int .i64 (0))], false, false, [], false⟩) (.node (.node .leaf none (.node .leaf (some ⟨.func, 1, 8, [.nilfn], false, false, [], false⟩) .leaf)) none (.node (.node (.node .leaf (some ⟨(.struct [(5, 0), (5, 1)]), 2, 2, [(.int .u8 (0)), (.int .u8 (0))], true, true, [], false⟩) .leaf) none .leaf) none .leaf)))))))
def bodyOf (f:Func):Code:=match f.body with|some c=>c|none=>.skip
def mkF (f:Func) (m:Nat) (hs:List Z3G) (pu:Bool) (xm:List (Nat×Nat)) (rm:Nat) (ca:Bool):FI:=⟨bodyOf f,f.ntmps,f.results.toList,m,hs,pu,xm,rm,ca⟩
def g4:FI:=mkF Tryz.f4 24520115737481803749308612049374591051489619426198650783 [⟨0,28172,[],false⟩,⟨2,272908,[],false⟩,⟨4,2099716,[],false⟩,⟨6,257952260,[],false⟩] true [(1,28172),(0,10764),(3,272908),(2,2564),(7,257952260),(6,102763012),(5,2099716),(4,0)] 16 false
def g6:FI:=mkF Tryz.f6 402640895 [] true [] 1 false
def g9:FI:=mkF Tryz.f9 8594268127 [] true [] 448 false
def g11:FI:=mkF Tryz.f11 79307989434184399496630243231 [⟨0,770,[.slot 8 9],false⟩,⟨2,2050,[],false⟩] true [(1,770),(0,2),(3,2050),(2,0)] 28 false
def g12:FI:=mkF Tryz.f12 196607 [] true [] 1 false
def g13:FI:=mkF Tryz.f13 22302106328018589304993260339493783145054207 [⟨0,236,[.slot 5 134],true⟩] false [(1,236),(0,32)] 16 true
def g14:FI:=mkF Tryz.f14 63 [] true [] 16 false
def g15:FI:=mkF Tryz.f15 33015 [] true [] 48 false
def g16:FI:=mkF Tryz.f16 32985382651383 [⟨0,15393162788880,[],false⟩] true [(1,15393162788880),(0,16)] 48 false
def g17:FI:=mkF Tryz.f17 39894552047298155959828479 [⟨0,14680120,[.slot 4 3,.slot 5 3],false⟩,⟨2,6597084450488,[],false⟩] true [(3,6597084450488),(2,14683320),(1,14680120),(0,48)] 112 false
def g18:FI:=mkF Tryz.f18 23 [] true [] 16 false
def g19:FI:=mkF Tryz.f19 2199023289343 [⟨0,432,[],false⟩] true [(1,432),(0,0)] 64 false
def g20:FI:=mkF Tryz.f20 143134623 [] true [(0,1152)] 768 false
def g21:FI:=mkF Tryz.f21 137438953679 [] true [] 64 false
def g22:FI:=mkF Tryz.f22 10477895030805526347679 [⟨0,7552,[],false⟩,⟨2,15744,[],false⟩,⟨4,442721857769029239040,[.slot 8 3],false⟩] true [(3,15744),(2,7552),(1,7552),(0,2304),(5,442721857769029239040),(4,256)] 768 false
def g25:FI:=mkF Tryz.f25 114845 [⟨0,49172,[],false⟩] true [(1,49172),(0,20)] 12 false
def g26:FI:=mkF Tryz.f26 1 [] true [] 1 false
def g27:FI:=mkF Tryz.f27 19 [] true [] 16 false
def g28:FI:=mkF Tryz.f28 34364068863 [⟨0,396,[],false⟩] true [(1,396),(0,128)] 48 false
def g29:FI:=mkF Tryz.f29 1743 [] true [] 192 false
def g30:FI:=mkF Tryz.f30 271 [] true [] 256 false
def g31:FI:=mkF Tryz.f31 16463 [] true [] 12 false
def g32:FI:=mkF Tryz.f32 271613 [⟨0,29,[],false⟩] true [(1,29),(0,13)] 12 false
def g33:FI:=mkF Tryz.f33 1 [] true [] 1 false
def g34:FI:=mkF Tryz.f34 265133 [⟨0,137,[],false⟩] true [(2,161),(1,137),(0,9)] 4 false
def g35:FI:=mkF Tryz.f35 33571891 [⟨0,35,[],false⟩] true [(1,35),(0,0)] 16 false
def g36:FI:=mkF Tryz.f36 1329227996104073506767178031662370815 [⟨0,44,[],false⟩,⟨2,492,[],false⟩,⟨4,524,[],false⟩] true [(3,492),(2,44),(1,44),(0,12),(5,524),(4,0)] 16 false
def g48:FI:=mkF Tryz.f48 33571891 [⟨0,35,[],false⟩] true [(1,35),(0,0)] 16 false
def g53:FI:=mkF Tryz.f53 131103 [] true [] 16 false
def g54:FI:=mkF Tryz.f54 95 [] true [] 64 false
def g55:FI:=mkF Tryz.f55 18451247948218810335 [⟨0,1835156,[],false⟩,⟨2,1841812,[],false⟩,⟨4,1850004,[],false⟩] true [(5,1850004),(4,1841812),(3,1841812),(2,1835156),(1,1835156),(0,128)] 448 false
def g56:FI:=mkF Tryz.f56 1242775744942909275222067199 [⟨0,98,[.slot 5 9],false⟩,⟨2,546,[.slot 5 9],false⟩] true [(1,98),(0,34),(3,546),(2,0)] 28 false
def g57:FI:=mkF Tryz.f57 71 [] true [] 64 false
def g58:FI:=mkF Tryz.f58 2195 [] true [] 16 false
def g59:FI:=mkF Tryz.f59 79 [] true [] 64 false
def g60:FI:=mkF Tryz.f60 23 [] true [] 4 false
def g61:FI:=mkF Tryz.f61 167772191 [] true [] 4 false
def g62:FI:=mkF Tryz.f62 3 [] true [] 1 false
def g63:FI:=mkF Tryz.f63 1 [] true [] 1 false
def g64:FI:=mkF Tryz.f64 1 [] true [] 1 false
def g65:FI:=mkF Tryz.f65 68723937263 [] true [(0,296)] 192 false
def g66:FI:=mkF Tryz.f66 1 [] true [] 1 false
def g67:FI:=mkF Tryz.f67 19 [] true [] 16 false
def g68:FI:=mkF Tryz.f68 2342118101136474103 [⟨0,15924,[],false⟩,⟨2,105553116269104,[.slot 4 3,.slot 5 3],false⟩] true [(1,15924),(0,2612),(4,105553116269104),(3,105553116269104),(2,48)] 112 false
def g69:FI:=mkF Tryz.f69 19493965734899129560129527 [⟨1,824633722740,[],false⟩,⟨3,53601191858036,[],false⟩] true [(0,372),(4,53601191858036),(3,824633722740),(2,824633722740),(1,1136)] 240 false
def g70:FI:=mkF Tryz.f70 33571891 [⟨0,35,[],false⟩] true [(1,35),(0,0)] 16 false
def g71:FI:=mkF Tryz.f71 19 [] true [] 16 false
def g72:FI:=mkF Tryz.f72 95 [] true [] 64 false
def g73:FI:=mkF Tryz.f73 281474976711743 [⟨0,44,[],false⟩] true [(1,44),(0,0)] 16 false
def g74:FI:=mkF Tryz.f74 23 [] true [] 16 false
def g75:FI:=mkF Tryz.f75 42951772063 [] true [] 768 false
def g76:FI:=mkF Tryz.f76 87 [] true [] 16 false
def g77:FI:=mkF Tryz.f77 375 [] false [] 48 true
def g78:FI:=mkF Tryz.f78 33199 [⟨0,134,[.cell 2 0 43],false⟩] false [(1,0),(0,4)] 4 true
def g79:FI:=mkF Tryz.f79 12583935 [⟨0,4194544,[],false⟩] true [(1,0),(0,192)] 64 false
def g80:FI:=mkF Tryz.f80 31 [] true [] 16 false
def g81:FI:=mkF Tryz.f81 31 [] true [] 16 false
def g82:FI:=mkF Tryz.f82 16779215 [] true [] 192 false
def g83:FI:=mkF Tryz.f83 23 [] true [] 16 false
def g84:FI:=mkF Tryz.f84 283119639 [⟨0,6,[],false⟩,⟨2,6291462,[],false⟩] true [(1,6),(0,6),(3,6291462),(2,4)] 4 false
def g85:FI:=mkF Tryz.f85 31 [] true [] 16 false
def g86:FI:=mkF Tryz.f86 35201551962567 [⟨0,391,[],false⟩] true [(1,391),(0,128)] 64 false
def g87:FI:=mkF Tryz.f87 8388663 [] true [(0,0)] 16 false
def g90:FI:=mkF Tryz.f90 1 [] true [] 1 false
def g91:FI:=mkF Tryz.f91 624522743121375 [⟨1,8796093022672,[],false⟩] true [(0,476),(2,0),(1,448)] 448 false
def g92:FI:=mkF Tryz.f92 608811243466427009023 [⟨0,1835074,[],false⟩,⟨2,31525197391593536,[],false⟩] true [(1,1835074),(0,66),(3,31525197391593536),(2,0)] 28 false
def g93:FI:=mkF Tryz.f93 1133368023442741476088543 [⟨0,917530,[],false⟩,⟨2,15033303258,[.slot 7 3],false⟩,⟨4,31525197391593496,[],false⟩,⟨6,528905077606597655533592,[.slot 12 3],false⟩] true [(3,15033303258),(2,917722),(1,917530),(0,26),(7,528905077606597655533592),(6,31525197391599640),(5,31525197391593496),(4,8)] 4 false
def g96:FI:=mkF Tryz.f96 9 [] true [] 0 false
def g97:FI:=mkF Tryz.f97 73804990697684599795 [⟨3,577,[.cell 9 1 43],false⟩,⟨1,193,[.cell 7 3 173],false⟩] false [(4,577),(3,513),(2,193),(1,129),(0,0)] 0 false
def g108:FI:=mkF Tryz.f108 19 [] false [] 16 false
def g109:FI:=mkF Tryz.f109 23 [] false [] 16 false
def g110:FI:=mkF Tryz.f110 4611721752622514175 [⟨0,33008,[],false⟩] true [(2,3168),(1,0),(0,192)] 64 false
def g111:FI:=mkF Tryz.f111 23 [] true [] 16 false
def g112:FI:=mkF Tryz.f112 35184908961933 [⟨0,9,[],false⟩] true [(1,9),(0,0)] 4 false
def g113:FI:=mkF Tryz.f113 17188274719 [⟨0,10,[],false⟩] true [(1,10),(0,2)] 4 false
def g114:FI:=mkF Tryz.f114 35184380479629 [⟨0,9,[],false⟩] true [(1,9),(0,0)] 4 false
def g115:FI:=mkF Tryz.f115 131635 [⟨0,35,[],false⟩] true [(1,35),(0,0)] 16 false
def g116:FI:=mkF Tryz.f116 95 [] true [] 64 false
def g117:FI:=mkF Tryz.f117 1298074214636068090376120552369967 [⟨0,29360429,[],false⟩,⟨2,962072674605,[],false⟩] false [(1,29360429),(0,301),(3,962072674605),(2,256)] 768 true
def g118:FI:=mkF Tryz.f118 21 [] false [] 4 false
def g119:FI:=mkF Tryz.f119 1099511643221 [⟨0,7173,[],false⟩] false [(1,7173),(0,4)] 4 true
def g120:FI:=mkF Tryz.f120 35186536398399 [⟨0,2101,[],false⟩] false [(1,2101),(0,0)] 1536 true
def g121:FI:=mkF Tryz.f121 549757387135 [⟨0,524348,[],false⟩] false [(1,0),(0,16)] 16 true
def g122:FI:=mkF Tryz.f122 51 [] false [] 16 true
def g123:FI:=mkF Tryz.f123 61581242129167 [⟨0,459277,[],false⟩,⟨2,26388279546381,[],false⟩] false [(3,26388279546381),(2,459277),(1,459277),(0,512)] 256 true
def g124:FI:=mkF Tryz.f124 147 [] true [] 16 false
def g125:FI:=mkF Tryz.f125 8388815 [] true [] 64 false
def g126:FI:=mkF Tryz.f126 131087 [⟨0,10,[],false⟩] true [(1,10),(0,8)] 4 false
def g127:FI:=mkF Tryz.f127 550313657143 [⟨0,518,[],false⟩] true [(1,518),(0,0)] 48 false
def g128:FI:=mkF Tryz.f128 8798107402743 [⟨0,939524114,[],false⟩] false [(1,939524114),(0,18)] 112 true
def g129:FI:=mkF Tryz.f129 7 [] false [] 4 false
def g130:FI:=mkF Tryz.f130 7 [] false [] 4 false
def g131:FI:=mkF Tryz.f131 2148008143 [] true [(0,72)] 64 false
def g132:FI:=mkF Tryz.f132 19 [] false [] 16 false
def g133:FI:=mkF Tryz.f133 15 [] false [] 8 false
def g134:FI:=mkF Tryz.f134 31 [] true [] 16 false
def g135:FI:=mkF Tryz.f135 71 [] true [] 64 false
def g136:FI:=mkF Tryz.f136 7 [] false [] 4 false
def g137:FI:=mkF Tryz.f137 4363 [] false [(0,0)] 8 false
def g138:FI:=mkF Tryz.f138 134299181 [⟨0,7176,[],false⟩] true [(2,7200),(1,7176),(0,0)] 4 false
def g139:FI:=mkF Tryz.f139 72092843673420223 [⟨1,268435462,[],false⟩,⟨3,30064771124,[],false⟩] true [(0,6),(4,30064771124),(3,52),(2,0),(1,4)] 4 false
def g140:FI:=mkF Tryz.f140 246031 [⟨0,114696,[],false⟩] false [(1,114696),(0,8)] 0 false
def g141:FI:=mkF Tryz.f141 51 [] false [] 48 false
def g143:FI:=mkF Tryz.f143 19 [] false [] 16 false
def g144:FI:=mkF Tryz.f144 5 [] false [] 4 false
def g147:FI:=mkF Tryz.f147 5 [] false [] 4 false
def g148:FI:=mkF Tryz.f148 5 [] false [] 4 false
def g158:FI:=mkF Tryz.f158 66483 [⟨0,387,[],false⟩] false [(1,387),(0,0)] 16 false
def g159:FI:=mkF Tryz.f159 31 [] true [] 16 false
def g160:FI:=mkF Tryz.f160 4503599628419645 [⟨0,9,[],false⟩,⟨2,57,[],false⟩] true [(3,57),(2,9),(1,9),(0,0)] 4 false
def g161:FI:=mkF Tryz.f161 23 [] false [] 16 false
def g162:FI:=mkF Tryz.f162 4398063290343 [] false [] 64 true
def g163:FI:=mkF Tryz.f163 32925 [⟨0,25,[],false⟩] true [(1,25),(0,8)] 4 false
def g164:FI:=mkF Tryz.f164 8594129487 [] true [] 64 false
def g165:FI:=mkF Tryz.f165 2099319 [⟨0,102,[],false⟩] true [(1,102),(0,32)] 16 false
def g166:FI:=mkF Tryz.f166 21 [] true [] 4 false
def g167:FI:=mkF Tryz.f167 2310348812696686623 [] true [] 16 false
def g168:FI:=mkF Tryz.f168 1157495477273403423 [] true [(0,2)] 28 false
def g169:FI:=mkF Tryz.f169 2105331 [⟨0,3586,[],false⟩] false [(1,3586),(0,0)] 48 false
def g170:FI:=mkF Tryz.f170 55 [] false [] 32 false
def g171:FI:=mkF Tryz.f171 9229283578305609755 [] false [(1,0),(0,0)] 16 true
def g172:FI:=mkF Tryz.f172 4503603922468891 [⟨0,11,[],false⟩,⟨2,27,[],false⟩] false [(3,27),(2,11),(1,11),(0,0)] 0 false
def g173:FI:=mkF Tryz.f173 2151415851 [⟨0,1835017,[],false⟩] false [(1,1835017),(0,0)] 0 false
def g174:FI:=mkF Tryz.f174 4147 [] true [] 16 false
def g175:FI:=mkF Tryz.f175 66483 [⟨0,387,[],false⟩] false [(1,387),(0,0)] 16 false
def g176:FI:=mkF Tryz.f176 262411 [⟨0,11,[],false⟩] false [(1,11),(0,0)] 0 false
def g181:FI:=mkF Tryz.f181 29 [] false [] 4 false
def g183:FI:=mkF Tryz.f183 7 [] true [] 4 false
def g184:FI:=mkF Tryz.f184 2105331 [⟨0,3586,[],false⟩] false [(1,3586),(0,0)] 48 false
def g185:FI:=mkF Tryz.f185 55 [] false [] 32 false
def g186:FI:=mkF Tryz.f186 537010615 [] true [(0,0)] 16 false
def g187:FI:=mkF Tryz.f187 2105331 [⟨0,3586,[],false⟩] false [(1,3586),(0,0)] 48 false
def g188:FI:=mkF Tryz.f188 27 [] true [] 16 false
def g189:FI:=mkF Tryz.f189 17179869199 [] true [(0,0)] 4 false
def g200:FI:=mkF Tryz.f200 19 [] false [] 16 false
def g201:FI:=mkF Tryz.f201 15 [] false [] 8 false
def g213:FI:=mkF Tryz.f213 66483 [⟨0,387,[],false⟩] false [(1,387),(0,0)] 16 false
def g247:FI:=mkF Tryz.f247 8389631 [] false [] 192 true
def g249:FI:=mkF Tryz.f249 525311 [] false [] 192 true
def g250:FI:=mkF Tryz.f250 66483 [⟨0,387,[],false⟩] false [(1,387),(0,0)] 16 false
def g251:FI:=mkF Tryz.f251 15 [] false [] 8 false
def fnT:Tr FI:=(.node (.node (.node (.node (.node (.node (.node (.node .leaf (some g127) .leaf) (some g63) .leaf) (some g31) (.node (.node .leaf (some g159) .leaf) none .leaf)) (some g15) (.node (.node (.node .leaf (some g143) .leaf) (some g79) .leaf) none (.node (.node .leaf (some g175) .leaf) (some g111) .leaf))) none (.node (.node (.node (.node .leaf (some g135) .leaf) (some g71) .leaf) none (.node (.node .leaf (some g167) .leaf) none .leaf)) none (.node (.node .leaf (some g87) .leaf) (some g55) (.node (.node .leaf (some g183) .leaf) (some g119) (.node .leaf (some g247) .leaf))))) none (.node (.node (.node (.node (.node .leaf (some g131) .leaf) (some g67) .leaf) (some g35) (.node (.node .leaf (some g163) .leaf) none .leaf)) (some g19) (.node (.node (.node .leaf (some g147) .leaf) (some g83) .leaf) none (.node .leaf (some g115) .leaf))) (some g11) (.node (.node (.node (.node .leaf (some g139) .leaf) (some g75) .leaf) none (.node (.node .leaf (some g171) .leaf) none .leaf)) (some g27) (.node (.node .leaf (some g91) .leaf) (some g59) (.node (.node .leaf (some g187) .leaf) (some g123) (.node .leaf (some g251) .leaf)))))) none (.node (.node (.node (.node (.node (.node .leaf (some g129) .leaf) (some g65) .leaf) (some g33) (.node (.node .leaf (some g161) .leaf) (some g97) .leaf)) (some g17) (.node (.node .leaf (some g81) .leaf) none (.node .leaf (some g113) .leaf))) (some g9) (.node (.node (.node (.node .leaf (some g137) .leaf) (some g73) (.node .leaf (some g201) .leaf)) none (.node (.node .leaf (some g169) .leaf) none .leaf)) (some g25) (.node .leaf (some g57) (.node (.node .leaf (some g185) .leaf) (some g121) (.node .leaf (some g249) .leaf))))) none (.node (.node (.node (.node (.node .leaf (some g133) .leaf) (some g69) .leaf) none (.node (.node .leaf (some g165) .leaf) none .leaf)) (some g21) (.node (.node .leaf (some g85) (.node .leaf (some g213) .leaf)) (some g53) (.node (.node .leaf (some g181) .leaf) (some g117) .leaf))) (some g13) (.node (.node (.node (.node .leaf (some g141) .leaf) (some g77) .leaf) none (.node (.node .leaf (some g173) .leaf) (some g109) .leaf)) (some g29) (.node (.node .leaf (some g93) .leaf) (some g61) (.node (.node .leaf (some g189) .leaf) (some g125) .leaf)))))) none (.node (.node (.node (.node (.node (.node (.node .leaf (some g128) .leaf) (some g64) .leaf) (some g32) (.node (.node .leaf (some g160) .leaf) (some g96) .leaf)) (some g16) (.node (.node (.node .leaf (some g144) .leaf) (some g80) .leaf) (some g48) (.node (.node .leaf (some g176) .leaf) (some g112) .leaf))) none (.node (.node (.node (.node .leaf (some g136) .leaf) (some g72) (.node .leaf (some g200) .leaf)) none (.node (.node .leaf (some g168) .leaf) none .leaf)) none (.node .leaf (some g56) (.node (.node .leaf (some g184) .leaf) (some g120) .leaf)))) (some g4) (.node (.node (.node (.node (.node .leaf (some g132) .leaf) (some g68) .leaf) (some g36) (.node (.node .leaf (some g164) .leaf) none .leaf)) (some g20) (.node (.node (.node .leaf (some g148) .leaf) (some g84) .leaf) none (.node .leaf (some g116) .leaf))) (some g12) (.node (.node (.node (.node .leaf (some g140) .leaf) (some g76) .leaf) none (.node (.node .leaf (some g172) .leaf) (some g108) .leaf)) (some g28) (.node (.node .leaf (some g92) .leaf) (some g60) (.node (.node .leaf (some g188) .leaf) (some g124) .leaf))))) none (.node (.node (.node (.node (.node (.node .leaf (some g130) .leaf) (some g66) .leaf) (some g34) (.node (.node .leaf (some g162) .leaf) none .leaf)) (some g18) (.node (.node .leaf (some g82) .leaf) none (.node .leaf (some g114) .leaf))) none (.node (.node (.node (.node .leaf (some g138) .leaf) (some g74) .leaf) none (.node (.node .leaf (some g170) .leaf) none .leaf)) (some g26) (.node (.node .leaf (some g90) .leaf) (some g58) (.node (.node .leaf (some g186) .leaf) (some g122) (.node .leaf (some g250) .leaf))))) (some g6) (.node (.node (.node (.node (.node .leaf (some g134) .leaf) (some g70) .leaf) none (.node (.node .leaf (some g166) .leaf) none .leaf)) (some g22) (.node (.node .leaf (some g86) .leaf) (some g54) (.node .leaf (some g118) .leaf))) (some g14) (.node (.node (.node .leaf (some g78) .leaf) none (.node (.node .leaf (some g174) .leaf) (some g110) .leaf)) (some g30) (.node (.node (.node .leaf (some g158) .leaf) none .leaf) (some g62) (.node .leaf (some g126) .leaf)))))))
def powN:String:=((Tryz.prog.globals[1]?).map (·.name)).getD default
def leafT:Tr (List DV->Option DV):=(.node (.node (.node (.node (.node (.node .leaf none (.node .leaf (some ZeN) .leaf)) none .leaf) none (.node (.node (.node .leaf none (.node .leaf (some Zbd) .leaf)) none .leaf) none .leaf)) none .leaf) none .leaf) none (.node .leaf none (.node (.node (.node .leaf none (.node (.node (.node .leaf (some Z8l) .leaf) none .leaf) none .leaf)) none .leaf) none (.node .leaf none (.node (.node (.node (.node .leaf (some Zbe) .leaf) none .leaf) none .leaf) none .leaf)))))
def ccT:Tr TypeId:=(.node (.node .leaf none (.node (.node (.node .leaf none (.node .leaf none (.node (.node .leaf (some 238) .leaf) none .leaf))) none .leaf) none .leaf)) none .leaf)
def E:Env:=⟨tyT.get,fnT.get,leafT.get,ccT.get,fun g=>Nat.beq g 94,fun w=>(∃m,w.cell? ⟨0,0,none⟩=some (.int .i64 m))/\Lib.TabIs Tryz.prog w powN .u64 Lib.pow10Tab,fun _ _ h hb=>⟨Zbi h.1 hb,Zde h.2 hb⟩⟩
end
end Go.Proofs.YtaaalkppbbpacaaGreatDoor
namespace Go.Proofs
open Go.Shelf
def Tryz.laysM171_ren:Go.Shelf.Ren:=⟨fun|171=>142|243=>178|246=>191|283=>202|284=>203|285=>204|286=>205|129=>215|317=>214|318=>216|319=>217|320=>218|337=>225|338=>226|n=>n,fun|3=>3|9=>9|2=>2|4=>4|171=>293|0=>0|53=>104|37=>236|5=>5|173=>296|212=>307|51=>298|20=>20|213=>308|46=>289|232=>327|233=>328|n=>n,fun|17=>1|18=>6|19=>7|n=>n⟩
theorem Tryz.laysM171:Go.Proofs.LaysM.n171 Tryz.prog Tryz.laysM171_ren:={
 mixed:=by kernel_rfl
 f129:=Tryz.func215.trans (congrArg some (by kernel_rfl))
 f171:=Tryz.func142.trans (congrArg some (by kernel_rfl))
 f243:=Tryz.func178.trans (congrArg some (by kernel_rfl))
 f246:=Tryz.func191.trans (congrArg some (by kernel_rfl))
 f283:=Tryz.func202.trans (congrArg some (by kernel_rfl))
 f284:=Tryz.func203.trans (congrArg some (by kernel_rfl))
 f285:=Tryz.func204.trans (congrArg some (by kernel_rfl))
 f286:=Tryz.func205.trans (congrArg some (by kernel_rfl))
 f317:=Tryz.func214.trans (congrArg some (by kernel_rfl))
 f318:=Tryz.func216.trans (congrArg some (by kernel_rfl))
 f319:=Tryz.func217.trans (congrArg some (by kernel_rfl))
 f320:=Tryz.func218.trans (congrArg some (by kernel_rfl))
 f337:=Tryz.func225.trans (congrArg some (by kernel_rfl))
 f338:=Tryz.func226.trans (congrArg some (by kernel_rfl))
 t0:=Tryz.underlying0
 a0:=Tryz.isAgg0
 z0:=Tryz.sizeOf0
 v0:=Tryz.zeroValue0
 t2:=Tryz.underlying2
 a2:=Tryz.isAgg2
 z2:=Tryz.sizeOf2
 v2:=Tryz.zeroValue2
 t3:=Tryz.underlying3
 a3:=Tryz.isAgg3
 z3:=Tryz.sizeOf3
 v3:=Tryz.zeroValue3
 t4:=Tryz.underlying4
 a4:=Tryz.isAgg4
 z4:=Tryz.sizeOf4
 v4:=Tryz.zeroValue4
 t5:=Tryz.underlying5
 a5:=Tryz.isAgg5
 z5:=Tryz.sizeOf5
 v5:=Tryz.zeroValue5
 t9:=Tryz.underlying9
 a9:=Tryz.isAgg9
 z9:=Tryz.sizeOf9
 v9:=Tryz.zeroValue9
 t20:=Tryz.underlying20
 a20:=Tryz.isAgg20
 z20:=Tryz.sizeOf20
 v20:=Tryz.zeroValue20
 t37:=Tryz.underlying236
 a37:=Tryz.isAgg236
 z37:=Tryz.sizeOf236
 v37:=Tryz.zeroValue236
 t46:=Tryz.underlying289
 a46:=Tryz.isAgg289
 z46:=Tryz.sizeOf289
 v46:=Tryz.zeroValue289
 t51:=Tryz.underlying298
 a51:=Tryz.isAgg298
 z51:=Tryz.sizeOf298
 v51:=Tryz.zeroValue298
 t53:=Tryz.underlying104
 a53:=Tryz.isAgg104
 z53:=Tryz.sizeOf104
 v53:=Tryz.zeroValue104
 t171:=Tryz.underlying293
 a171:=Tryz.isAgg293
 z171:=Tryz.sizeOf293
 v171:=Tryz.zeroValue293
 t173:=Tryz.underlying296
 a173:=Tryz.isAgg296
 z173:=Tryz.sizeOf296
 v173:=Tryz.zeroValue296
 t212:=Tryz.underlying307
 a212:=Tryz.isAgg307
 z212:=Tryz.sizeOf307
 v212:=Tryz.zeroValue307
 t213:=Tryz.underlying308
 a213:=Tryz.isAgg308
 z213:=Tryz.sizeOf308
 t232:=Tryz.underlying327
 a232:=Tryz.isAgg327
 z232:=Tryz.sizeOf327
 v232:=Tryz.zeroValue327
 t233:=Tryz.underlying328
 a233:=Tryz.isAgg328
 z233:=Tryz.sizeOf328
 v233:=Tryz.zeroValue328
 g17:=by kernel_rfl
 g18:=by kernel_rfl
 g19:=by kernel_rfl
 i0:=by kernel_rfl
 i2:=by kernel_rfl
 i3:=by kernel_rfl
 i4:=by kernel_rfl
 i5:=by kernel_rfl
 i9:=by kernel_rfl
 i20:=by kernel_rfl
 i37:=by kernel_rfl
 i46:=by kernel_rfl
 i51:=by kernel_rfl
 i53:=by kernel_rfl
 i171:=by kernel_rfl
 i173:=by kernel_rfl
 i212:=by kernel_rfl
 i232:=by kernel_rfl
 i233:=by kernel_rfl
 m17:=by kernel_rfl
 m18:=by kernel_rfl
 m19:=by kernel_rfl }
def Tryz.laysC172_ren:Go.Shelf.Ren:=⟨fun|172=>199|244=>211|245=>212|247=>220|279=>221|280=>222|281=>223|282=>224|287=>227|316=>228|171=>142|205=>229|321=>230|322=>231|243=>178|246=>191|283=>202|284=>203|285=>204|286=>205|129=>215|317=>214|318=>216|319=>217|320=>218|337=>225|338=>226|n=>n,fun|9=>9|3=>3|75=>240|76=>241|4=>4|5=>5|167=>310|37=>236|0=>0|85=>311|2=>2|168=>313|53=>104|175=>321|46=>289|210=>325|127=>271|145=>332|143=>330|21=>21|171=>293|173=>296|212=>307|51=>298|20=>20|213=>308|232=>327|233=>328|80=>92|n=>n,fun|15=>4|16=>5|17=>1|18=>6|19=>7|n=>n⟩
theorem Tryz.laysC172:Go.Proofs.LaysC.n172 Tryz.prog Tryz.laysC172_ren:={
 mixed:=by kernel_rfl
 f129:=Tryz.func215.trans (congrArg some (by kernel_rfl))
 f171:=Tryz.func142.trans (congrArg some (by kernel_rfl))
 f172:=Tryz.func199.trans (congrArg some (by kernel_rfl))
 f205:=Tryz.func229.trans (congrArg some (by kernel_rfl))
 f243:=Tryz.func178.trans (congrArg some (by kernel_rfl))
 f244:=Tryz.func211.trans (congrArg some (by kernel_rfl))
 f245:=Tryz.func212.trans (congrArg some (by kernel_rfl))
 f246:=Tryz.func191.trans (congrArg some (by kernel_rfl))
 f247:=Tryz.func220.trans (congrArg some (by kernel_rfl))
 f279:=Tryz.func221.trans (congrArg some (by kernel_rfl))
 f280:=Tryz.func222.trans (congrArg some (by kernel_rfl))
 f281:=Tryz.func223.trans (congrArg some (by kernel_rfl))
 f282:=Tryz.func224.trans (congrArg some (by kernel_rfl))
 f283:=Tryz.func202.trans (congrArg some (by kernel_rfl))
 f284:=Tryz.func203.trans (congrArg some (by kernel_rfl))
 f285:=Tryz.func204.trans (congrArg some (by kernel_rfl))
 f286:=Tryz.func205.trans (congrArg some (by kernel_rfl))
 f287:=Tryz.func227.trans (congrArg some (by kernel_rfl))
 f316:=Tryz.func228.trans (congrArg some (by kernel_rfl))
 f317:=Tryz.func214.trans (congrArg some (by kernel_rfl))
 f318:=Tryz.func216.trans (congrArg some (by kernel_rfl))
 f319:=Tryz.func217.trans (congrArg some (by kernel_rfl))
 f320:=Tryz.func218.trans (congrArg some (by kernel_rfl))
 f321:=Tryz.func230.trans (congrArg some (by kernel_rfl))
 f322:=Tryz.func231.trans (congrArg some (by kernel_rfl))
 f337:=Tryz.func225.trans (congrArg some (by kernel_rfl))
 f338:=Tryz.func226.trans (congrArg some (by kernel_rfl))
 t0:=Tryz.underlying0
 a0:=Tryz.isAgg0
 z0:=Tryz.sizeOf0
 v0:=Tryz.zeroValue0
 t2:=Tryz.underlying2
 a2:=Tryz.isAgg2
 z2:=Tryz.sizeOf2
 v2:=Tryz.zeroValue2
 t3:=Tryz.underlying3
 a3:=Tryz.isAgg3
 z3:=Tryz.sizeOf3
 v3:=Tryz.zeroValue3
 t4:=Tryz.underlying4
 a4:=Tryz.isAgg4
 z4:=Tryz.sizeOf4
 v4:=Tryz.zeroValue4
 t5:=Tryz.underlying5
 a5:=Tryz.isAgg5
 z5:=Tryz.sizeOf5
 v5:=Tryz.zeroValue5
 t9:=Tryz.underlying9
 a9:=Tryz.isAgg9
 z9:=Tryz.sizeOf9
 v9:=Tryz.zeroValue9
 t20:=Tryz.underlying20
 a20:=Tryz.isAgg20
 z20:=Tryz.sizeOf20
 v20:=Tryz.zeroValue20
 t21:=Tryz.underlying21
 a21:=Tryz.isAgg21
 z21:=Tryz.sizeOf21
 v21:=Tryz.zeroValue21
 t37:=Tryz.underlying236
 a37:=Tryz.isAgg236
 z37:=Tryz.sizeOf236
 v37:=Tryz.zeroValue236
 t46:=Tryz.underlying289
 a46:=Tryz.isAgg289
 z46:=Tryz.sizeOf289
 v46:=Tryz.zeroValue289
 t51:=Tryz.underlying298
 a51:=Tryz.isAgg298
 z51:=Tryz.sizeOf298
 v51:=Tryz.zeroValue298
 t53:=Tryz.underlying104
 a53:=Tryz.isAgg104
 z53:=Tryz.sizeOf104
 v53:=Tryz.zeroValue104
 t75:=Tryz.underlying240
 a75:=Tryz.isAgg240
 z75:=Tryz.sizeOf240
 v75:=Tryz.zeroValue240
 t76:=Tryz.underlying241
 a76:=Tryz.isAgg241
 z76:=Tryz.sizeOf241
 v76:=Tryz.zeroValue241
 t85:=Tryz.underlying311
 a85:=Tryz.isAgg311
 z85:=Tryz.sizeOf311
 v85:=Tryz.zeroValue311
 t127:=Tryz.underlying271
 a127:=Tryz.isAgg271
 z127:=Tryz.sizeOf271
 v127:=Tryz.zeroValue271
 t143:=Tryz.underlying330
 a143:=Tryz.isAgg330
 z143:=Tryz.sizeOf330
 v143:=Tryz.zeroValue330
 t145:=Tryz.underlying332
 a145:=Tryz.isAgg332
 z145:=Tryz.sizeOf332
 v145:=Tryz.zeroValue332
 t167:=Tryz.underlying310
 a167:=Tryz.isAgg310
 z167:=Tryz.sizeOf310
 v167:=Tryz.zeroValue310
 t168:=Tryz.underlying313
 a168:=Tryz.isAgg313
 z168:=Tryz.sizeOf313
 v168:=Tryz.zeroValue313
 t171:=Tryz.underlying293
 a171:=Tryz.isAgg293
 z171:=Tryz.sizeOf293
 v171:=Tryz.zeroValue293
 t173:=Tryz.underlying296
 a173:=Tryz.isAgg296
 z173:=Tryz.sizeOf296
 v173:=Tryz.zeroValue296
 t175:=Tryz.underlying321
 a175:=Tryz.isAgg321
 z175:=Tryz.sizeOf321
 v175:=Tryz.zeroValue321
 t210:=Tryz.underlying325
 a210:=Tryz.isAgg325
 z210:=Tryz.sizeOf325
 v210:=Tryz.zeroValue325
 t212:=Tryz.underlying307
 a212:=Tryz.isAgg307
 z212:=Tryz.sizeOf307
 v212:=Tryz.zeroValue307
 t213:=Tryz.underlying308
 a213:=Tryz.isAgg308
 z213:=Tryz.sizeOf308
 t232:=Tryz.underlying327
 a232:=Tryz.isAgg327
 z232:=Tryz.sizeOf327
 v232:=Tryz.zeroValue327
 t233:=Tryz.underlying328
 a233:=Tryz.isAgg328
 z233:=Tryz.sizeOf328
 v233:=Tryz.zeroValue328
 g15:=by kernel_rfl
 g16:=by kernel_rfl
 g17:=by kernel_rfl
 g18:=by kernel_rfl
 g19:=by kernel_rfl
 t80:=Tryz.underlying92
 a80:=Tryz.isAgg92
 z80:=Tryz.sizeOf92
 v80:=Tryz.zeroValue92
 i0:=by kernel_rfl
 i2:=by kernel_rfl
 i3:=by kernel_rfl
 i4:=by kernel_rfl
 i5:=by kernel_rfl
 i9:=by kernel_rfl
 i20:=by kernel_rfl
 i21:=by kernel_rfl
 i37:=by kernel_rfl
 i46:=by kernel_rfl
 i51:=by kernel_rfl
 i53:=by kernel_rfl
 i75:=by kernel_rfl
 i76:=by kernel_rfl
 i80:=by kernel_rfl
 i85:=by kernel_rfl
 i127:=by kernel_rfl
 i143:=by kernel_rfl
 i145:=by kernel_rfl
 i167:=by kernel_rfl
 i168:=by kernel_rfl
 i171:=by kernel_rfl
 i173:=by kernel_rfl
 i175:=by kernel_rfl
 i210:=by kernel_rfl
 i212:=by kernel_rfl
 i232:=by kernel_rfl
 i233:=by kernel_rfl
 m15:=by kernel_rfl
 m16:=by kernel_rfl
 m17:=by kernel_rfl
 m18:=by kernel_rfl
 m19:=by kernel_rfl
 c0:=by kernel_rfl
 c2:=by kernel_rfl
 c3:=by kernel_rfl
 c4:=by kernel_rfl
 c5:=by kernel_rfl
 c9:=by kernel_rfl
 c20:=by kernel_rfl
 c21:=by kernel_rfl
 c37:=by kernel_rfl
 c46:=by kernel_rfl
 c51:=by kernel_rfl
 c53:=by kernel_rfl
 c75:=by kernel_rfl
 c76:=by kernel_rfl
 c80:=by kernel_rfl
 c85:=by kernel_rfl
 c127:=by kernel_rfl
 c143:=by kernel_rfl
 c145:=by kernel_rfl
 c167:=by kernel_rfl
 c168:=by kernel_rfl
 c171:=by kernel_rfl
 c173:=by kernel_rfl
 c175:=by kernel_rfl
 c210:=by kernel_rfl
 c212:=by kernel_rfl
 c213:=by kernel_rfl
 c232:=by kernel_rfl
 c233:=by kernel_rfl }
def Tryz.laysM145_ren:Go.Shelf.Ren:=⟨fun|145=>95|220=>145|219=>179|217=>192|225=>193|224=>194|267=>195|266=>206|314=>207|n=>n,fun|9=>9|4=>4|59=>177|3=>3|5=>5|46=>289|146=>299|51=>298|n=>n,fun|1=>0|n=>n⟩
theorem Tryz.laysM145:Go.Proofs.LaysM.n145 Tryz.prog Tryz.laysM145_ren:={
 mixed:=by kernel_rfl
 f145:=Tryz.func95.trans (congrArg some (by kernel_rfl))
 f217:=Tryz.func192.trans (congrArg some (by kernel_rfl))
 f219:=Tryz.func179.trans (congrArg some (by kernel_rfl))
 f220:=Tryz.func145.trans (congrArg some (by kernel_rfl))
 f224:=Tryz.func194.trans (congrArg some (by kernel_rfl))
 f225:=Tryz.func193.trans (congrArg some (by kernel_rfl))
 f266:=Tryz.func206.trans (congrArg some (by kernel_rfl))
 f267:=Tryz.func195.trans (congrArg some (by kernel_rfl))
 f314:=Tryz.func207.trans (congrArg some (by kernel_rfl))
 t3:=Tryz.underlying3
 a3:=Tryz.isAgg3
 z3:=Tryz.sizeOf3
 v3:=Tryz.zeroValue3
 t4:=Tryz.underlying4
 a4:=Tryz.isAgg4
 z4:=Tryz.sizeOf4
 v4:=Tryz.zeroValue4
 t5:=Tryz.underlying5
 a5:=Tryz.isAgg5
 z5:=Tryz.sizeOf5
 v5:=Tryz.zeroValue5
 t9:=Tryz.underlying9
 a9:=Tryz.isAgg9
 z9:=Tryz.sizeOf9
 v9:=Tryz.zeroValue9
 t46:=Tryz.underlying289
 a46:=Tryz.isAgg289
 z46:=Tryz.sizeOf289
 v46:=Tryz.zeroValue289
 t51:=Tryz.underlying298
 a51:=Tryz.isAgg298
 z51:=Tryz.sizeOf298
 v51:=Tryz.zeroValue298
 t59:=Tryz.underlying177
 a59:=Tryz.isAgg177
 z59:=Tryz.sizeOf177
 v59:=Tryz.zeroValue177
 t146:=Tryz.underlying299
 a146:=Tryz.isAgg299
 z146:=Tryz.sizeOf299
 v146:=Tryz.zeroValue299
 g1:=by kernel_rfl
 i3:=by kernel_rfl
 i4:=by kernel_rfl
 i5:=by kernel_rfl
 i9:=by kernel_rfl
 i46:=by kernel_rfl
 i51:=by kernel_rfl
 i59:=by kernel_rfl
 i146:=by kernel_rfl
 m1:=by kernel_rfl
 s1_3:=fun w h=>Go.Proofs.cell_of_shapedOpen_int (zero := #[.int .i64 0]) (t:=3) h (of_decide_eq_true (by kernel_rfl)) (by kernel_rfl) rfl (by kernel_rfl) (by kernel_rfl) Tryz.underlying3 }
def Tryz.laysM146_ren:Go.Shelf.Ren:=⟨fun|146=>146|221=>180|268=>196|138=>197|143=>198|195=>208|197=>209|218=>210|219=>179|260=>219|217=>192|225=>193|224=>194|267=>195|266=>206|314=>207|n=>n,fun|9=>9|31=>123|3=>3|4=>4|0=>0|105=>302|21=>21|5=>5|46=>289|119=>317|139=>320|138=>319|146=>299|51=>298|n=>n,fun|1=>0|3=>2|4=>3|n=>n⟩
theorem Tryz.laysM146:Go.Proofs.LaysM.n146 Tryz.prog Tryz.laysM146_ren:={
 mixed:=by kernel_rfl
 f138:=Tryz.func197.trans (congrArg some (by kernel_rfl))
 f143:=Tryz.func198.trans (congrArg some (by kernel_rfl))
 f146:=Tryz.func146.trans (congrArg some (by kernel_rfl))
 f195:=Tryz.func208.trans (congrArg some (by kernel_rfl))
 f197:=Tryz.func209.trans (congrArg some (by kernel_rfl))
 f217:=Tryz.func192.trans (congrArg some (by kernel_rfl))
 f218:=Tryz.func210.trans (congrArg some (by kernel_rfl))
 f219:=Tryz.func179.trans (congrArg some (by kernel_rfl))
 f221:=Tryz.func180.trans (congrArg some (by kernel_rfl))
 f224:=Tryz.func194.trans (congrArg some (by kernel_rfl))
 f225:=Tryz.func193.trans (congrArg some (by kernel_rfl))
 f260:=Tryz.func219.trans (congrArg some (by kernel_rfl))
 f266:=Tryz.func206.trans (congrArg some (by kernel_rfl))
 f267:=Tryz.func195.trans (congrArg some (by kernel_rfl))
 f268:=Tryz.func196.trans (congrArg some (by kernel_rfl))
 f314:=Tryz.func207.trans (congrArg some (by kernel_rfl))
 t0:=Tryz.underlying0
 a0:=Tryz.isAgg0
 z0:=Tryz.sizeOf0
 v0:=Tryz.zeroValue0
 t3:=Tryz.underlying3
 a3:=Tryz.isAgg3
 z3:=Tryz.sizeOf3
 v3:=Tryz.zeroValue3
 t4:=Tryz.underlying4
 a4:=Tryz.isAgg4
 z4:=Tryz.sizeOf4
 v4:=Tryz.zeroValue4
 t5:=Tryz.underlying5
 a5:=Tryz.isAgg5
 z5:=Tryz.sizeOf5
 v5:=Tryz.zeroValue5
 t9:=Tryz.underlying9
 a9:=Tryz.isAgg9
 z9:=Tryz.sizeOf9
 v9:=Tryz.zeroValue9
 t21:=Tryz.underlying21
 a21:=Tryz.isAgg21
 z21:=Tryz.sizeOf21
 v21:=Tryz.zeroValue21
 t31:=Tryz.underlying123
 a31:=Tryz.isAgg123
 z31:=Tryz.sizeOf123
 v31:=Tryz.zeroValue123
 t46:=Tryz.underlying289
 a46:=Tryz.isAgg289
 z46:=Tryz.sizeOf289
 v46:=Tryz.zeroValue289
 t51:=Tryz.underlying298
 a51:=Tryz.isAgg298
 z51:=Tryz.sizeOf298
 v51:=Tryz.zeroValue298
 t105:=Tryz.underlying302
 a105:=Tryz.isAgg302
 z105:=Tryz.sizeOf302
 v105:=Tryz.zeroValue302
 t119:=Tryz.underlying317
 a119:=Tryz.isAgg317
 z119:=Tryz.sizeOf317
 t138:=Tryz.underlying319
 a138:=Tryz.isAgg319
 z138:=Tryz.sizeOf319
 v138:=Tryz.zeroValue319
 t139:=Tryz.underlying320
 a139:=Tryz.isAgg320
 z139:=Tryz.sizeOf320
 v139:=Tryz.zeroValue320
 t146:=Tryz.underlying299
 a146:=Tryz.isAgg299
 z146:=Tryz.sizeOf299
 v146:=Tryz.zeroValue299
 g1:=by kernel_rfl
 g3:=by kernel_rfl
 g4:=by kernel_rfl
 i0:=by kernel_rfl
 i3:=by kernel_rfl
 i4:=by kernel_rfl
 i5:=by kernel_rfl
 i9:=by kernel_rfl
 i21:=by kernel_rfl
 i31:=by kernel_rfl
 i46:=by kernel_rfl
 i51:=by kernel_rfl
 i105:=by kernel_rfl
 i138:=by kernel_rfl
 i139:=by kernel_rfl
 i146:=by kernel_rfl
 m1:=by kernel_rfl
 s1_3:=fun w h=>Go.Proofs.cell_of_shapedOpen_int (zero := #[.int .i64 0]) (t:=3) h (of_decide_eq_true (by kernel_rfl)) (by kernel_rfl) rfl (by kernel_rfl) (by kernel_rfl) Tryz.underlying3
 m3:=by kernel_rfl
 m4:=by kernel_rfl }
end Go.Proofs
namespace Go.Proofs.YtaaalkppbbpacaaGreatDoor
open Go.Ab Go.Proofs Go.RowKit Go.Shelf
set_option maxRecDepth 100000 in
theorem dfr94:ZfZ Tryz.prog 94:=fun n cap w=>by
 refine⟨?_,?_⟩
 ·have h:=Z22 Tryz.func94 (c:=bodyOf Tryz.f94) rfl (by kernel_rfl) cap w
  have e:(invoke (.fn (.func 94) cap) #[]).run Tryz.prog w=(callFunc 94 cap).run Tryz.prog w:=by simp[go_sem,invoke]
  rw[e];exact h
 ·refine callsDIn_of_wpSIn Tryz.func94 rfl trivial fun c₀ cs hu=>?_;have hs:(cap++Array.replicate (Tryz.f94.ntmps-cap.size) undef).size=max cap.size 9:=by
   rw[Tryz.ntmps94];simp;omega
  generalize cap++Array.replicate (Tryz.f94.ntmps-cap.size) undef=tm at hs⊢;apply wpSIn_seq;apply wpSIn_region;simp[wpOpsSIn,go_sem,recoverD,hu,Exit.thenS];have l2:2<max cap.size 9:=by omega
  have l3:3<max cap.size 9:=by omega
  have l4:4<max cap.size 9:=by omega
  have l5:5<max cap.size 9:=by omega
  have hb:(binOp .neq 20 .nilIface .nilIface).run Tryz.prog w=.ok (.bool false) w:=by simp[binOp,Z4q Tryz.underlying20]
  apply wpSIn_seq;apply wpSIn_region;simp[wpOpsSIn,go_sem,hs,Exit.thenS,l2,l3,l4,hb];refine wpSIn_cond (t:=false) (by simp[Act.eval,hs,l5]) ?_
  simp only[Bool.false_eq_true,if_false];refine wpSIn_of_wpIn rfl (wpIn_skip ?_);cases c₀;simp_all [bodyPostS,results,Tryz.results94]
set_option maxHeartbeats 1000000 in
set_option maxRecDepth 100000 in
theorem cc177_used (b:Nat) (w:World) (h0:w.cell? ⟨b,0,none⟩=some (.pointer (some ⟨b,0,none⟩))) :
  Calls Tryz.prog 177 #[.pointer (some ⟨b,0,none⟩)] w fun e w'=>e=.returned (.tuple #[])/\w'=w:=by
 obtain⟨j,hj,_⟩:=Option.map_eq_some_iff.1 (show(Tryz.prog.info? 238).map (·.size)=some 2 by kernel_rfl)
 go_enter Tryz.func177,Tryz.ntmps177
 go_wp2
 rw[Lib.run_neq_ptr_same w _ Tryz.underlying235 hj]
 go_wp2
 go_end0
 exact⟨rfl,rfl⟩
set_option maxHeartbeats 1000000 in
set_option maxRecDepth 100000 in
theorem cc177_fresh (b:Nat) (w:World) (h0:w.cell? ⟨b,0,none⟩=some (.pointer none)) (hsh:w.shape? b=some (238,2)) (hfz:w.frozen? ⟨b,0,none⟩=false) :
  Calls Tryz.prog 177 #[.pointer (some ⟨b,0,none⟩)] w fun e w'=>e=.returned (.tuple #[])/\w'=w.setCell ⟨b,0,none⟩ (.pointer (some ⟨b,0,none⟩)):=by
 obtain⟨j,hj,hjs⟩:=Option.map_eq_some_iff.1 (show(Tryz.prog.info? 238).map (·.size)=some 2 by kernel_rfl)
 go_enter Tryz.func177,Tryz.ntmps177
 go_wp2
 rw[Lib.run_to_unsafe w ⟨b,0,none⟩ Tryz.underlying235 Tryz.underlying284 hj (by rw[hjs];decide) hsh (Nat.zero_lt_succ 1)]
 simp only[Result.andThen];rw[Oper.upon_value]
 go_wp2
 rw[run_callFunc_extern Tryz.func190 (by kernel_rfl) (by kernel_rfl) (by kernel_rfl) (e:=Extern.AbiNoEscape.same) (by kernel_rfl)]
 rw[Lib.run_noEscape];simp only[Result.andThen];rw[Oper.upon_value]
 go_wp2
 rw[Lib.run_from_unsafe w ⟨b,0,none⟩ Tryz.underlying284 Tryz.underlying235 hj hsh (show liesAt Tryz.prog Tryz.prog.depth 238 (2 / Tryz.prog.cellsOf 238) 0 238 1=true by kernel_rfl)]
 simp only[Result.andThen];rw[Oper.upon_value]
 go_wp2
 go_end0
 exact⟨rfl,rfl⟩
theorem ccOk177:Zi7 Tryz.prog 177 238:=Zhf (Z22 Tryz.func177 (c:=bodyOf Tryz.f177) rfl (by kernel_rfl)) cc177_used cc177_fresh
theorem leafOk142:Z44 Tryz.prog E.inv 142 Zbe:=ZfA (Z22 Tryz.func142 (c:=bodyOf Tryz.f142) rfl (by kernel_rfl)) fun n h0 h1 w hi=>Calls.mono (Any.strconv_Itoa Tryz.laysM171 n h0 h1 w (Eq.mp (congrArg (fun s=>Lib.TabIs Tryz.prog w s .u64 Lib.pow10Tab) (by kernel_rfl)) hi.2)) fun e w' h=>⟨h.1,by obtain⟨k,os,h2⟩:=h.2;rw[h2];exact Zdx w k os⟩
theorem leafOk199:Z44 Tryz.prog E.inv 199 Zbd:=Zfz (Z22 Tryz.func199 (c:=bodyOf Tryz.f199) rfl (by kernel_rfl)) fun s hm v hv w _=>Calls.mono (Any.strconv_Atoi_ok Tryz.laysC172 s hm v hv w) fun e w' h=>⟨h.1,by rcases h.2 with h2|⟨t,h2⟩<;>rw[h2]<;>first|exact Below.refl _ _|exact ZbZ w _ t⟩
theorem leafOk95:Z44 Tryz.prog E.inv 95 ZeN:=Zgw (Z22 Tryz.func95 (c:=bodyOf Tryz.f95) rfl (by kernel_rfl)) fun s q hs w hi=>(let⟨m,hm⟩:=hi.1;Calls.mono (Any.strings_Cut { Tryz.laysM145 with } s q m w hs hm) fun e w' h=>⟨h.1,by obtain⟨k,h2⟩:=h.2;rw[h2];exact Zc0 w k⟩)
theorem leafOk146:Z44 Tryz.prog E.inv 146 Z8l:=ZdN (Z22 Tryz.func146 (c:=bodyOf Tryz.f146) rfl (by kernel_rfl)) fun s q hs h1 w hi=>(let⟨m,hm⟩:=hi.1;Any.strings_Split { Tryz.laysM146 with } Tryz.laysM146.i9 s q m w hs hm h1)
theorem leafAll:Zdp (fun g L=>Z44 Tryz.prog E.inv g L) leafT 1 0:=⟨⟨⟨⟨⟨⟨trivial,trivial,⟨trivial,leafOk95,trivial⟩⟩,trivial,trivial⟩,trivial,⟨⟨⟨trivial,trivial,⟨trivial,leafOk199,trivial⟩⟩,trivial,trivial⟩,trivial,trivial⟩⟩,trivial,trivial⟩,trivial,trivial⟩,trivial,⟨trivial,trivial,⟨⟨⟨trivial,trivial,⟨⟨⟨trivial,leafOk146,trivial⟩,trivial,trivial⟩,trivial,trivial⟩⟩,trivial,trivial⟩,trivial,⟨trivial,trivial,⟨⟨⟨⟨trivial,leafOk142,trivial⟩,trivial,trivial⟩,trivial,trivial⟩,trivial,trivial⟩⟩⟩⟩⟩
theorem ccAll:Zdp (fun g t=>Zi7 Tryz.prog g t) ccT 1 0:=⟨⟨trivial,trivial,⟨⟨⟨trivial,trivial,⟨trivial,trivial,⟨⟨trivial,ccOk177,trivial⟩,trivial,trivial⟩⟩⟩,trivial,trivial⟩,trivial,trivial⟩⟩,trivial,trivial⟩
end Go.Proofs.YtaaalkppbbpacaaGreatDoor
namespace Go.Proofs.YtaaalkppbbpacaaGreatDoor
open Go.Ab Go.Proofs
theorem tyAll:Zdt (fun t i=>Zh5 Tryz.prog t i) tyT=true:=by kernel_rfl
theorem tabTy:∀t ti,E.ty t=some ti->ZW Tryz.prog t ti:=fun _ _ h=>ZhW (Z6g tyAll h)
theorem mixed:Tryz.prog.follows .mixedOrders=true:=by kernel_rfl
theorem fnOk_of {f : Nat} {fn : Func} {m : Nat} {hs : List Z3G} {pu : Bool} {xm : List (Nat × Nat)} {rm : Nat} {ca : Bool} (hf : Tryz.prog.funcs[f]? = some fn) (hb : fn.body = some (bodyOf fn)) (hn : (fn.name == "runtime.NumGoroutine") = false := by kernel_rfl) : Zs Tryz.prog f ⟨bodyOf fn, fn.ntmps, fn.results.toList, m, hs, pu, xm, rm, ca⟩ := ⟨⟨fn, hf, hb, rfl, rfl⟩, Go.Ab.Z22 hf hb hn⟩
theorem fnOk4:Zs Tryz.prog 4 g4:=fnOk_of Tryz.func4 rfl
theorem fnOk6:Zs Tryz.prog 6 g6:=fnOk_of Tryz.func6 rfl
theorem fnOk9:Zs Tryz.prog 9 g9:=fnOk_of Tryz.func9 rfl
theorem fnOk11:Zs Tryz.prog 11 g11:=fnOk_of Tryz.func11 rfl
theorem fnOk12:Zs Tryz.prog 12 g12:=fnOk_of Tryz.func12 rfl
theorem fnOk13:Zs Tryz.prog 13 g13:=fnOk_of Tryz.func13 rfl
theorem fnOk14:Zs Tryz.prog 14 g14:=fnOk_of Tryz.func14 rfl
theorem fnOk15:Zs Tryz.prog 15 g15:=fnOk_of Tryz.func15 rfl
theorem fnOk16:Zs Tryz.prog 16 g16:=fnOk_of Tryz.func16 rfl
theorem fnOk17:Zs Tryz.prog 17 g17:=fnOk_of Tryz.func17 rfl
theorem fnOk18:Zs Tryz.prog 18 g18:=fnOk_of Tryz.func18 rfl
theorem fnOk19:Zs Tryz.prog 19 g19:=fnOk_of Tryz.func19 rfl
theorem fnOk20:Zs Tryz.prog 20 g20:=fnOk_of Tryz.func20 rfl
theorem fnOk21:Zs Tryz.prog 21 g21:=fnOk_of Tryz.func21 rfl
theorem fnOk22:Zs Tryz.prog 22 g22:=fnOk_of Tryz.func22 rfl
theorem fnOk25:Zs Tryz.prog 25 g25:=fnOk_of Tryz.func25 rfl
theorem fnOk26:Zs Tryz.prog 26 g26:=fnOk_of Tryz.func26 rfl
theorem fnOk27:Zs Tryz.prog 27 g27:=fnOk_of Tryz.func27 rfl
theorem fnOk28:Zs Tryz.prog 28 g28:=fnOk_of Tryz.func28 rfl
theorem fnOk29:Zs Tryz.prog 29 g29:=fnOk_of Tryz.func29 rfl
theorem fnOk30:Zs Tryz.prog 30 g30:=fnOk_of Tryz.func30 rfl
theorem fnOk31:Zs Tryz.prog 31 g31:=fnOk_of Tryz.func31 rfl
theorem fnOk32:Zs Tryz.prog 32 g32:=fnOk_of Tryz.func32 rfl
theorem fnOk33:Zs Tryz.prog 33 g33:=fnOk_of Tryz.func33 rfl
theorem fnOk34:Zs Tryz.prog 34 g34:=fnOk_of Tryz.func34 rfl
theorem fnOk35:Zs Tryz.prog 35 g35:=fnOk_of Tryz.func35 rfl
theorem fnOk36:Zs Tryz.prog 36 g36:=fnOk_of Tryz.func36 rfl
theorem fnOk48:Zs Tryz.prog 48 g48:=fnOk_of Tryz.func48 rfl
theorem fnOk53:Zs Tryz.prog 53 g53:=fnOk_of Tryz.func53 rfl
theorem fnOk54:Zs Tryz.prog 54 g54:=fnOk_of Tryz.func54 rfl
theorem fnOk55:Zs Tryz.prog 55 g55:=fnOk_of Tryz.func55 rfl
theorem fnOk56:Zs Tryz.prog 56 g56:=fnOk_of Tryz.func56 rfl
theorem fnOk57:Zs Tryz.prog 57 g57:=fnOk_of Tryz.func57 rfl
theorem fnOk58:Zs Tryz.prog 58 g58:=fnOk_of Tryz.func58 rfl
theorem fnOk59:Zs Tryz.prog 59 g59:=fnOk_of Tryz.func59 rfl
theorem fnOk60:Zs Tryz.prog 60 g60:=fnOk_of Tryz.func60 rfl
theorem fnOk61:Zs Tryz.prog 61 g61:=fnOk_of Tryz.func61 rfl
theorem fnOk62:Zs Tryz.prog 62 g62:=fnOk_of Tryz.func62 rfl
theorem fnOk63:Zs Tryz.prog 63 g63:=fnOk_of Tryz.func63 rfl
theorem fnOk64:Zs Tryz.prog 64 g64:=fnOk_of Tryz.func64 rfl
theorem fnOk65:Zs Tryz.prog 65 g65:=fnOk_of Tryz.func65 rfl
theorem fnOk66:Zs Tryz.prog 66 g66:=fnOk_of Tryz.func66 rfl
theorem fnOk67:Zs Tryz.prog 67 g67:=fnOk_of Tryz.func67 rfl
theorem fnOk68:Zs Tryz.prog 68 g68:=fnOk_of Tryz.func68 rfl
theorem fnOk69:Zs Tryz.prog 69 g69:=fnOk_of Tryz.func69 rfl
theorem fnOk70:Zs Tryz.prog 70 g70:=fnOk_of Tryz.func70 rfl
theorem fnOk71:Zs Tryz.prog 71 g71:=fnOk_of Tryz.func71 rfl
theorem fnOk72:Zs Tryz.prog 72 g72:=fnOk_of Tryz.func72 rfl
theorem fnOk73:Zs Tryz.prog 73 g73:=fnOk_of Tryz.func73 rfl
theorem fnOk74:Zs Tryz.prog 74 g74:=fnOk_of Tryz.func74 rfl
theorem fnOk75:Zs Tryz.prog 75 g75:=fnOk_of Tryz.func75 rfl
theorem fnOk76:Zs Tryz.prog 76 g76:=fnOk_of Tryz.func76 rfl
theorem fnOk77:Zs Tryz.prog 77 g77:=fnOk_of Tryz.func77 rfl
theorem fnOk78:Zs Tryz.prog 78 g78:=fnOk_of Tryz.func78 rfl
theorem fnOk79:Zs Tryz.prog 79 g79:=fnOk_of Tryz.func79 rfl
theorem fnOk80:Zs Tryz.prog 80 g80:=fnOk_of Tryz.func80 rfl
theorem fnOk81:Zs Tryz.prog 81 g81:=fnOk_of Tryz.func81 rfl
theorem fnOk82:Zs Tryz.prog 82 g82:=fnOk_of Tryz.func82 rfl
theorem fnOk83:Zs Tryz.prog 83 g83:=fnOk_of Tryz.func83 rfl
theorem fnOk84:Zs Tryz.prog 84 g84:=fnOk_of Tryz.func84 rfl
theorem fnOk85:Zs Tryz.prog 85 g85:=fnOk_of Tryz.func85 rfl
theorem fnOk86:Zs Tryz.prog 86 g86:=fnOk_of Tryz.func86 rfl
theorem fnOk87:Zs Tryz.prog 87 g87:=fnOk_of Tryz.func87 rfl
theorem fnOk90:Zs Tryz.prog 90 g90:=fnOk_of Tryz.func90 rfl
theorem fnOk91:Zs Tryz.prog 91 g91:=fnOk_of Tryz.func91 rfl
theorem fnOk92:Zs Tryz.prog 92 g92:=fnOk_of Tryz.func92 rfl
theorem fnOk93:Zs Tryz.prog 93 g93:=fnOk_of Tryz.func93 rfl
theorem fnOk96:Zs Tryz.prog 96 g96:=fnOk_of Tryz.func96 rfl
theorem fnOk97:Zs Tryz.prog 97 g97:=fnOk_of Tryz.func97 rfl
theorem fnOk108:Zs Tryz.prog 108 g108:=fnOk_of Tryz.func108 rfl
theorem fnOk109:Zs Tryz.prog 109 g109:=fnOk_of Tryz.func109 rfl
theorem fnOk110:Zs Tryz.prog 110 g110:=fnOk_of Tryz.func110 rfl
theorem fnOk111:Zs Tryz.prog 111 g111:=fnOk_of Tryz.func111 rfl
theorem fnOk112:Zs Tryz.prog 112 g112:=fnOk_of Tryz.func112 rfl
theorem fnOk113:Zs Tryz.prog 113 g113:=fnOk_of Tryz.func113 rfl
theorem fnOk114:Zs Tryz.prog 114 g114:=fnOk_of Tryz.func114 rfl
theorem fnOk115:Zs Tryz.prog 115 g115:=fnOk_of Tryz.func115 rfl
theorem fnOk116:Zs Tryz.prog 116 g116:=fnOk_of Tryz.func116 rfl
theorem fnOk117:Zs Tryz.prog 117 g117:=fnOk_of Tryz.func117 rfl
theorem fnOk118:Zs Tryz.prog 118 g118:=fnOk_of Tryz.func118 rfl
theorem fnOk119:Zs Tryz.prog 119 g119:=fnOk_of Tryz.func119 rfl
theorem fnOk120:Zs Tryz.prog 120 g120:=fnOk_of Tryz.func120 rfl
theorem fnOk121:Zs Tryz.prog 121 g121:=fnOk_of Tryz.func121 rfl
theorem fnOk122:Zs Tryz.prog 122 g122:=fnOk_of Tryz.func122 rfl
theorem fnOk123:Zs Tryz.prog 123 g123:=fnOk_of Tryz.func123 rfl
theorem fnOk124:Zs Tryz.prog 124 g124:=fnOk_of Tryz.func124 rfl
theorem fnOk125:Zs Tryz.prog 125 g125:=fnOk_of Tryz.func125 rfl
theorem fnOk126:Zs Tryz.prog 126 g126:=fnOk_of Tryz.func126 rfl
theorem fnOk127:Zs Tryz.prog 127 g127:=fnOk_of Tryz.func127 rfl
theorem fnOk128:Zs Tryz.prog 128 g128:=fnOk_of Tryz.func128 rfl
theorem fnOk129:Zs Tryz.prog 129 g129:=fnOk_of Tryz.func129 rfl
theorem fnOk130:Zs Tryz.prog 130 g130:=fnOk_of Tryz.func130 rfl
theorem fnOk131:Zs Tryz.prog 131 g131:=fnOk_of Tryz.func131 rfl
theorem fnOk132:Zs Tryz.prog 132 g132:=fnOk_of Tryz.func132 rfl
theorem fnOk133:Zs Tryz.prog 133 g133:=fnOk_of Tryz.func133 rfl
theorem fnOk134:Zs Tryz.prog 134 g134:=fnOk_of Tryz.func134 rfl
theorem fnOk135:Zs Tryz.prog 135 g135:=fnOk_of Tryz.func135 rfl
theorem fnOk136:Zs Tryz.prog 136 g136:=fnOk_of Tryz.func136 rfl
theorem fnOk137:Zs Tryz.prog 137 g137:=fnOk_of Tryz.func137 rfl
theorem fnOk138:Zs Tryz.prog 138 g138:=fnOk_of Tryz.func138 rfl
theorem fnOk139:Zs Tryz.prog 139 g139:=fnOk_of Tryz.func139 rfl
theorem fnOk140:Zs Tryz.prog 140 g140:=fnOk_of Tryz.func140 rfl
theorem fnOk141:Zs Tryz.prog 141 g141:=fnOk_of Tryz.func141 rfl
theorem fnOk143:Zs Tryz.prog 143 g143:=fnOk_of Tryz.func143 rfl
theorem fnOk144:Zs Tryz.prog 144 g144:=fnOk_of Tryz.func144 rfl
theorem fnOk147:Zs Tryz.prog 147 g147:=fnOk_of Tryz.func147 rfl
theorem fnOk148:Zs Tryz.prog 148 g148:=fnOk_of Tryz.func148 rfl
theorem fnOk158:Zs Tryz.prog 158 g158:=fnOk_of Tryz.func158 rfl
theorem fnOk159:Zs Tryz.prog 159 g159:=fnOk_of Tryz.func159 rfl
theorem fnOk160:Zs Tryz.prog 160 g160:=fnOk_of Tryz.func160 rfl
theorem fnOk161:Zs Tryz.prog 161 g161:=fnOk_of Tryz.func161 rfl
theorem fnOk162:Zs Tryz.prog 162 g162:=fnOk_of Tryz.func162 rfl
theorem fnOk163:Zs Tryz.prog 163 g163:=fnOk_of Tryz.func163 rfl
theorem fnOk164:Zs Tryz.prog 164 g164:=fnOk_of Tryz.func164 rfl
theorem fnOk165:Zs Tryz.prog 165 g165:=fnOk_of Tryz.func165 rfl
theorem fnOk166:Zs Tryz.prog 166 g166:=fnOk_of Tryz.func166 rfl
theorem fnOk167:Zs Tryz.prog 167 g167:=fnOk_of Tryz.func167 rfl
theorem fnOk168:Zs Tryz.prog 168 g168:=fnOk_of Tryz.func168 rfl
theorem fnOk169:Zs Tryz.prog 169 g169:=fnOk_of Tryz.func169 rfl
theorem fnOk170:Zs Tryz.prog 170 g170:=fnOk_of Tryz.func170 rfl
theorem fnOk171:Zs Tryz.prog 171 g171:=fnOk_of Tryz.func171 rfl
theorem fnOk172:Zs Tryz.prog 172 g172:=fnOk_of Tryz.func172 rfl
theorem fnOk173:Zs Tryz.prog 173 g173:=fnOk_of Tryz.func173 rfl
theorem fnOk174:Zs Tryz.prog 174 g174:=fnOk_of Tryz.func174 rfl
theorem fnOk175:Zs Tryz.prog 175 g175:=fnOk_of Tryz.func175 rfl
theorem fnOk176:Zs Tryz.prog 176 g176:=fnOk_of Tryz.func176 rfl
theorem fnOk181:Zs Tryz.prog 181 g181:=fnOk_of Tryz.func181 rfl
theorem fnOk183:Zs Tryz.prog 183 g183:=fnOk_of Tryz.func183 rfl
theorem fnOk184:Zs Tryz.prog 184 g184:=fnOk_of Tryz.func184 rfl
theorem fnOk185:Zs Tryz.prog 185 g185:=fnOk_of Tryz.func185 rfl
theorem fnOk186:Zs Tryz.prog 186 g186:=fnOk_of Tryz.func186 rfl
theorem fnOk187:Zs Tryz.prog 187 g187:=fnOk_of Tryz.func187 rfl
theorem fnOk188:Zs Tryz.prog 188 g188:=fnOk_of Tryz.func188 rfl
theorem fnOk189:Zs Tryz.prog 189 g189:=fnOk_of Tryz.func189 rfl
theorem fnOk200:Zs Tryz.prog 200 g200:=fnOk_of Tryz.func200 rfl
theorem fnOk201:Zs Tryz.prog 201 g201:=fnOk_of Tryz.func201 rfl
theorem fnOk213:Zs Tryz.prog 213 g213:=fnOk_of Tryz.func213 rfl
theorem fnOk247:Zs Tryz.prog 247 g247:=fnOk_of Tryz.func247 rfl
theorem fnOk249:Zs Tryz.prog 249 g249:=fnOk_of Tryz.func249 rfl
theorem fnOk250:Zs Tryz.prog 250 g250:=fnOk_of Tryz.func250 rfl
theorem fnOk251:Zs Tryz.prog 251 g251:=fnOk_of Tryz.func251 rfl
theorem fnAll:Zdp (fun f F=>Zs Tryz.prog f F) fnT 1 0:=⟨⟨⟨⟨⟨⟨⟨⟨trivial,fnOk127,trivial⟩,fnOk63,trivial⟩,fnOk31,⟨⟨trivial,fnOk159,trivial⟩,trivial,trivial⟩⟩,fnOk15,⟨⟨⟨trivial,fnOk143,trivial⟩,fnOk79,trivial⟩,trivial,⟨⟨trivial,fnOk175,trivial⟩,fnOk111,trivial⟩⟩⟩,trivial,⟨⟨⟨⟨trivial,fnOk135,trivial⟩,fnOk71,trivial⟩,trivial,⟨⟨trivial,fnOk167,trivial⟩,trivial,trivial⟩⟩,trivial,⟨⟨trivial,fnOk87,trivial⟩,fnOk55,⟨⟨trivial,fnOk183,trivial⟩,fnOk119,⟨trivial,fnOk247,trivial⟩⟩⟩⟩⟩,trivial,⟨⟨⟨⟨⟨trivial,fnOk131,trivial⟩,fnOk67,trivial⟩,fnOk35,⟨⟨trivial,fnOk163,trivial⟩,trivial,trivial⟩⟩,fnOk19,⟨⟨⟨trivial,fnOk147,trivial⟩,fnOk83,trivial⟩,trivial,⟨trivial,fnOk115,trivial⟩⟩⟩,fnOk11,⟨⟨⟨⟨trivial,fnOk139,trivial⟩,fnOk75,trivial⟩,trivial,⟨⟨trivial,fnOk171,trivial⟩,trivial,trivial⟩⟩,fnOk27,⟨⟨trivial,fnOk91,trivial⟩,fnOk59,⟨⟨trivial,fnOk187,trivial⟩,fnOk123,⟨trivial,fnOk251,trivial⟩⟩⟩⟩⟩⟩,trivial,⟨⟨⟨⟨⟨⟨trivial,fnOk129,trivial⟩,fnOk65,trivial⟩,fnOk33,⟨⟨trivial,fnOk161,trivial⟩,fnOk97,trivial⟩⟩,fnOk17,⟨⟨trivial,fnOk81,trivial⟩,trivial,⟨trivial,fnOk113,trivial⟩⟩⟩,fnOk9,⟨⟨⟨⟨trivial,fnOk137,trivial⟩,fnOk73,⟨trivial,fnOk201,trivial⟩⟩,trivial,⟨⟨trivial,fnOk169,trivial⟩,trivial,trivial⟩⟩,fnOk25,⟨trivial,fnOk57,⟨⟨trivial,fnOk185,trivial⟩,fnOk121,⟨trivial,fnOk249,trivial⟩⟩⟩⟩⟩,trivial,⟨⟨⟨⟨⟨trivial,fnOk133,trivial⟩,fnOk69,trivial⟩,trivial,⟨⟨trivial,fnOk165,trivial⟩,trivial,trivial⟩⟩,fnOk21,⟨⟨trivial,fnOk85,⟨trivial,fnOk213,trivial⟩⟩,fnOk53,⟨⟨trivial,fnOk181,trivial⟩,fnOk117,trivial⟩⟩⟩,fnOk13,⟨⟨⟨⟨trivial,fnOk141,trivial⟩,fnOk77,trivial⟩,trivial,⟨⟨trivial,fnOk173,trivial⟩,fnOk109,trivial⟩⟩,fnOk29,⟨⟨trivial,fnOk93,trivial⟩,fnOk61,⟨⟨trivial,fnOk189,trivial⟩,fnOk125,trivial⟩⟩⟩⟩⟩⟩,trivial,⟨⟨⟨⟨⟨⟨⟨trivial,fnOk128,trivial⟩,fnOk64,trivial⟩,fnOk32,⟨⟨trivial,fnOk160,trivial⟩,fnOk96,trivial⟩⟩,fnOk16,⟨⟨⟨trivial,fnOk144,trivial⟩,fnOk80,trivial⟩,fnOk48,⟨⟨trivial,fnOk176,trivial⟩,fnOk112,trivial⟩⟩⟩,trivial,⟨⟨⟨⟨trivial,fnOk136,trivial⟩,fnOk72,⟨trivial,fnOk200,trivial⟩⟩,trivial,⟨⟨trivial,fnOk168,trivial⟩,trivial,trivial⟩⟩,trivial,⟨trivial,fnOk56,⟨⟨trivial,fnOk184,trivial⟩,fnOk120,trivial⟩⟩⟩⟩,fnOk4,⟨⟨⟨⟨⟨trivial,fnOk132,trivial⟩,fnOk68,trivial⟩,fnOk36,⟨⟨trivial,fnOk164,trivial⟩,trivial,trivial⟩⟩,fnOk20,⟨⟨⟨trivial,fnOk148,trivial⟩,fnOk84,trivial⟩,trivial,⟨trivial,fnOk116,trivial⟩⟩⟩,fnOk12,⟨⟨⟨⟨trivial,fnOk140,trivial⟩,fnOk76,trivial⟩,trivial,⟨⟨trivial,fnOk172,trivial⟩,fnOk108,trivial⟩⟩,fnOk28,⟨⟨trivial,fnOk92,trivial⟩,fnOk60,⟨⟨trivial,fnOk188,trivial⟩,fnOk124,trivial⟩⟩⟩⟩⟩,trivial,⟨⟨⟨⟨⟨⟨trivial,fnOk130,trivial⟩,fnOk66,trivial⟩,fnOk34,⟨⟨trivial,fnOk162,trivial⟩,trivial,trivial⟩⟩,fnOk18,⟨⟨trivial,fnOk82,trivial⟩,trivial,⟨trivial,fnOk114,trivial⟩⟩⟩,trivial,⟨⟨⟨⟨trivial,fnOk138,trivial⟩,fnOk74,trivial⟩,trivial,⟨⟨trivial,fnOk170,trivial⟩,trivial,trivial⟩⟩,fnOk26,⟨⟨trivial,fnOk90,trivial⟩,fnOk58,⟨⟨trivial,fnOk186,trivial⟩,fnOk122,⟨trivial,fnOk250,trivial⟩⟩⟩⟩⟩,fnOk6,⟨⟨⟨⟨⟨trivial,fnOk134,trivial⟩,fnOk70,trivial⟩,trivial,⟨⟨trivial,fnOk166,trivial⟩,trivial,trivial⟩⟩,fnOk22,⟨⟨trivial,fnOk86,trivial⟩,fnOk54,⟨trivial,fnOk118,trivial⟩⟩⟩,fnOk14,⟨⟨⟨trivial,fnOk78,trivial⟩,trivial,⟨⟨trivial,fnOk174,trivial⟩,fnOk110,trivial⟩⟩,fnOk30,⟨⟨⟨trivial,fnOk158,trivial⟩,trivial,trivial⟩,fnOk62,⟨trivial,fnOk126,trivial⟩⟩⟩⟩⟩⟩⟩
theorem tabFn:Z7H Tryz.prog E where
 fn:=fun _ _ h=>Z71 fnAll h
 leaf:=fun _ _ xs d h=>Z71 leafAll h xs d
 dfr:=fun g h=>by
  unfold E at h;simp only[Bool.or_eq_true]at h;exact Nat.eq_of_beq_eq_true h▸dfr94
 cc:=fun _ _ h=>Z71 ccAll h
end Go.Proofs.YtaaalkppbbpacaaGreatDoor
