/- A call that the examples make, run. -/
import Derived.Test.YtehofdemanfenaaTab
import Derived.Test.YtehofdemanfenaaAb30
import Derived.KernelRfl
namespace Go.Proofs.Ytehofdemanfenaa
open Go.Ab Go.Proofs
theorem kn15 : evF E 60 24 [(.agg [(.sl [[(.str ⟨#[99, 104, 117, 114, 99, 104]⟩), (.int .i64 (1000)), (.int .i64 (0)), (.sl [[(.int .i64 (0)), (.int .i64 (1))]])], [(.str ⟨#[109, 105, 108, 108]⟩), (.int .i64 (0)), (.int .i64 (1000)), (.sl [[(.int .i64 (0)), (.int .i64 (1))]])]]), (.sl []), (.int .i64 (5)), (.sl [[(.str ⟨#[99, 97, 114, 100]⟩), (.bool false), (.int .i64 (0)), (.int .i64 (1))], [(.str ⟨#[108, 105, 110, 101]⟩), (.bool true), (.int .i64 (-2)), (.int .i64 (2))]]), (.sl [[(.int .i64 (-500)), (.int .i64 (0)), (.int .i64 (-500)), (.int .i64 (500)), (.int .i64 (100)), (.int .i64 (110)), (.int .i64 (1))], [(.int .i64 (-500)), (.int .i64 (500)), (.int .i64 (-500)), (.int .i64 (500)), (.int .i64 (80)), (.int .i64 (95)), (.int .i64 (2))]]), (.int .i64 (500)), (.int .i64 (1))]), (.sl [[(.int .i64 (0)), (.int .i64 (0)), (.int .i64 (8)), (.int .i64 (0))]])] = some (.tup [(.agg [(.int .i64 (-500)), (.int .i64 (500)), (.int .i64 (0)), (.int .i64 (0))]), (.int .i64 (0))]) := by kernel_rfl
end Go.Proofs.Ytehofdemanfenaa
