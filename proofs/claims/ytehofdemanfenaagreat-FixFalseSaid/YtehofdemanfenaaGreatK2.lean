/- Calls that the examples make, run. -/
import Derived.Test.YtehofdemanfenaaGreatK1
set_option linter.unusedSectionVars false
set_option linter.unusedVariables false
set_option linter.unusedSimpArgs false
set_option maxRecDepth 100000
namespace Nore
open Go Go.Ab Go.Proofs Go.Proofs.YtehofdemanfenaaGreat
theorem Zi2:Yc X.E (110,[(.agg [(.sl [[(.str ⟨#[99,104,117,114,99,104]⟩),(.int .i64 (1000)),(.int .i64 (0)),(.sl [[(.int .i64 (0)),(.int .i64 (1))]])],[(.str ⟨#[109,105,108,108]⟩),(.int .i64 (0)),(.int .i64 (1000)),(.sl [[(.int .i64 (0)),(.int .i64 (1))]])]]),(.sl [])]),(.int .i64 (5)),(.int .i64 (1)),(.agg [(.int .i64 (0)),(.int .i64 (500))])],(.tup [(.int .i64 (0)),(.int .i64 (0))])):=⟨60,by kernel_rfl⟩
theorem Zi3:Yc X.E (110,[(.agg [(.sl [[(.str ⟨#[99,104,117,114,99,104]⟩),(.int .i64 (1000)),(.int .i64 (0)),(.sl [[(.int .i64 (0)),(.int .i64 (1))]])],[(.str ⟨#[109,105,108,108]⟩),(.int .i64 (0)),(.int .i64 (1000)),(.sl [[(.int .i64 (0)),(.int .i64 (1))]])]]),(.sl [])]),(.int .i64 (5)),(.int .i64 (1)),(.agg [(.int .i64 (500)),(.int .i64 (-500))])],(.tup [(.int .i64 (30)),(.int .i64 (0))])):=⟨60,by kernel_rfl⟩
theorem Zi4:Yc X.E (110,[(.agg [(.sl [[(.str ⟨#[99,104,117,114,99,104]⟩),(.int .i64 (1000)),(.int .i64 (0)),(.sl [[(.int .i64 (0)),(.int .i64 (1))]])],[(.str ⟨#[109,105,108,108]⟩),(.int .i64 (0)),(.int .i64 (1000)),(.sl [[(.int .i64 (0)),(.int .i64 (1))]])]]),(.sl [])]),(.int .i64 (5)),(.int .i64 (1)),(.agg [(.int .i64 (500)),(.int .i64 (500))])],(.tup [(.int .i64 (28)),(.int .i64 (0))])):=⟨60,by kernel_rfl⟩
end Nore
