/- Calls that the examples make, run. -/
import Derived.Test.YtehofdemanfenaaGreatK3
set_option linter.unusedSectionVars false
set_option linter.unusedVariables false
set_option linter.unusedSimpArgs false
set_option maxRecDepth 100000
namespace Nore
open Go Go.Ab Go.Proofs Go.Proofs.YtehofdemanfenaaGreat
theorem Zi6:Yc X.E (18,[(.agg [(.sl [[(.str ⟨#[99,104,117,114,99,104]⟩),(.int .i64 (1000)),(.int .i64 (0)),(.sl [[(.int .i64 (0)),(.int .i64 (1))]])],[(.str ⟨#[109,105,108,108]⟩),(.int .i64 (0)),(.int .i64 (1000)),(.sl [[(.int .i64 (0)),(.int .i64 (1))]])]]),(.sl []),(.int .i64 (5)),(.sl [[(.str ⟨#[99,97,114,100]⟩),(.bool false),(.int .i64 (0)),(.int .i64 (1))],[(.str ⟨#[108,105,110,101]⟩),(.bool true),(.int .i64 (-2)),(.int .i64 (2))]]),(.sl [[(.int .i64 (-500)),(.int .i64 (0)),(.int .i64 (-500)),(.int .i64 (500)),(.int .i64 (100)),(.int .i64 (110)),(.int .i64 (1))],[(.int .i64 (-500)),(.int .i64 (500)),(.int .i64 (-500)),(.int .i64 (500)),(.int .i64 (80)),(.int .i64 (95)),(.int .i64 (2))]]),(.int .i64 (500)),(.int .i64 (1))]),(.sl [[(.int .i64 (0)),(.int .i64 (0)),(.int .i64 (8)),(.int .i64 (0))]])],(.tup [(.int .i64 (1)),(.int .i64 (0)),(.int .i64 (1)),(.int .i64 (0))])):=⟨60,by kernel_rfl⟩
theorem Zi7:Yc X.E (23,[(.agg [(.sl [[(.str ⟨#[99,104,117,114,99,104]⟩),(.int .i64 (1000)),(.int .i64 (0)),(.sl [[(.int .i64 (0)),(.int .i64 (1))]])],[(.str ⟨#[109,105,108,108]⟩),(.int .i64 (0)),(.int .i64 (1000)),(.sl [[(.int .i64 (0)),(.int .i64 (1))]])]]),(.sl []),(.int .i64 (5)),(.sl [[(.str ⟨#[99,97,114,100]⟩),(.bool false),(.int .i64 (0)),(.int .i64 (1))],[(.str ⟨#[108,105,110,101]⟩),(.bool true),(.int .i64 (-2)),(.int .i64 (2))]]),(.sl [[(.int .i64 (-500)),(.int .i64 (0)),(.int .i64 (-500)),(.int .i64 (500)),(.int .i64 (100)),(.int .i64 (110)),(.int .i64 (1))],[(.int .i64 (-500)),(.int .i64 (500)),(.int .i64 (-500)),(.int .i64 (500)),(.int .i64 (80)),(.int .i64 (95)),(.int .i64 (2))]]),(.int .i64 (500)),(.int .i64 (1))]),(.sl [[(.int .i64 (0)),(.int .i64 (0)),(.int .i64 (8)),(.int .i64 (0))]]),(.agg [(.int .i64 (-500)),(.int .i64 (500))])],(.tup [(.sl []),(.int .i64 (9))])):=⟨60,by kernel_rfl⟩
end Nore
