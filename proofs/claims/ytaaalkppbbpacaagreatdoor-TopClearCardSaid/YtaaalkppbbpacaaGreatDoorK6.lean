/- Calls that the examples make, run. -/
import Derived.Test.YtaaalkppbbpacaaGreatDoorK5
set_option linter.unusedSectionVars false
set_option linter.unusedVariables false
set_option linter.unusedSimpArgs false
set_option maxRecDepth 100000
namespace Nore
open Go Go.Ab Go.Proofs Go.Proofs.YtaaalkppbbpacaaGreatDoor
theorem kn8:Zy X.E (55,[zz0,(.agg [(.int .i64 (0)),(.int .i64 (0))]),(.int .i64 (101))],(.tup [(.int .i64 (0)),(.agg [(.int .i64 (0)),(.int .i64 (-5))]),(.bool true)])):=⟨60,by kernel_rfl⟩
end Nore
