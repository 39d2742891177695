/- Calls that the examples make, run. -/
import Derived.Test.YtaaalkppbbpacaaGreatDoorK30
set_option linter.unusedSectionVars false
set_option linter.unusedVariables false
set_option linter.unusedSimpArgs false
set_option maxRecDepth 100000
namespace Nore
open Go Go.Ab Go.Proofs Go.Proofs.YtaaalkppbbpacaaGreatDoor
theorem Zk8:Zy X.E (47,[zz1,zz2],(.tup [(.sl [[(.int .i64 (1))]]),(.int .i64 (0))])):=⟨60,by kernel_rfl⟩
theorem Zk9:Zy X.E (44,[zz1,zz5],(.tup [(.int .i64 (0)),(.int .i64 (4))])):=⟨60,by kernel_rfl⟩
end Nore
