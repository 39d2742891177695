/- Calls that the examples make, run. -/
import Derived.Test.YtaaalkppbbpacaaGreatDoorY
import Derived.Test.YtaaalkppbbpacaaGreatDoorT2
import Derived.KernelRfl
import Derived.Test.YtaaalkppbbpacaaGreatDoorI
set_option linter.unusedSectionVars false
set_option linter.unusedVariables false
set_option linter.unusedSimpArgs false
set_option maxRecDepth 100000
namespace Nore
open Go Go.Ab Go.Proofs Go.Proofs.YtaaalkppbbpacaaGreatDoor
theorem kn0:Zy X.E (25,[(.int .i64 (31))],(.tup [(.agg [(.int .i64 (-195)),(.int .i64 (981))]),(.int .i64 (0))])):=⟨60,by kernel_rfl⟩
theorem kn1:Zy X.E (26,[],zz0):=⟨60,by kernel_rfl⟩
theorem kn2:Zy X.E (92,[zz0],(.tup [(.int .i64 (0)),(.int .i64 (0)),(.int .i64 (0))])):=⟨60,by kernel_rfl⟩
end Nore
