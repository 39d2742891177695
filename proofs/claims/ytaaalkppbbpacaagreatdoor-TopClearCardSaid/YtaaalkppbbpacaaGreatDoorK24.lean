/- Calls that the examples make, run. -/
import Derived.Test.YtaaalkppbbpacaaGreatDoorK23
set_option linter.unusedSectionVars false
set_option linter.unusedVariables false
set_option linter.unusedSimpArgs false
set_option maxRecDepth 100000
namespace Nore
open Go Go.Ab Go.Proofs Go.Proofs.YtaaalkppbbpacaaGreatDoor
def ZeG:List (Nat×List DV×DV):=[(91,[zz0,(.int .i64 (90)),(.int .i64 (1))],(.tup [zz7,(.int .i64 (0)),(.int .i64 (0))]))]
theorem ZhW:∀e∈ZeG,Zy X.E e:=fun e he=>by
 simp only[ZeG,List.mem_cons,List.not_mem_nil,or_false]at he;rcases he with rfl
 ·exact ZjU
theorem ZjV:Zy X.E (82,[zz0,(.int .i64 (90)),(.int .i64 (1))],(.tup [zz7,(.int .i64 (9))])):=ZG (n:=60) ZhW (by kernel_rfl)
end Nore
