/- Calls that the examples make, run. -/
import Derived.Test.YtaaalkppbbpacaaGreatDoorK27
set_option linter.unusedSectionVars false
set_option linter.unusedVariables false
set_option linter.unusedSimpArgs false
set_option maxRecDepth 100000
namespace Nore
open Go Go.Ab Go.Proofs Go.Proofs.YtaaalkppbbpacaaGreatDoor
def ZeJ:List (Nat×List DV×DV):=[(92,[zz3],(.tup [(.int .i64 (0)),(.int .i64 (0)),(.int .i64 (0))]))]
theorem ZhZ:∀e∈ZeJ,Zy X.E e:=fun e he=>by
 simp only[ZeJ,List.mem_cons,List.not_mem_nil,or_false]at he;rcases he with rfl
 ·exact Zk4
theorem Zk5:Zy X.E (53,[zz3,(.agg [(.int .i64 (100)),(.int .i64 (0))])],(.int .i64 (0))):=ZG (n:=60) ZhZ (by kernel_rfl)
end Nore
