/- Calls that the examples make, run. -/
import Derived.Test.YtaaalkppbbpacaaGreatDoorK28
set_option linter.unusedSectionVars false
set_option linter.unusedVariables false
set_option linter.unusedSimpArgs false
set_option maxRecDepth 100000
namespace Nore
open Go Go.Ab Go.Proofs Go.Proofs.YtaaalkppbbpacaaGreatDoor
def ZeK:List (Nat×List DV×DV):=[(53,[zz3,(.agg [(.int .i64 (100)),(.int .i64 (0))])],(.int .i64 (0)))]
theorem Zi0:∀e∈ZeK,Zy X.E e:=fun e he=>by
 simp only[ZeK,List.mem_cons,List.not_mem_nil,or_false]at he;rcases he with rfl
 ·exact Zk5
theorem Zk6:Zy X.E (17,[zz3,(.agg [(.int .i64 (100)),(.int .i64 (0))])],(.tup [(.sl []),(.sl [[(.int .i64 (0))]]),(.int .i64 (0))])):=ZG (n:=60) Zi0 (by kernel_rfl)
end Nore
