/- Calls that the examples make, run. -/
import Derived.Test.YtaaalkppbbpacaaGreatDoorK22
set_option linter.unusedSectionVars false
set_option linter.unusedVariables false
set_option linter.unusedSimpArgs false
set_option maxRecDepth 100000
namespace Nore
open Go Go.Ab Go.Proofs Go.Proofs.YtaaalkppbbpacaaGreatDoor
def ZeF:List (Nat×List DV×DV):=[(92,[zz0],(.tup [(.int .i64 (0)),(.int .i64 (0)),(.int .i64 (0))]))]
theorem ZhV:∀e∈ZeF,Zy X.E e:=fun e he=>by
 simp only[ZeF,List.mem_cons,List.not_mem_nil,or_false]at he;rcases he with rfl
 ·exact kn2
theorem ZjU:Zy X.E (91,[zz0,(.int .i64 (90)),(.int .i64 (1))],(.tup [zz7,(.int .i64 (0)),(.int .i64 (0))])):=ZG (n:=60) ZhV (by kernel_rfl)
end Nore
