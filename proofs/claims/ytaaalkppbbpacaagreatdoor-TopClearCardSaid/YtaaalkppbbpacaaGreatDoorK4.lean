/- Calls that the examples make, run. -/
import Derived.Test.YtaaalkppbbpacaaGreatDoorK3
set_option linter.unusedSectionVars false
set_option linter.unusedVariables false
set_option linter.unusedSimpArgs false
set_option maxRecDepth 100000
namespace Nore
open Go Go.Ab Go.Proofs Go.Proofs.YtaaalkppbbpacaaGreatDoor
def ZgC:List (Nat×List DV×DV):=[(53,[zz0,(.agg [(.int .i64 (205)),(.int .i64 (50))])],(.int .i64 (0)))]
theorem ZiO:∀e∈ZgC,Zy X.E e:=fun e he=>by
 simp only[ZgC,List.mem_cons,List.not_mem_nil,or_false]at he;rcases he with rfl
 ·exact kn5
theorem kn6:Zy X.E (17,[zz0,(.agg [(.int .i64 (205)),(.int .i64 (50))])],(.tup [(.sl []),(.sl [[(.int .i64 (0))]]),(.int .i64 (0))])):=ZG (n:=60) ZiO (by kernel_rfl)
end Nore
