/- Calls that the examples make, run. -/
import Derived.Test.YtaaalkppbbpacaaGreatDoorK1
set_option linter.unusedSectionVars false
set_option linter.unusedVariables false
set_option linter.unusedSimpArgs false
set_option maxRecDepth 100000
namespace Nore
open Go Go.Ab Go.Proofs Go.Proofs.YtaaalkppbbpacaaGreatDoor
def ZgA:List (Nat×List DV×DV):=[(53,[zz0,(.agg [(.int .i64 (150)),(.int .i64 (50))])],(.int .i64 (0)))]
theorem ZiM:∀e∈ZgA,Zy X.E e:=fun e he=>by
 simp only[ZgA,List.mem_cons,List.not_mem_nil,or_false]at he;rcases he with rfl
 ·exact kn3
theorem kn4:Zy X.E (17,[zz0,(.agg [(.int .i64 (150)),(.int .i64 (50))])],(.tup [(.sl [[(.int .i64 (0))]]),(.sl [[(.int .i64 (0))]]),(.int .i64 (0))])):=ZG (n:=60) ZiM (by kernel_rfl)
end Nore
