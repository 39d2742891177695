/- Calls that the examples make, run. -/
import Derived.Test.YtaaalkppbbpacaaGreatDoorK0
set_option linter.unusedSectionVars false
set_option linter.unusedVariables false
set_option linter.unusedSimpArgs false
set_option maxRecDepth 100000
namespace Nore
open Go Go.Ab Go.Proofs Go.Proofs.YtaaalkppbbpacaaGreatDoor
def Zgz:List (Nat×List DV×DV):=[(92,[zz0],(.tup [(.int .i64 (0)),(.int .i64 (0)),(.int .i64 (0))]))]
theorem ZiL:∀e∈Zgz,Zy X.E e:=fun e he=>by
 simp only[Zgz,List.mem_cons,List.not_mem_nil,or_false]at he;rcases he with rfl
 ·exact kn2
theorem kn3:Zy X.E (53,[zz0,(.agg [(.int .i64 (150)),(.int .i64 (50))])],(.int .i64 (0))):=ZG (n:=60) ZiL (by kernel_rfl)
end Nore
