/- Calls that the examples make, run. -/
import Derived.Test.YtaaalkppbbpacaaGreatDoorK11
set_option linter.unusedSectionVars false
set_option linter.unusedVariables false
set_option linter.unusedSimpArgs false
set_option maxRecDepth 100000
namespace Nore
open Go Go.Ab Go.Proofs Go.Proofs.YtaaalkppbbpacaaGreatDoor
def Zew:List (Nat×List DV×DV):=[(92,[zz0],(.tup [(.int .i64 (0)),(.int .i64 (0)),(.int .i64 (0))]))]
theorem ZhM:∀e∈Zew,Zy X.E e:=fun e he=>by
 simp only[Zew,List.mem_cons,List.not_mem_nil,or_false]at he;rcases he with rfl
 ·exact kn2
theorem ZjI:Zy X.E (91,[zz0,(.int .i64 (50)),(.int .i64 (0))],(.tup [zz6,(.int .i64 (2)),(.int .i64 (0))])):=ZG (n:=60) ZhM (by kernel_rfl)
end Nore
