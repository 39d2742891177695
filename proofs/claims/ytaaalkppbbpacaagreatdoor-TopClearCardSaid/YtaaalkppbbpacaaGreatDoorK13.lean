/- Calls that the examples make, run. -/
import Derived.Test.YtaaalkppbbpacaaGreatDoorK12
set_option linter.unusedSectionVars false
set_option linter.unusedVariables false
set_option linter.unusedSimpArgs false
set_option maxRecDepth 100000
namespace Nore
open Go Go.Ab Go.Proofs Go.Proofs.YtaaalkppbbpacaaGreatDoor
def Zex:List (Nat×List DV×DV):=[(91,[zz0,(.int .i64 (50)),(.int .i64 (0))],(.tup [zz6,(.int .i64 (2)),(.int .i64 (0))]))]
theorem ZhN:∀e∈Zex,Zy X.E e:=fun e he=>by
 simp only[Zex,List.mem_cons,List.not_mem_nil,or_false]at he;rcases he with rfl
 ·exact ZjI
theorem ZjJ:Zy X.E (29,[zz0,(.int .i64 (50)),(.int .i64 (0))],(.tup [(.int .i64 (2)),(.int .i64 (0))])):=ZG (n:=60) ZhN (by kernel_rfl)
end Nore
