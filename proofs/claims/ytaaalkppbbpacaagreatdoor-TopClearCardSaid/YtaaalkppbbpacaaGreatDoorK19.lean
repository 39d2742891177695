/- Calls that the examples make, run. -/
import Derived.Test.YtaaalkppbbpacaaGreatDoorK18
set_option linter.unusedSectionVars false
set_option linter.unusedVariables false
set_option linter.unusedSimpArgs false
set_option maxRecDepth 100000
namespace Nore
open Go Go.Ab Go.Proofs Go.Proofs.YtaaalkppbbpacaaGreatDoor
def ZeD:List (Nat×List DV×DV):=[(82,[zz0,(.int .i64 (20)),(.int .i64 (1))],(.tup [zz7,(.int .i64 (0))]))]
theorem ZhT:∀e∈ZeD,Zy X.E e:=fun e he=>by
 simp only[ZeD,List.mem_cons,List.not_mem_nil,or_false]at he;rcases he with rfl
 ·exact ZjO
theorem ZjP:Zy X.E (22,[zz0,(.int .i64 (20)),(.int .i64 (1)),(.agg [(.int .i64 (-2010)),(.int .i64 (-1990)),(.int .i64 (0)),(.int .i64 (0))])],(.tup [(.sl [[(.int .i64 (8))],[(.int .i64 (24))]]),(.int .i64 (0))])):=ZG (n:=60) ZhT (by kernel_rfl)
end Nore
