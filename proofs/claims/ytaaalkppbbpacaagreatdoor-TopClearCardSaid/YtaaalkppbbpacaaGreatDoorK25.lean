/- Calls that the examples make, run. -/
import Derived.Test.YtaaalkppbbpacaaGreatDoorK24
set_option linter.unusedSectionVars false
set_option linter.unusedVariables false
set_option linter.unusedSimpArgs false
set_option maxRecDepth 100000
namespace Nore
open Go Go.Ab Go.Proofs Go.Proofs.YtaaalkppbbpacaaGreatDoor
def ZeH:List (Nat×List DV×DV):=[(82,[zz0,(.int .i64 (90)),(.int .i64 (1))],(.tup [zz7,(.int .i64 (9))]))]
theorem ZhX:∀e∈ZeH,Zy X.E e:=fun e he=>by
 simp only[ZeH,List.mem_cons,List.not_mem_nil,or_false]at he;rcases he with rfl
 ·exact ZjV
theorem ZjW:Zy X.E (20,[zz0,(.int .i64 (90)),(.int .i64 (1)),(.agg [(.int .i64 (0)),(.int .i64 (0))])],(.tup [(.int .i64 (0)),(.int .i64 (9))])):=ZG (n:=60) ZhX (by kernel_rfl)
end Nore
