/- Calls that the examples make, run. -/
import Derived.Test.YtaaalkppbbpacaaGreatDoorK15
set_option linter.unusedSectionVars false
set_option linter.unusedVariables false
set_option linter.unusedSimpArgs false
set_option maxRecDepth 100000
namespace Nore
open Go Go.Ab Go.Proofs Go.Proofs.YtaaalkppbbpacaaGreatDoor
def ZeA:List (Nat×List DV×DV):=[(82,[zz0,(.int .i64 (20)),(.int .i64 (0))],(.tup [zz6,(.int .i64 (0))]))]
theorem ZhQ:∀e∈ZeA,Zy X.E e:=fun e he=>by
 simp only[ZeA,List.mem_cons,List.not_mem_nil,or_false]at he;rcases he with rfl
 ·exact ZjL
theorem ZjM:Zy X.E (20,[zz0,(.int .i64 (20)),(.int .i64 (0)),(.agg [(.int .i64 (0)),(.int .i64 (0))])],(.tup [(.int .i64 (3)),(.int .i64 (0))])):=ZG (n:=60) ZhQ (by kernel_rfl)
end Nore
