/- Calls that the examples make, run. -/
import Derived.Test.YtaaalkppbbpacaaGreatDoorK6
set_option linter.unusedSectionVars false
set_option linter.unusedVariables false
set_option linter.unusedSimpArgs false
set_option maxRecDepth 100000
namespace Nore
open Go Go.Ab Go.Proofs Go.Proofs.YtaaalkppbbpacaaGreatDoor
def ZgE:List (Nat×List DV×DV):=[(53,[zz0,(.agg [(.int .i64 (0)),(.int .i64 (0))])],(.int .i64 (0))),
 (55,[zz0,(.agg [(.int .i64 (0)),(.int .i64 (0))]),(.int .i64 (101))],(.tup [(.int .i64 (0)),(.agg [(.int .i64 (0)),(.int .i64 (-5))]),(.bool true)]))]
theorem ZiQ:∀e∈ZgE,Zy X.E e:=fun e he=>by
 simp only[ZgE,List.mem_cons,List.not_mem_nil,or_false]at he;rcases he with rfl|rfl
 ·exact kn7
 ·exact kn8
theorem kn9:Zy X.E (9,[zz0,(.agg [(.int .i64 (0)),(.int .i64 (0))]),(.int .i64 (101))],(.tup [(.int .i64 (0)),(.agg [(.int .i64 (0)),(.int .i64 (-5))]),(.int .i64 (0))])):=ZG (n:=60) ZiQ (by kernel_rfl)
end Nore
