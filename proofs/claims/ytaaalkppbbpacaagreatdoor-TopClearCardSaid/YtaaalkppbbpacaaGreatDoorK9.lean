/- Calls that the examples make, run. -/
import Derived.Test.YtaaalkppbbpacaaGreatDoorK8
set_option linter.unusedSectionVars false
set_option linter.unusedVariables false
set_option linter.unusedSimpArgs false
set_option maxRecDepth 100000
namespace Nore
open Go Go.Ab Go.Proofs Go.Proofs.YtaaalkppbbpacaaGreatDoor
def Zeu:List (Nat×List DV×DV):=[(53,[zz0,(.agg [(.int .i64 (0)),(.int .i64 (0))])],(.int .i64 (0))),
 (55,[zz0,(.agg [(.int .i64 (0)),(.int .i64 (0))]),(.int .i64 (100))],(.tup [(.int .i64 (0)),(.agg [(.int .i64 (0)),(.int .i64 (0))]),(.bool false)]))]
theorem ZhK:∀e∈Zeu,Zy X.E e:=fun e he=>by
 simp only[Zeu,List.mem_cons,List.not_mem_nil,or_false]at he;rcases he with rfl|rfl
 ·exact kn7
 ·exact Zjg
theorem Zjv:Zy X.E (9,[zz0,(.agg [(.int .i64 (0)),(.int .i64 (0))]),(.int .i64 (100))],(.tup [(.int .i64 (0)),(.agg [(.int .i64 (0)),(.int .i64 (0))]),(.int .i64 (4))])):=ZG (n:=60) ZhK (by kernel_rfl)
end Nore
