/- Calls that the examples make, run. -/
import Derived.Test.YtaaalkppbbpacaaGreatDoorK14
set_option linter.unusedSectionVars false
set_option linter.unusedVariables false
set_option linter.unusedSimpArgs false
set_option maxRecDepth 100000
namespace Nore
open Go Go.Ab Go.Proofs Go.Proofs.YtaaalkppbbpacaaGreatDoor
def Zez:List (Nat×List DV×DV):=[(91,[zz0,(.int .i64 (20)),(.int .i64 (0))],(.tup [zz6,(.int .i64 (1)),(.int .i64 (0))]))]
theorem ZhP:∀e∈Zez,Zy X.E e:=fun e he=>by
 simp only[Zez,List.mem_cons,List.not_mem_nil,or_false]at he;rcases he with rfl
 ·exact ZjK
theorem ZjL:Zy X.E (82,[zz0,(.int .i64 (20)),(.int .i64 (0))],(.tup [zz6,(.int .i64 (0))])):=ZG (n:=60) ZhP (by kernel_rfl)
end Nore
