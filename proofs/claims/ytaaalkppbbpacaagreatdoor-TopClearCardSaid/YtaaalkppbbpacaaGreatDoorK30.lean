/- Calls that the examples make, run. -/
import Derived.Test.YtaaalkppbbpacaaGreatDoorK29
set_option linter.unusedSectionVars false
set_option linter.unusedVariables false
set_option linter.unusedSimpArgs false
set_option maxRecDepth 100000
namespace Nore
open Go Go.Ab Go.Proofs Go.Proofs.YtaaalkppbbpacaaGreatDoor
def ZeL:List (Nat×List DV×DV):=[(46,[zz1,(.sl []),zz9],(.tup [zza,(.int .i64 (0))])),
 (17,[zz3,(.agg [(.int .i64 (100)),(.int .i64 (0))])],(.tup [(.sl []),(.sl [[(.int .i64 (0))]]),(.int .i64 (0))]))]
theorem Zi1:∀e∈ZeL,Zy X.E e:=fun e he=>by
 simp only[ZeL,List.mem_cons,List.not_mem_nil,or_false]at he;rcases he with rfl|rfl
 ·exact Zjh
 ·exact Zk6
theorem Zk7:Zy X.E (10,[zz1,(.sl []),zz9],(.tup [(.agg [(.int .i64 (100)),(.int .i64 (0))]),(.int .i64 (0)),(.int .i64 (0))])):=ZG (n:=60) Zi1 (by kernel_rfl)
end Nore
