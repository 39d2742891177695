/- Calls that the examples make, run. -/
import Derived.Test.YtaaalkppbbpacaaGreatDoorK31
set_option linter.unusedSectionVars false
set_option linter.unusedVariables false
set_option linter.unusedSimpArgs false
set_option maxRecDepth 100000
namespace Nore
open Go Go.Ab Go.Proofs Go.Proofs.YtaaalkppbbpacaaGreatDoor
def ZeM:List (Nat×List DV×DV):=[(37,[],zz1),
 (42,[zz1,zz9,(.agg [(.int .i64 (3)),(.int .i64 (0))]),(.agg [(.int .i64 (100)),(.int .i64 (0))])],(.tup [(.bool true),(.int .i64 (0))])),
 (42,[zz1,zz9,(.agg [(.int .i64 (3)),(.int .i64 (0))]),(.agg [(.int .i64 (98)),(.int .i64 (0))])],(.tup [(.bool false),(.int .i64 (0))])),
 (8,[zz1,zz4],(.tup [zz8,(.int .i64 (0))])),
 (44,[zz1,zz2],(.tup [(.int .i64 (2)),(.int .i64 (0))])),
 (45,[zz1,zz2],(.tup [(.sl [[(.int .i64 (2))]]),(.int .i64 (0))])),
 (46,[zz1,(.sl []),zz9],(.tup [zza,(.int .i64 (0))])),
 (10,[zz1,(.sl []),zz9],(.tup [(.agg [(.int .i64 (100)),(.int .i64 (0))]),(.int .i64 (0)),(.int .i64 (0))])),
 (47,[zz1,zz2],(.tup [(.sl [[(.int .i64 (1))]]),(.int .i64 (0))])),
 (44,[zz1,zz5],(.tup [(.int .i64 (0)),(.int .i64 (4))]))]
theorem Zi2:∀e∈ZeM,Zy X.E e:=fun e he=>by
 simp only[ZeM,List.mem_cons,List.not_mem_nil,or_false]at he;rcases he with rfl|rfl|rfl|rfl|rfl|rfl|rfl|rfl|rfl|rfl
 ·exact ZjY
 ·exact ZjZ
 ·exact Zk0
 ·exact Zk1
 ·exact Zk2
 ·exact Zk3
 ·exact Zjh
 ·exact Zk7
 ·exact Zk8
 ·exact Zk9
theorem Zka:Zy X.E (7,[],(.bool true)):=ZG (n:=60) Zi2 (by kernel_rfl)
end Nore
