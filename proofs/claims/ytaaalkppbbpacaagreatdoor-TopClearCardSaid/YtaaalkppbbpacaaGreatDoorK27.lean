/- Calls that the examples make, run. -/
import Derived.Test.YtaaalkppbbpacaaGreatDoorK26
set_option linter.unusedSectionVars false
set_option linter.unusedVariables false
set_option linter.unusedSimpArgs false
set_option maxRecDepth 100000
namespace Nore
open Go Go.Ab Go.Proofs Go.Proofs.YtaaalkppbbpacaaGreatDoor
theorem ZjY:Zy X.E (37,[],zz1):=⟨60,by kernel_rfl⟩
theorem ZjZ:Zy X.E (42,[zz1,zz9,(.agg [(.int .i64 (3)),(.int .i64 (0))]),(.agg [(.int .i64 (100)),(.int .i64 (0))])],(.tup [(.bool true),(.int .i64 (0))])):=⟨60,by kernel_rfl⟩
theorem Zk0:Zy X.E (42,[zz1,zz9,(.agg [(.int .i64 (3)),(.int .i64 (0))]),(.agg [(.int .i64 (98)),(.int .i64 (0))])],(.tup [(.bool false),(.int .i64 (0))])):=⟨60,by kernel_rfl⟩
theorem Zk1:Zy X.E (8,[zz1,zz4],(.tup [zz8,(.int .i64 (0))])):=⟨60,by kernel_rfl⟩
theorem Zk2:Zy X.E (44,[zz1,zz2],(.tup [(.int .i64 (2)),(.int .i64 (0))])):=⟨60,by kernel_rfl⟩
theorem Zk3:Zy X.E (45,[zz1,zz2],(.tup [(.sl [[(.int .i64 (2))]]),(.int .i64 (0))])):=⟨60,by kernel_rfl⟩
theorem Zjh:Zy X.E (46,[zz1,(.sl []),zz9],(.tup [zza,(.int .i64 (0))])):=⟨60,by kernel_rfl⟩
theorem Zk4:Zy X.E (92,[zz3],(.tup [(.int .i64 (0)),(.int .i64 (0)),(.int .i64 (0))])):=⟨60,by kernel_rfl⟩
end Nore
