/- Calls that the examples make, run. -/
import Derived.Test.YtaaalkppbbpacaaGreatDoorK10
set_option linter.unusedSectionVars false
set_option linter.unusedVariables false
set_option linter.unusedSimpArgs false
set_option maxRecDepth 100000
namespace Nore
open Go Go.Ab Go.Proofs Go.Proofs.YtaaalkppbbpacaaGreatDoor
def Zev:List (Nat×List DV×DV):=[(53,[zz0,(.agg [(.int .i64 (0)),(.int .i64 (0))])],(.int .i64 (0))),
 (55,[zz0,(.agg [(.int .i64 (0)),(.int .i64 (0))]),(.int .i64 (2500))],(.tup [(.int .i64 (0)),(.agg [(.int .i64 (0)),(.int .i64 (-5))]),(.bool true)])),
 (55,[zz0,(.agg [(.int .i64 (0)),(.int .i64 (0))]),(.int .i64 (1250))],(.tup [(.int .i64 (0)),(.agg [(.int .i64 (0)),(.int .i64 (-5))]),(.bool true)])),
 (55,[zz0,(.agg [(.int .i64 (0)),(.int .i64 (0))]),(.int .i64 (625))],(.tup [(.int .i64 (0)),(.agg [(.int .i64 (0)),(.int .i64 (-5))]),(.bool true)])),
 (55,[zz0,(.agg [(.int .i64 (0)),(.int .i64 (0))]),(.int .i64 (312))],(.tup [(.int .i64 (0)),(.agg [(.int .i64 (0)),(.int .i64 (-5))]),(.bool true)])),
 (55,[zz0,(.agg [(.int .i64 (0)),(.int .i64 (0))]),(.int .i64 (156))],(.tup [(.int .i64 (0)),(.agg [(.int .i64 (0)),(.int .i64 (-5))]),(.bool true)])),
 (55,[zz0,(.agg [(.int .i64 (0)),(.int .i64 (0))]),(.int .i64 (78))],(.tup [(.int .i64 (0)),(.agg [(.int .i64 (0)),(.int .i64 (0))]),(.bool false)])),
 (55,[zz0,(.agg [(.int .i64 (0)),(.int .i64 (0))]),(.int .i64 (117))],(.tup [(.int .i64 (0)),(.agg [(.int .i64 (0)),(.int .i64 (-5))]),(.bool true)])),
 (55,[zz0,(.agg [(.int .i64 (0)),(.int .i64 (0))]),(.int .i64 (97))],(.tup [(.int .i64 (0)),(.agg [(.int .i64 (0)),(.int .i64 (0))]),(.bool false)])),
 (55,[zz0,(.agg [(.int .i64 (0)),(.int .i64 (0))]),(.int .i64 (107))],(.tup [(.int .i64 (0)),(.agg [(.int .i64 (0)),(.int .i64 (-5))]),(.bool true)])),
 (55,[zz0,(.agg [(.int .i64 (0)),(.int .i64 (0))]),(.int .i64 (102))],(.tup [(.int .i64 (0)),(.agg [(.int .i64 (0)),(.int .i64 (-5))]),(.bool true)])),
 (55,[zz0,(.agg [(.int .i64 (0)),(.int .i64 (0))]),(.int .i64 (99))],(.tup [(.int .i64 (0)),(.agg [(.int .i64 (0)),(.int .i64 (0))]),(.bool false)])),
 (55,[zz0,(.agg [(.int .i64 (0)),(.int .i64 (0))]),(.int .i64 (100))],(.tup [(.int .i64 (0)),(.agg [(.int .i64 (0)),(.int .i64 (0))]),(.bool false)])),
 (55,[zz0,(.agg [(.int .i64 (0)),(.int .i64 (0))]),(.int .i64 (101))],(.tup [(.int .i64 (0)),(.agg [(.int .i64 (0)),(.int .i64 (-5))]),(.bool true)]))]
theorem ZhL:∀e∈Zev,Zy X.E e:=fun e he=>by
 simp only[Zev,List.mem_cons,List.not_mem_nil,or_false]at he;rcases he with rfl|rfl|rfl|rfl|rfl|rfl|rfl|rfl|rfl|rfl|rfl|rfl|rfl|rfl
 ·exact kn7
 ·exact Zjw
 ·exact Zjx
 ·exact Zjy
 ·exact Zjz
 ·exact ZjA
 ·exact ZjB
 ·exact ZjC
 ·exact ZjD
 ·exact ZjE
 ·exact ZjF
 ·exact ZjG
 ·exact Zjg
 ·exact kn8
theorem ZjH:Zy X.E (28,[zz0,(.agg [(.int .i64 (0)),(.int .i64 (0))])],(.tup [(.int .i64 (100)),(.int .i64 (0))])):=ZG (n:=60) ZhL (by kernel_rfl)
end Nore
