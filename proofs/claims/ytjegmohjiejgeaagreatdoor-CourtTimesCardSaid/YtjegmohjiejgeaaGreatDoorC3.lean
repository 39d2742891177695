/- The code comes to the plain functions. -/
import Derived.Test.YtjegmohjiejgeaaGreatDoorC2
import Derived.Test.YtjegmohjiejgeaaGreatDoorK2
set_option linter.unusedSectionVars false
set_option linter.unusedVariables false
set_option linter.unusedSimpArgs false
set_option maxRecDepth 100000
open Go Go.Ab Go.Proofs Go.Proofs.YtjegmohjiejgeaaGreatDoor
open Go.Ab.Tr renaming node->N,leaf->L
namespace Nore
noncomputable def qel:F7 S:=⟨[],[.bool],fun _=>X4V⟩
theorem qem:Zaq X 13 qel:=Zhd (X:=X) (F:=X4V) rfl ZfI
noncomputable def qen:List (Nat×F7 S):=[(4,q2k),(5,q4C),(6,q57),(7,q5r),(8,q93),(9,qbe),(10,qdu),(11,qdZ),(12,qej),(13,qel)]
theorem qeo:ZaC X (qen):=⟨q2l,q4D,q58,q5s,q94,qbf,qdv,qe0,qek,qem,trivial⟩
theorem qer (x0:CoRecord) (x1:List Zt):Zkc X qen [(.st 20),(.sl (.st 21))] [.bool] qdn q4 12 3 (x0,x1,())=WI x0 x1:=by kernel_rfl
noncomputable def qes:F7 S:=⟨[(.st 20),(.sl (.st 21))],[.bool],fun xs=>X2i xs.1 xs.2.1⟩
theorem X3I:Zaq X 3 qes:=Zk9 (Zk8 xok qeo qdo q5 12 3) fun xs _ h=>((qer xs.1 xs.2.1).trans (X32 xs.1 xs.2.1).symm).trans h
end Nore
