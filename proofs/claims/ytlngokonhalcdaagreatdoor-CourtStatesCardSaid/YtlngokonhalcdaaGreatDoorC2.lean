/- The code comes to the plain functions. -/
import Derived.Test.YtlngokonhalcdaaGreatDoorC1
import Derived.Test.YtlngokonhalcdaaGreatDoorK2
set_option linter.unusedSectionVars false
set_option linter.unusedVariables false
set_option linter.unusedSimpArgs false
set_option maxRecDepth 100000
open Go Go.Ab Go.Proofs Go.Proofs.YtlngokonhalcdaaGreatDoor
open Go.Ab.Tr renaming node->N,leaf->L
namespace Nore
noncomputable def qee:F7 S:=⟨[],[.bool],fun _=>X5j⟩
theorem qef:Zau X 19 qee:=Zhg (X:=X) (F:=X5j) rfl ZfL
noncomputable def qeg:List (Nat×F7 S):=[(16,q8F),(17,qdS),(18,qec),(19,qee)]
theorem qeh:ZaF X (qeg):=⟨q8G,qdT,qed,qef,trivial⟩
theorem qek (x0:CoRecord) (x1:List Zr) (x2:Nat->Int):Zkf X qeg [(.st 20),(.sl (.st 21)),(.arr 2 (.int .i64))] [.bool] q6d q4 12 3 (x0,x1,x2,())=Wu x0 x1 x2:=by kernel_rfl
noncomputable def qel:F7 S:=⟨[(.st 20),(.sl (.st 21)),(.arr 2 (.int .i64))],[.bool],fun xs=>X29 xs.1 xs.2.1 xs.u2⟩
theorem X3W:Zau X 3 qel:=Zkc (Zkb xok qeh q6e q5 12 3) fun xs _ h=>((qek xs.1 xs.2.1 xs.u2).trans (X39 xs.1 xs.2.1 xs.u2).symm).trans h
end Nore
