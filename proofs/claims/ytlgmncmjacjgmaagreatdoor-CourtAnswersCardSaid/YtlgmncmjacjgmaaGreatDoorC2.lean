/- The code comes to the plain functions. -/
import Derived.Test.YtlgmncmjacjgmaaGreatDoorC1
import Derived.Test.YtlgmncmjacjgmaaGreatDoorK2
set_option linter.unusedSectionVars false
set_option linter.unusedVariables false
set_option linter.unusedSimpArgs false
set_option maxRecDepth 100000
open Go Go.Ab Go.Proofs Go.Proofs.YtlgmncmjacjgmaaGreatDoor
open Go.Ab.Tr renaming node->N,leaf->L
namespace Nore
noncomputable def qg8:F7 S:=⟨[],[.bool],fun _=>X7C⟩
theorem qg9:Zav X 15 qg8:=Zhg (X:=X) (F:=X7C) rfl ZfL
noncomputable def qga:List (Nat×F7 S):=[(8,q8p),(9,qdh),(10,qdx),(11,qdU),(12,qeb),(13,qf0),(14,qg6),(15,qg8)]
theorem qgb:Z95 X (qga):=⟨q8q,qdi,qdy,qdV,qec,qf1,qg7,qg9,trivial⟩
theorem qge (x0:CoRecord) (x1:List Zr) (x2:Zr):Zkg X qga [(.st 20),(.sl (.st 21)),(.st 21)] [.bool] q5o q4 12 3 (x0,x1,x2,())=WB x0 x1 x2:=by kernel_rfl
noncomputable def qgf:F7 S:=⟨[(.st 20),(.sl (.st 21)),(.st 21)],[.bool],fun xs=>X2K xs.1 xs.2.1 xs.u2⟩
theorem X5A:Zav X 3 qgf:=Zkd (Zkc xok qgb q5p q5 12 3) fun xs _ h=>((qge xs.1 xs.2.1 xs.u2).trans (X4o xs.1 xs.2.1 xs.u2).symm).trans h
end Nore
