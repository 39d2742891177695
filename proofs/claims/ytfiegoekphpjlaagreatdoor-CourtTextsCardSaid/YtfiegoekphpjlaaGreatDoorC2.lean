/- The code comes to the plain functions. -/
import Derived.Test.YtfiegoekphpjlaaGreatDoorC1
import Derived.Test.YtfiegoekphpjlaaGreatDoorK2
set_option linter.unusedSectionVars false
set_option linter.unusedVariables false
set_option linter.unusedSimpArgs false
set_option maxRecDepth 100000
open Go Go.Ab Go.Proofs Go.Proofs.YtfiegoekphpjlaaGreatDoor
open Go.Ab.Tr renaming node->N,leaf->L
namespace Nore
noncomputable def qaS:F7 S:=⟨[],[.bool],fun _=>X4Y⟩
theorem qaT:Z6c X 12 qaS:=Ziw (X:=X) (F:=X4Y) rfl ZgM
noncomputable def qaU:List (Nat×F7 S):=[(5,q38),(6,q6a),(7,q86),(8,q8U),(9,q9l),(10,qah),(11,qaQ),(12,qaS)]
theorem qaV:Z9z X (qaU):=⟨q39,q6b,q87,q8V,q9m,qai,qaR,qaT,trivial⟩
theorem qaY (x0:CoRecord) (x1:ByteArray):ZlT X qaU [(.st 20),.str] [.bool] q1V q4 12 3 (x0,x1,())=Wc x0 x1:=by kernel_rfl
noncomputable def qaZ:F7 S:=⟨[(.st 20),.str],[.bool],fun xs=>X20 xs.1 xs.2.1⟩
theorem X3S:Z6c X 3 qaZ:=ZlP (ZlO xok qaV q1W q5 12 3) fun xs _ h=>((qaY xs.1 xs.2.1).trans (X2Y xs.1 xs.2.1).symm).trans h
end Nore
