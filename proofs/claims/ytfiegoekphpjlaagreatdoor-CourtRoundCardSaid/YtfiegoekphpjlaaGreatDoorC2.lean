/- The code comes to the plain functions. -/
import Derived.Test.YtfiegoekphpjlaaGreatDoorC1
import Derived.Test.YtfiegoekphpjlaaGreatDoorK2
set_option linter.unusedSectionVars false
set_option linter.unusedVariables false
set_option linter.unusedSimpArgs false
set_option maxRecDepth 100000
open Go Go.Ab Go.Proofs Go.Proofs.YtfiegoekphpjlaaGreatDoor
open Go.Ab.Tr renaming node->N,leaf->L
namespace Nore
noncomputable def q8A:F7 S:=⟨[],[.bool],fun _=>X4H⟩
theorem q8B:Z9e X 12 q8A:=Ziu (X:=X) (F:=X4H) rfl ZgK
noncomputable def q8C:List (Nat×F7 S):=[(5,q38),(13,q8y),(7,q74),(10,q8r),(9,q7v),(12,q8A)]
theorem q8D:Z9z X (q8C):=⟨q39,q8z,q75,q8s,q7w,q8B,trivial⟩
theorem q8G (x0:CoRecord) (x1:ByteArray):ZlS X q8C [(.st 20),.str] [.bool] q1V q4 12 4 (x0,x1,())=W5 x0 x1:=by kernel_rfl
noncomputable def q8H:F7 S:=⟨[(.st 20),.str],[.bool],fun xs=>X1z xs.1 xs.2.1⟩
theorem X3u:Z9e X 4 q8H:=ZlO (ZlN xok q8D q1W q5 12 4) fun xs _ h=>((q8G xs.1 xs.2.1).trans (X2M xs.1 xs.2.1).symm).trans h
end Nore
