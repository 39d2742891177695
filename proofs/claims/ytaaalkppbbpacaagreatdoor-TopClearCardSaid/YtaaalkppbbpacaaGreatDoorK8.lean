/- Calls that the examples make, run. -/
import Derived.Test.YtaaalkppbbpacaaGreatDoorK7
set_option linter.unusedSectionVars false
set_option linter.unusedVariables false
set_option linter.unusedSimpArgs false
set_option maxRecDepth 100000
namespace Nore
open Go Go.Ab Go.Proofs Go.Proofs.YtaaalkppbbpacaaGreatDoor
theorem Zjg:Zy X.E (55,[zz0,(.agg [(.int .i64 (0)),(.int .i64 (0))]),(.int .i64 (100))],(.tup [(.int .i64 (0)),(.agg [(.int .i64 (0)),(.int .i64 (0))]),(.bool false)])):=X6u _ ⟨[⟨⟨#[99,104,117,114,99,104]⟩,⟨3000,4000⟩,[⟨0,1⟩,⟨50,2⟩]⟩,⟨⟨#[109,105,108,108]⟩,⟨-2000,0⟩,[⟨10,3⟩,⟨90,0⟩]⟩],[⟨⟨#[107,110,111,108,108]⟩,[⟨100,0⟩,⟨200,0⟩,⟨200,100⟩,⟨100,100⟩],⟨⟨0,10⟩,⟨-5,5⟩⟩⟩,⟨⟨#[115,112,105,116]⟩,[⟨-300,-300⟩,⟨-100,-400⟩,⟨-200,-200⟩],⟨⟨0,0⟩,⟨0,0⟩⟩⟩]⟩ ⟨0,0⟩ (100) (by kernel_rfl) (by kernel_rfl) (by kernel_rfl) (by kernel_rfl) (by kernel_rfl)
end Nore
