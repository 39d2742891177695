/- Calls that the examples make, run. -/
import Derived.Test.YtaaalkppbbpacaaGreatDoorK19
set_option linter.unusedSectionVars false
set_option linter.unusedVariables false
set_option linter.unusedSimpArgs false
set_option maxRecDepth 100000
namespace Nore
open Go Go.Ab Go.Proofs Go.Proofs.YtaaalkppbbpacaaGreatDoor
theorem ZjQ:Zy X.E (93,[zz0],(.str ⟨#[109,97,114,107,32,99,104,117,114,99,104,32,51,48,48,48,32,52,48,48,48,32,48,32,49,32,53,48,32,50,10,109,97,114,107,32,109,105,108,108,32,45,50,48,48,48,32,48,32,49,48,32,51,32,57,48,32,48,10,115,97,110,100,32,107,110,111,108,108,32,48,32,49,48,32,45,53,32,53,32,49,48,48,32,48,32,50,48,48,32,48,32,50,48,48,32,49,48,48,32,49,48,48,32,49,48,48,10,115,97,110,100,32,115,112,105,116,32,48,32,48,32,48,32,48,32,45,51,48,48,32,45,51,48,48,32,45,49,48,48,32,45,52,48,48,32,45,50,48,48,32,45,50,48,48,10]⟩)):=⟨60,by kernel_rfl⟩
end Nore
