/- The examples of the document, run. -/
import Derived.Test.YtaaalkppbbpacaaGreatDoorK32
set_option linter.unusedSectionVars false
set_option linter.unusedVariables false
set_option linter.unusedSimpArgs false
namespace Nore
open Go Go.Ab Go.Proofs Go.Proofs.YtaaalkppbbpacaaGreatDoor
theorem ZeN:Zy X.E (6,[],.bool true):=ZjX
theorem ZeO:Zy X.E (7,[],.bool true):=Zka
end Nore
