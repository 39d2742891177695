/- The examples of the document, run. -/
import Derived.Test.YtehofdemanfenaaGreatK5
set_option linter.unusedSectionVars false
set_option linter.unusedVariables false
set_option linter.unusedSimpArgs false
namespace Nore
open Go Go.Ab Go.Proofs Go.Proofs.YtehofdemanfenaaGreat
theorem ZdR:Yc X.E (14,[],.bool true):=Zi8
end Nore
