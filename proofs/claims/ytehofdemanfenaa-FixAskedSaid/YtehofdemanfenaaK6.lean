/- The examples of the document, run. -/
import Derived.Test.YtehofdemanfenaaK5
set_option linter.unusedSectionVars false
set_option linter.unusedVariables false
set_option linter.unusedSimpArgs false
namespace Nore
open Go Go.Ab Go.Proofs Go.Proofs.Ytehofdemanfenaa
theorem Zdy:Ya X.E (20,[],.bool true):=ZhN
end Nore
