/- Calls that the examples make, run. -/
import Derived.Test.YtaaalkppbbpacaaGreatDoorK5
set_option linter.unusedSectionVars false
set_option linter.unusedVariables false
set_option linter.unusedSimpArgs false
set_option maxRecDepth 100000
namespace Nore
open Go Go.Ab Go.Proofs Go.Proofs.YtaaalkppbbpacaaGreatDoor
theorem ZjS:Zy X.E (68,[zz1,(.sl [[(jI 0),(jI 0),(jI 8),(jI 0)],[(jI 0),(jI 1),(jI 8),(jI 0)],[(jI 1),(jI 0),(jI 96),(jI 0)]])],(.tup [(.sl [[(jI 1)]]),(.sl []),(jI 0)])):=tK (kC Zjx (kC Zjz (kC ZjA (kC ZjC (kC ZjD (kC ZjE (kC ZjF (kC ZjG (kC ZjH (kC ZjI (kC ZjJ (kC ZjK (kC ZjL (kC ZjM (kC ZjN (kC ZjO (kC ZjP (kC ZjQ (kC ZjR kN)))))))))))))))))))
end Nore
