/- Calls that the examples make, run. -/
import Derived.Test.YtaaalkppbbpacaaGreatDoorK4
set_option linter.unusedSectionVars false
set_option linter.unusedVariables false
set_option linter.unusedSimpArgs false
set_option maxRecDepth 100000
namespace Nore
open Go Go.Ab Go.Proofs Go.Proofs.YtaaalkppbbpacaaGreatDoor
theorem ZjJ:Zy X.E (20,[zz2,(jI 5),(jI 0),(.agg [(jI 500),(jI 0)])],(.tup [(jI 8),(jI 0)])):=tK (kC Zba kN)
theorem ZjK:Zy X.E (20,[zz2,(jI 5),(jI 1),(.agg [(jI 500),(jI 0)])],(.tup [(jI 29),(jI 0)])):=tK (kC Zbb kN)
theorem ZjL:Zy X.E (20,[zz2,(jI 5),(jI 0),(.agg [(jI 500),(jI 500)])],(.tup [(jI 12),(jI 0)])):=tK (kC Zba kN)
theorem ZjM:Zy X.E (20,[zz2,(jI 5),(jI 1),(.agg [(jI (-500)),(jI (-500))])],(.tup [(jI 1),(jI 0)])):=tK (kC Zbb kN)
theorem ZjN:Zy X.E (20,[zz2,(jI 5),(jI 1),(.agg [(jI (-500)),(jI 500)])],(.tup [(jI 4),(jI 0)])):=tK (kC Zbb kN)
theorem ZjO:Zy X.E (20,[zz2,(jI 5),(jI 1),(.agg [(jI 0),(jI (-500))])],(.tup [(jI 0),(jI 0)])):=tK (kC Zbb kN)
theorem ZjP:Zy X.E (20,[zz2,(jI 5),(jI 1),(.agg [(jI 0),(jI 500)])],(.tup [(jI 0),(jI 0)])):=tK (kC Zbb kN)
theorem ZjQ:Zy X.E (20,[zz2,(jI 5),(jI 1),(.agg [(jI 500),(jI (-500))])],(.tup [(jI 30),(jI 0)])):=tK (kC Zbb kN)
theorem ZjR:Zy X.E (20,[zz2,(jI 5),(jI 1),(.agg [(jI 500),(jI 500)])],(.tup [(jI 28),(jI 0)])):=tK (kC Zbb kN)
end Nore
