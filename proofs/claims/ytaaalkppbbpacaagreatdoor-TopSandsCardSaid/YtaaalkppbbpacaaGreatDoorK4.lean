/- Calls that the examples make, run. -/
import Derived.Test.YtaaalkppbbpacaaGreatDoorK3
set_option linter.unusedSectionVars false
set_option linter.unusedVariables false
set_option linter.unusedSimpArgs false
set_option maxRecDepth 100000
namespace Nore
open Go Go.Ab Go.Proofs Go.Proofs.YtaaalkppbbpacaaGreatDoor
theorem Zjy:Zy X.E (91,[zz2,(jI 5),(jI 0)],(.tup [zz5,(jI 1),(jI 0)])):=tK (kC ZiF kN)
theorem Zba:Zy X.E (82,[zz2,(jI 5),(jI 0)],(.tup [zz5,(jI 0)])):=tK (kC Zjy kN)
theorem Zjz:Zy X.E (20,[zz2,(jI 5),(jI 0),(.agg [(jI (-500)),(jI (-500))])],(.tup [(jI 6),(jI 0)])):=tK (kC Zba kN)
theorem ZjA:Zy X.E (20,[zz2,(jI 5),(jI 0),(.agg [(jI (-500)),(jI 0)])],(.tup [(jI 8),(jI 0)])):=tK (kC Zba kN)
theorem ZjB:Zy X.E (91,[zz2,(jI 5),(jI 1)],(.tup [zz6,(jI 1),(jI 0)])):=tK (kC ZiF kN)
theorem Zbb:Zy X.E (82,[zz2,(jI 5),(jI 1)],(.tup [zz6,(jI 0)])):=tK (kC ZjB kN)
theorem ZjC:Zy X.E (20,[zz2,(jI 5),(jI 1),(.agg [(jI (-500)),(jI 0)])],(.tup [(jI 2),(jI 0)])):=tK (kC Zbb kN)
theorem ZjD:Zy X.E (20,[zz2,(jI 5),(jI 0),(.agg [(jI (-500)),(jI 500)])],(.tup [(jI 9),(jI 0)])):=tK (kC Zba kN)
theorem ZjE:Zy X.E (20,[zz2,(jI 5),(jI 0),(.agg [(jI 0),(jI (-500))])],(.tup [(jI 5),(jI 0)])):=tK (kC Zba kN)
theorem ZjF:Zy X.E (20,[zz2,(jI 5),(jI 0),(.agg [(jI 0),(jI 0)])],(.tup [(jI 8),(jI 0)])):=tK (kC Zba kN)
theorem ZjG:Zy X.E (20,[zz2,(jI 5),(jI 1),(.agg [(jI 0),(jI 0)])],(.tup [(jI 0),(jI 0)])):=tK (kC Zbb kN)
theorem ZjH:Zy X.E (20,[zz2,(jI 5),(jI 0),(.agg [(jI 0),(jI 500)])],(.tup [(jI 10),(jI 0)])):=tK (kC Zba kN)
theorem ZjI:Zy X.E (20,[zz2,(jI 5),(jI 0),(.agg [(jI 500),(jI (-500))])],(.tup [(jI 4),(jI 0)])):=tK (kC Zba kN)
end Nore
