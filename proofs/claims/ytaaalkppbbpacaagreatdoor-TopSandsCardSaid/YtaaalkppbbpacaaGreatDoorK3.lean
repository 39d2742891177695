/- Calls that the examples make, run. -/
import Derived.Test.YtaaalkppbbpacaaGreatDoorK2
set_option linter.unusedSectionVars false
set_option linter.unusedVariables false
set_option linter.unusedSimpArgs false
set_option maxRecDepth 100000
namespace Nore
open Go Go.Ab Go.Proofs Go.Proofs.YtaaalkppbbpacaaGreatDoor
theorem Zjp:Zy X.E (62,[],zz1):=t0
theorem Zjq:Zy X.E (63,[],(.agg [(jI 0),(jI 0),(jI 8),(jI 0)])):=t0
theorem Zjr:Zy X.E (15,[zz1,zz7],(.tup [(.sl [[(jI (-500)),(jI 0)],[(jI 0),(jI 0)],[(jI 500),(jI 0)]]),(jI 0)])):=t0
theorem Zjs:Zy X.E (64,[],(.agg [(jI 1),(jI 0),(jI 96),(jI 0)])):=t0
theorem Zjt:Zy X.E (15,[zz1,(.sl [[(jI 0),(jI 0),(jI 8),(jI 0)],[(jI 1),(jI 0),(jI 96),(jI 0)]])],(.tup [(.sl [[(jI 500),(jI 0)]]),(jI 0)])):=t0
theorem Zju:Zy X.E (66,[],(.agg [(jI 0),(jI 1),(jI 0),(jI 0)])):=t0
theorem Zjv:Zy X.E (65,[zz1,(.sl [[(jI 0),(jI 0),(jI 8),(jI 0)],[(jI 0),(jI 1),(jI 0),(jI 0)]]),(.agg [(jI 0),(jI 0)])],(.tup [(.sl [[(jI 0),(jI 0)],[(jI (-2)),(jI 2)]]),(jI 0)])):=t0
theorem Zjw:Zy X.E (16,[zz1,zz7],(.tup [(.agg [(jI (-500)),(jI 500),(jI 0),(jI 0)]),(jI 0)])):=t0
theorem Zjx:Zy X.E (168,[zz1],(.tup [(jI 0),(jI 0),(jI 0)])):=t0
theorem ZiF:Zy X.E (92,[zz2],(.tup [(jI 0),(jI 0),(jI 0)])):=t0
end Nore
