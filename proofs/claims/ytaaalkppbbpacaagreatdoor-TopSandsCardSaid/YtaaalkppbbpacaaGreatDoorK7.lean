/- Calls that the examples make, run. -/
import Derived.Test.YtaaalkppbbpacaaGreatDoorK6
set_option linter.unusedSectionVars false
set_option linter.unusedVariables false
set_option linter.unusedSimpArgs false
set_option maxRecDepth 100000
namespace Nore
open Go Go.Ab Go.Proofs Go.Proofs.YtaaalkppbbpacaaGreatDoor
theorem ZjT:Zy X.E (69,[zz1,zz7],(.tup [(jI 1),(jI 0),(jI 1),(jI 0)])):=t0
theorem ZjU:Zy X.E (65,[zz1,zz7,(.agg [(jI (-500)),(jI 500)])],(.tup [(.sl []),(jI 9)])):=t0
theorem ZjV:Zy X.E (12,[],(.bool true)):=tK (kC Zjp (kC Zjq (kC Zjr (kC Zjs (kC Zjt (kC Zju (kC Zjv (kC Zjw (kC ZjS (kC ZjT (kC ZjU kN)))))))))))
theorem ZeL:Zy X.E (6,[],.bool true):=Zjo
theorem ZeM:Zy X.E (12,[],.bool true):=ZjV
end Nore
