/- Calls that the examples make, run. -/
import Derived.Test.YtjegmohjiejgeaaGreatDoorK1
set_option linter.unusedSectionVars false
set_option linter.unusedVariables false
set_option linter.unusedSimpArgs false
set_option maxRecDepth 100000
namespace Nore
open Go Go.Ab Go.Proofs Go.Proofs.YtjegmohjiejgeaaGreatDoor
theorem Zky:ZG X.E (42,[zz7,(.sl []),zzk],(.tup [(.sl [[(jI 0)],[(jI 2)]]),(jI 0)])):=tK (kC ZjV (kC ZjW (kC Zkl (kC Zkp (kC Zkt (kC Zkx kN))))))
theorem Zkz:ZG X.E (6,[zz7,zzd],(.tup [(jI 0),(jI 0)])):=tK (kC kn0 kN)
theorem ZkA:ZG X.E (29,[zz7,zzd],(.tup [zz0,(jI 0)])):=tK (kC Zkz kN)
theorem ZkB:ZG X.E (30,[zz0],(.bool false)):=t0
theorem ZkC:ZG X.E (30,[(.agg [zze,zz8,(.sl [[(jI 1),(jI 2),(jI 0),(jI 124)]])])],(.bool false)):=t0
theorem ZkD:ZG X.E (30,[zz1],(.bool true)):=t0
theorem ZkE:ZG X.E (43,[zz7,zzd],(.tup [(.sl [[(jI 1)]]),(jI 0)])):=tK (kC ZkA (kC ZkB (kC ZkC (kC ZkD kN))))
theorem ZkF:ZG X.E (4,[zzf],(.tup [(jI 0),(jI 0),(jI 0)])):=t0
theorem ZkG:ZG X.E (69,[zzf],(.str ⟨#[100,101,118,105,99,101,32,108,97,109,112,32,50,32,48,32,52,56,48,52,53,10]⟩)):=t0
theorem ZkH:ZG X.E (45,[zzf],(.tup [(.str ⟨#[100,101,118,105,99,101,32,108,97,109,112,32,50,32,48,32,52,56,48,52,53,10]⟩),(jI 0)])):=tK (kC ZkF (kC ZkG kN))
theorem ZkI:ZG X.E (46,[(.str ⟨#[100,101,118,105,99,101,32,108,97,109,112,32,50,32,48,32,52,56,48,52,53,10]⟩)],(.tup [zzf,(jI 0)])):=t0
theorem ZkJ:ZG X.E (47,[(.str ⟨#[100,101,118,105,99,101,32,108,97,109,113,32,50,32,48,32,52,56,48,52,53,10]⟩)],(.tup [(jI 1),(jI 0)])):=t0
theorem ZkK:ZG X.E (6,[zz7,zzj],(.tup [(jI 0),(jI 0)])):=tK (kC kn0 kN)
theorem ZkL:ZG X.E (29,[zz7,zzj],(.tup [(.agg [zze,zz8,zzj]),(jI 0)])):=tK (kC ZkK kN)
theorem ZkM:ZG X.E (10,[zz7,zzj],(.tup [(.sl []),(jI 9)])):=tK (kC ZkL kN)
theorem ZkN:ZG X.E (13,[],(.bool true)):=tK (kC kn3 (kC Zkd (kC Zkh (kC Zky (kC ZkE (kC ZkH (kC ZkI (kC ZkJ (kC ZkM kN)))))))))
theorem ZfI:ZG X.E (13,[],.bool true):=ZkN
end Nore
