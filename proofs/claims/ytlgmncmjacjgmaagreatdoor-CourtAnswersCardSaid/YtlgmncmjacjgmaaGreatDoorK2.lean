/- Calls that the examples make, run. -/
import Derived.Test.YtlgmncmjacjgmaaGreatDoorK1
set_option linter.unusedSectionVars false
set_option linter.unusedVariables false
set_option linter.unusedSimpArgs false
set_option maxRecDepth 100000
namespace Nore
open Go Go.Ab Go.Proofs Go.Proofs.YtlgmncmjacjgmaaGreatDoor
theorem ZkC:ZJ X.E (10,[zz7,(.sl []),zzk],(.tup [(.sl [[(jI 0)],[(jI 2)]]),(jI 0)])):=tK (kC Zk0 (kC Zk1 (kC Zkp (kC Zkt (kC Zkx (kC ZkB kN))))))
theorem ZkD:ZJ X.E (60,[zz7,zzd],(.tup [(jI 0),(jI 0)])):=tK (kC kn0 kN)
theorem ZkE:ZJ X.E (37,[zz7,zzd],(.tup [zz0,(jI 0)])):=tK (kC ZkD kN)
theorem ZkF:ZJ X.E (39,[zz0],(.bool false)):=t0
theorem ZkG:ZJ X.E (39,[(.agg [zze,zz8,(.sl [[(jI 1),(jI 2),(jI 0),(jI 124)]])])],(.bool false)):=t0
theorem ZkH:ZJ X.E (39,[zz1],(.bool true)):=t0
theorem ZkI:ZJ X.E (13,[zz7,zzd],(.tup [(.sl [[(jI 1)]]),(jI 0)])):=tK (kC ZkE (kC ZkF (kC ZkG (kC ZkH kN))))
theorem ZkJ:ZJ X.E (65,[zzf],(.tup [(jI 0),(jI 0),(jI 0)])):=t0
theorem ZkK:ZJ X.E (66,[zzf],(.str ⟨#[100,101,118,105,99,101,32,108,97,109,112,32,50,32,48,32,52,56,48,52,53,10]⟩)):=t0
theorem ZkL:ZJ X.E (47,[zzf],(.tup [(.str ⟨#[100,101,118,105,99,101,32,108,97,109,112,32,50,32,48,32,52,56,48,52,53,10]⟩),(jI 0)])):=tK (kC ZkJ (kC ZkK kN))
theorem ZkM:ZJ X.E (48,[(.str ⟨#[100,101,118,105,99,101,32,108,97,109,112,32,50,32,48,32,52,56,48,52,53,10]⟩)],(.tup [zzf,(jI 0)])):=t0
theorem ZkN:ZJ X.E (49,[(.str ⟨#[100,101,118,105,99,101,32,108,97,109,113,32,50,32,48,32,52,56,48,52,53,10]⟩)],(.tup [(jI 1),(jI 0)])):=t0
theorem ZkO:ZJ X.E (60,[zz7,zzj],(.tup [(jI 0),(jI 0)])):=tK (kC kn0 kN)
theorem ZkP:ZJ X.E (37,[zz7,zzj],(.tup [(.agg [zze,zz8,zzj]),(jI 0)])):=tK (kC ZkO kN)
theorem ZkQ:ZJ X.E (21,[zz7,zzj],(.tup [(.sl []),(jI 9)])):=tK (kC ZkP kN)
theorem ZkR:ZJ X.E (15,[],(.bool true)):=tK (kC kn3 (kC Zkh (kC Zkl (kC ZkC (kC ZkI (kC ZkL (kC ZkM (kC ZkN (kC ZkQ kN)))))))))
theorem ZfL:ZJ X.E (15,[],.bool true):=ZkR
end Nore
