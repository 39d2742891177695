/- Calls that the examples make, run. -/
import Derived.Test.YtlngokonhalcdaaGreatDoorK1
set_option linter.unusedSectionVars false
set_option linter.unusedVariables false
set_option linter.unusedSimpArgs false
set_option maxRecDepth 100000
namespace Nore
open Go Go.Ab Go.Proofs Go.Proofs.YtlngokonhalcdaaGreatDoor
theorem ZkB:ZJ X.E (22,[zz7,(.sl []),zzk],(.tup [(.sl [[(jI 0)],[(jI 2)]]),(jI 0)])):=tK (kC ZjY (kC ZjZ (kC Zko (kC Zks (kC Zkw (kC ZkA kN))))))
theorem ZkC:ZJ X.E (48,[zz7,zzd],(.tup [(jI 0),(jI 0)])):=tK (kC kn0 kN)
theorem ZkD:ZJ X.E (58,[zz7,zzd],(.tup [zz0,(jI 0)])):=tK (kC ZkC kN)
theorem ZkE:ZJ X.E (60,[zz0],(.bool false)):=t0
theorem ZkF:ZJ X.E (60,[(.agg [zze,zz8,(.sl [[(jI 1),(jI 2),(jI 0),(jI 124)]])])],(.bool false)):=t0
theorem ZkG:ZJ X.E (60,[zz1],(.bool true)):=t0
theorem ZkH:ZJ X.E (24,[zz7,zzd],(.tup [(.sl [[(jI 1)]]),(jI 0)])):=tK (kC ZkD (kC ZkE (kC ZkF (kC ZkG kN))))
theorem ZkI:ZJ X.E (46,[zzf],(.tup [(jI 0),(jI 0),(jI 0)])):=t0
theorem ZkJ:ZJ X.E (72,[zzf],(.str ⟨#[100,101,118,105,99,101,32,108,97,109,112,32,50,32,48,32,52,56,48,52,53,10]⟩)):=t0
theorem ZkK:ZJ X.E (26,[zzf],(.tup [(.str ⟨#[100,101,118,105,99,101,32,108,97,109,112,32,50,32,48,32,52,56,48,52,53,10]⟩),(jI 0)])):=tK (kC ZkI (kC ZkJ kN))
theorem ZkL:ZJ X.E (28,[(.str ⟨#[100,101,118,105,99,101,32,108,97,109,112,32,50,32,48,32,52,56,48,52,53,10]⟩)],(.tup [zzf,(jI 0)])):=t0
theorem ZkM:ZJ X.E (31,[(.str ⟨#[100,101,118,105,99,101,32,108,97,109,113,32,50,32,48,32,52,56,48,52,53,10]⟩)],(.tup [(jI 1),(jI 0)])):=t0
theorem ZkN:ZJ X.E (48,[zz7,zzj],(.tup [(jI 0),(jI 0)])):=tK (kC kn0 kN)
theorem ZkO:ZJ X.E (58,[zz7,zzj],(.tup [(.agg [zze,zz8,zzj]),(jI 0)])):=tK (kC ZkN kN)
theorem ZkP:ZJ X.E (34,[zz7,zzj],(.tup [(.sl []),(jI 9)])):=tK (kC ZkO kN)
theorem ZkQ:ZJ X.E (19,[],(.bool true)):=tK (kC kn3 (kC Zkg (kC Zkk (kC ZkB (kC ZkH (kC ZkK (kC ZkL (kC ZkM (kC ZkP kN)))))))))
theorem ZfL:ZJ X.E (19,[],.bool true):=ZkQ
end Nore
