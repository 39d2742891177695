/- Calls that the examples make, run. -/
import Derived.Test.YtlngokonhalcdaaGreatDoorK0
set_option linter.unusedSectionVars false
set_option linter.unusedVariables false
set_option linter.unusedSimpArgs false
set_option maxRecDepth 100000
namespace Nore
open Go Go.Ab Go.Proofs Go.Proofs.YtlngokonhalcdaaGreatDoor
theorem Zkk:ZJ X.E (20,[zz7,(.sl []),zzk],(.tup [(jI 2),(jI 0)])):=tK (kC ZjY (kC ZjZ kN))
theorem Zkl:ZJ X.E (60,[(.agg [zze,zz9,zzh])],(.bool true)):=t0
theorem Zkm:ZJ X.E (60,[(.agg [zze,zz9,zzi])],(.bool true)):=t0
theorem Zkn:ZJ X.E (61,[zz3,(jI 0),(jI 112)],(.sl [[(jI 0)],[(jI 1)]])):=tK (kC Zkl (kC Zkm kN))
theorem Zko:ZJ X.E (66,[zz3,zzk],(jI 1)):=tK (kC Zkn kN)
theorem Zkp:ZJ X.E (60,[(.agg [zze,zza,zzh])],(.bool false)):=t0
theorem Zkq:ZJ X.E (60,[(.agg [zze,zza,zzi])],(.bool true)):=t0
theorem Zkr:ZJ X.E (61,[zz4,(jI 0),(jI 112)],(.sl [[(jI 1)]])):=tK (kC Zkp (kC Zkq kN))
theorem Zks:ZJ X.E (66,[zz4,zzk],(jI 2)):=tK (kC Zkr kN)
theorem Zkt:ZJ X.E (60,[(.agg [zze,zzb,zzh])],(.bool true)):=t0
theorem Zku:ZJ X.E (60,[(.agg [zze,zzb,zzi])],(.bool true)):=t0
theorem Zkv:ZJ X.E (61,[zz5,(jI 0),(jI 112)],(.sl [[(jI 0)],[(jI 1)]])):=tK (kC Zkt (kC Zku kN))
theorem Zkw:ZJ X.E (66,[zz5,zzk],(jI 1)):=tK (kC Zkv kN)
theorem Zkx:ZJ X.E (60,[(.agg [zze,zzc,zzh])],(.bool false)):=t0
theorem Zky:ZJ X.E (60,[(.agg [zze,zzc,zzi])],(.bool true)):=t0
theorem Zkz:ZJ X.E (61,[zz6,(jI 0),(jI 112)],(.sl [[(jI 1)]])):=tK (kC Zkx (kC Zky kN))
theorem ZkA:ZJ X.E (66,[zz6,zzk],(jI 2)):=tK (kC Zkz kN)
end Nore
