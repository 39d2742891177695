/- Calls that the examples make, run. -/
import Derived.Test.YtlgmncmjacjgmaaGreatDoorK0
set_option linter.unusedSectionVars false
set_option linter.unusedVariables false
set_option linter.unusedSimpArgs false
set_option maxRecDepth 100000
namespace Nore
open Go Go.Ab Go.Proofs Go.Proofs.YtlgmncmjacjgmaaGreatDoor
theorem Zkl:ZJ X.E (8,[zz7,(.sl []),zzk],(.tup [(jI 2),(jI 0)])):=tK (kC Zk0 (kC Zk1 kN))
theorem Zkm:ZJ X.E (39,[(.agg [zze,zz9,zzh])],(.bool true)):=t0
theorem Zkn:ZJ X.E (39,[(.agg [zze,zz9,zzi])],(.bool true)):=t0
theorem Zko:ZJ X.E (52,[zz3,(jI 0),(jI 112)],(.sl [[(jI 0)],[(jI 1)]])):=tK (kC Zkm (kC Zkn kN))
theorem Zkp:ZJ X.E (32,[zz3,zzk],(jI 1)):=tK (kC Zko kN)
theorem Zkq:ZJ X.E (39,[(.agg [zze,zza,zzh])],(.bool false)):=t0
theorem Zkr:ZJ X.E (39,[(.agg [zze,zza,zzi])],(.bool true)):=t0
theorem Zks:ZJ X.E (52,[zz4,(jI 0),(jI 112)],(.sl [[(jI 1)]])):=tK (kC Zkq (kC Zkr kN))
theorem Zkt:ZJ X.E (32,[zz4,zzk],(jI 2)):=tK (kC Zks kN)
theorem Zku:ZJ X.E (39,[(.agg [zze,zzb,zzh])],(.bool true)):=t0
theorem Zkv:ZJ X.E (39,[(.agg [zze,zzb,zzi])],(.bool true)):=t0
theorem Zkw:ZJ X.E (52,[zz5,(jI 0),(jI 112)],(.sl [[(jI 0)],[(jI 1)]])):=tK (kC Zku (kC Zkv kN))
theorem Zkx:ZJ X.E (32,[zz5,zzk],(jI 1)):=tK (kC Zkw kN)
theorem Zky:ZJ X.E (39,[(.agg [zze,zzc,zzh])],(.bool false)):=t0
theorem Zkz:ZJ X.E (39,[(.agg [zze,zzc,zzi])],(.bool true)):=t0
theorem ZkA:ZJ X.E (52,[zz6,(jI 0),(jI 112)],(.sl [[(jI 1)]])):=tK (kC Zky (kC Zkz kN))
theorem ZkB:ZJ X.E (32,[zz6,zzk],(jI 2)):=tK (kC ZkA kN)
end Nore
