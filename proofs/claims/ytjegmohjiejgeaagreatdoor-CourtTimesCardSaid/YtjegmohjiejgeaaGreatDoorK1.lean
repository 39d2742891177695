/- Calls that the examples make, run. -/
import Derived.Test.YtjegmohjiejgeaaGreatDoorK0
set_option linter.unusedSectionVars false
set_option linter.unusedVariables false
set_option linter.unusedSimpArgs false
set_option maxRecDepth 100000
namespace Nore
open Go Go.Ab Go.Proofs Go.Proofs.YtjegmohjiejgeaaGreatDoor
theorem Zkh:ZG X.E (40,[zz7,(.sl []),zzk],(.tup [(jI 2),(jI 0)])):=tK (kC ZjV (kC ZjW kN))
theorem Zki:ZG X.E (30,[(.agg [zze,zz9,zzh])],(.bool true)):=t0
theorem Zkj:ZG X.E (30,[(.agg [zze,zz9,zzi])],(.bool true)):=t0
theorem Zkk:ZG X.E (64,[zz3,(jI 0),(jI 112)],(.sl [[(jI 0)],[(jI 1)]])):=tK (kC Zki (kC Zkj kN))
theorem Zkl:ZG X.E (66,[zz3,zzk],(jI 1)):=tK (kC Zkk kN)
theorem Zkm:ZG X.E (30,[(.agg [zze,zza,zzh])],(.bool false)):=t0
theorem Zkn:ZG X.E (30,[(.agg [zze,zza,zzi])],(.bool true)):=t0
theorem Zko:ZG X.E (64,[zz4,(jI 0),(jI 112)],(.sl [[(jI 1)]])):=tK (kC Zkm (kC Zkn kN))
theorem Zkp:ZG X.E (66,[zz4,zzk],(jI 2)):=tK (kC Zko kN)
theorem Zkq:ZG X.E (30,[(.agg [zze,zzb,zzh])],(.bool true)):=t0
theorem Zkr:ZG X.E (30,[(.agg [zze,zzb,zzi])],(.bool true)):=t0
theorem Zks:ZG X.E (64,[zz5,(jI 0),(jI 112)],(.sl [[(jI 0)],[(jI 1)]])):=tK (kC Zkq (kC Zkr kN))
theorem Zkt:ZG X.E (66,[zz5,zzk],(jI 1)):=tK (kC Zks kN)
theorem Zku:ZG X.E (30,[(.agg [zze,zzc,zzh])],(.bool false)):=t0
theorem Zkv:ZG X.E (30,[(.agg [zze,zzc,zzi])],(.bool true)):=t0
theorem Zkw:ZG X.E (64,[zz6,(jI 0),(jI 112)],(.sl [[(jI 1)]])):=tK (kC Zku (kC Zkv kN))
theorem Zkx:ZG X.E (66,[zz6,zzk],(jI 2)):=tK (kC Zkw kN)
end Nore
