/- Calls that the examples make, run. -/
import Derived.Test.YtfiegoekphpjlaaGreatDoorK0
set_option linter.unusedSectionVars false
set_option linter.unusedVariables false
set_option linter.unusedSimpArgs false
set_option maxRecDepth 100000
namespace Nore
open Go Go.Ab Go.Proofs Go.Proofs.YtfiegoekphpjlaaGreatDoor
theorem ZlX:ZH X.E (37,[zz7,(.sl []),zzk],(.tup [(jI 2),(jI 0)])):=tK (kC ZlA (kC ZlB kN))
theorem ZlY:ZH X.E (73,[(.agg [zze,zz9,zzh])],(.bool true)):=t0
theorem ZlZ:ZH X.E (73,[(.agg [zze,zz9,zzi])],(.bool true)):=t0
theorem Zm0:ZH X.E (74,[zz3,(jI 0),(jI 112)],(.sl [[(jI 0)],[(jI 1)]])):=tK (kC ZlY (kC ZlZ kN))
theorem Zm1:ZH X.E (76,[zz3,zzk],(jI 1)):=tK (kC Zm0 kN)
theorem Zm2:ZH X.E (73,[(.agg [zze,zza,zzh])],(.bool false)):=t0
theorem Zm3:ZH X.E (73,[(.agg [zze,zza,zzi])],(.bool true)):=t0
theorem Zm4:ZH X.E (74,[zz4,(jI 0),(jI 112)],(.sl [[(jI 1)]])):=tK (kC Zm2 (kC Zm3 kN))
theorem Zm5:ZH X.E (76,[zz4,zzk],(jI 2)):=tK (kC Zm4 kN)
theorem Zm6:ZH X.E (73,[(.agg [zze,zzb,zzh])],(.bool true)):=t0
theorem Zm7:ZH X.E (73,[(.agg [zze,zzb,zzi])],(.bool true)):=t0
theorem Zm8:ZH X.E (74,[zz5,(jI 0),(jI 112)],(.sl [[(jI 0)],[(jI 1)]])):=tK (kC Zm6 (kC Zm7 kN))
theorem Zm9:ZH X.E (76,[zz5,zzk],(jI 1)):=tK (kC Zm8 kN)
theorem Zma:ZH X.E (73,[(.agg [zze,zzc,zzh])],(.bool false)):=t0
theorem Zmb:ZH X.E (73,[(.agg [zze,zzc,zzi])],(.bool true)):=t0
theorem Zmc:ZH X.E (74,[zz6,(jI 0),(jI 112)],(.sl [[(jI 1)]])):=tK (kC Zma (kC Zmb kN))
theorem Zmd:ZH X.E (76,[zz6,zzk],(jI 2)):=tK (kC Zmc kN)
end Nore
