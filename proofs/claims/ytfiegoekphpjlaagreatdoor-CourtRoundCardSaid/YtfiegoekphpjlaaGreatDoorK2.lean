/- Calls that the examples make, run. -/
import Derived.Test.YtfiegoekphpjlaaGreatDoorK1
set_option linter.unusedSectionVars false
set_option linter.unusedVariables false
set_option linter.unusedSimpArgs false
set_option maxRecDepth 100000
namespace Nore
open Go Go.Ab Go.Proofs Go.Proofs.YtfiegoekphpjlaaGreatDoor
theorem Zme:ZH X.E (39,[zz7,(.sl []),zzk],(.tup [(.sl [[(jI 0)],[(jI 2)]]),(jI 0)])):=tK (kC ZlA (kC ZlB (kC Zm1 (kC Zm5 (kC Zm9 (kC Zmd kN))))))
theorem Zmf:ZH X.E (94,[zz7,zzd],(.tup [(jI 0),(jI 0)])):=tK (kC kn0 kN)
theorem Zmg:ZH X.E (70,[zz7,zzd],(.tup [zz0,(jI 0)])):=tK (kC Zmf kN)
theorem Zmh:ZH X.E (73,[zz0],(.bool false)):=t0
theorem Zmi:ZH X.E (73,[(.agg [zze,zz8,(.sl [[(jI 1),(jI 2),(jI 0),(jI 124)]])])],(.bool false)):=t0
theorem Zmj:ZH X.E (73,[zz1],(.bool true)):=t0
theorem Zmk:ZH X.E (40,[zz7,zzd],(.tup [(.sl [[(jI 1)]]),(jI 0)])):=tK (kC Zmg (kC Zmh (kC Zmi (kC Zmj kN))))
theorem Zml:ZH X.E (14,[zzf],(.tup [(jI 0),(jI 0),(jI 0)])):=t0
theorem Zmm:ZH X.E (15,[zzf],(.str ⟨#[100,101,118,105,99,101,32,108,97,109,112,32,50,32,48,32,52,56,48,52,53,10]⟩)):=t0
theorem Zmn:ZH X.E (5,[zzf],(.tup [(.str ⟨#[100,101,118,105,99,101,32,108,97,109,112,32,50,32,48,32,52,56,48,52,53,10]⟩),(jI 0)])):=tK (kC Zml (kC Zmm kN))
theorem Zmo:ZH X.E (7,[(.str ⟨#[100,101,118,105,99,101,32,108,97,109,112,32,50,32,48,32,52,56,48,52,53,10]⟩)],(.tup [zzf,(jI 0)])):=t0
theorem Zmp:ZH X.E (10,[(.str ⟨#[100,101,118,105,99,101,32,108,97,109,113,32,50,32,48,32,52,56,48,52,53,10]⟩)],(.tup [(jI 1),(jI 0)])):=t0
theorem Zmq:ZH X.E (94,[zz7,zzj],(.tup [(jI 0),(jI 0)])):=tK (kC kn0 kN)
theorem Zmr:ZH X.E (70,[zz7,zzj],(.tup [(.agg [zze,zz8,zzj]),(jI 0)])):=tK (kC Zmq kN)
theorem Zms:ZH X.E (33,[zz7,zzj],(.tup [(.sl []),(jI 9)])):=tK (kC Zmr kN)
theorem Zmt:ZH X.E (12,[],(.bool true)):=tK (kC kn3 (kC ZlT (kC ZlX (kC Zme (kC Zmk (kC Zmn (kC Zmo (kC Zmp (kC Zms kN)))))))))
theorem ZgK:ZH X.E (12,[],.bool true):=Zmt
end Nore
