/- Calls that the examples make, run. -/
import Derived.Test.YtfiegoekphpjlaaGreatDoorY
import Derived.Test.YtfiegoekphpjlaaGreatDoorT2
import Derived.KernelRfl
set_option linter.unusedSectionVars false
set_option linter.unusedVariables false
set_option linter.unusedSimpArgs false
set_option maxRecDepth 100000
namespace Nore
open Go Go.Ab Go.Proofs Go.Proofs.YtfiegoekphpjlaaGreatDoor
abbrev jI (n:Int):DV:=.int .i64 n
theorem kN:∀e∈([]:List (Nat×List DV×DV)),ZH X.E e:=fun _ h=>by cases h
theorem kC {a:Nat×List DV×DV} {l:List (Nat×List DV×DV)} (h:ZH X.E a) (t:∀e∈l,ZH X.E e):∀e∈a::l,ZH X.E e:=fun e he=>by
 rcases List.mem_cons.1 he with q|q
 ·exact q▸h
 ·exact t e q
theorem tK {l:List (Nat×List DV×DV)} (hl:∀e∈l,ZH X.E e) {f:Nat} {xs:List DV} {d:DV} (h:Zlp X.E l 60 f xs=some d:=by kernel_rfl):ZH X.E (f,xs,d):=Zgi hl h
theorem t0 {f:Nat} {xs:List DV} {d:DV} (h:evF X.E 60 f xs=some d:=by kernel_rfl):ZH X.E (f,xs,d):=⟨60,h⟩
abbrev zzk:DV:=.agg [(jI 0),(jI 1),(jI 112),(jI 112)]
abbrev zzj:DV:=.sl [[(jI 1),(jI 2),(jI 124),(jI 124)]]
abbrev zzi:DV:=.sl [[(jI 0),(jI 1),(jI 112),(jI 112)]]
abbrev zzh:DV:=.sl [[(jI 0),(jI 0),(jI 112),(jI 112)]]
abbrev zzg:DV:=.sl [[(jI 0),(jI 1),(jI 118),(jI 119)]]
abbrev zzf:DV:=.agg [(.sl [[(.str ⟨#[108,97,109,112]⟩),(jI 2),(jI 0)]]),(.sl [])]
abbrev zze:DV:=.sl [[(.str ⟨#[108,97,109,112]⟩),(jI 2),(jI 0)],[(.str ⟨#[119,97,116,99,104]⟩),(jI 3),(jI 0)]]
abbrev zzd:DV:=.sl [[(jI 0),(jI 1),(jI 118),(jI 119)],[(jI 1),(jI 2),(jI 0),(jI 124)]]
abbrev zzc:DV:=.sl [[(jI 0),(jI 1),(jI 100),(jI 110)],[(jI 1),(jI 1),(jI 105),(jI 120)],[(jI 0),(jI 0),(jI 115),(jI 130)],[(jI 1),(jI 2),(jI 0),(jI 9999)]]
abbrev zzb:DV:=.sl [[(jI 0),(jI 1),(jI 100),(jI 110)],[(jI 1),(jI 1),(jI 105),(jI 120)],[(jI 0),(jI 0),(jI 0),(jI 9999)],[(jI 1),(jI 2),(jI 125),(jI 125)]]
abbrev zza:DV:=.sl [[(jI 0),(jI 1),(jI 100),(jI 110)],[(jI 1),(jI 1),(jI 0),(jI 9999)],[(jI 0),(jI 0),(jI 115),(jI 130)],[(jI 1),(jI 2),(jI 125),(jI 125)]]
abbrev zz9:DV:=.sl [[(jI 0),(jI 1),(jI 0),(jI 9999)],[(jI 1),(jI 1),(jI 105),(jI 120)],[(jI 0),(jI 0),(jI 115),(jI 130)],[(jI 1),(jI 2),(jI 125),(jI 125)]]
abbrev zz8:DV:=.sl [[(jI 0),(jI 1),(jI 100),(jI 110)],[(jI 1),(jI 1),(jI 105),(jI 120)],[(jI 0),(jI 0),(jI 115),(jI 130)],[(jI 1),(jI 2),(jI 125),(jI 125)]]
abbrev zz7:DV:=.agg [zze,zz8]
abbrev zz6:DV:=.agg [zze,zzc,(.sl [])]
abbrev zz5:DV:=.agg [zze,zzb,(.sl [])]
abbrev zz4:DV:=.agg [zze,zza,(.sl [])]
abbrev zz3:DV:=.agg [zze,zz9,(.sl [])]
abbrev zz2:DV:=.agg [zze,zz8,(.sl [])]
abbrev zz1:DV:=.agg [zze,zz8,zzg]
abbrev zz0:DV:=.agg [zze,zz8,zzd]
theorem kn0:ZH X.E (14,[zz7],(.tup [(jI 0),(jI 0),(jI 0)])):=t0
theorem kn1:ZH X.E (94,[zz7,zzg],(.tup [(jI 0),(jI 0)])):=tK (kC kn0 kN)
theorem kn2:ZH X.E (70,[zz7,zzg],(.tup [zz1,(jI 0)])):=tK (kC kn1 kN)
theorem kn3:ZH X.E (33,[zz7,zzg],(.tup [(.sl [[(jI 100),(jI 110)],[(jI 105),(jI 120)],[(jI 119),(jI 125)],[(jI 125),(jI 125)]]),(jI 0)])):=tK (kC kn2 kN)
theorem kn4:ZH X.E (94,[zz7,(.sl [])],(.tup [(jI 0),(jI 0)])):=tK (kC kn0 kN)
theorem kn5:ZH X.E (70,[zz7,(.sl [])],(.tup [zz2,(jI 0)])):=tK (kC kn4 kN)
theorem kn6:ZH X.E (73,[zz2],(.bool true)):=t0
theorem kn7:ZH X.E (73,[(.agg [zze,zz8,(.sl [[(jI 0),(jI 0),(jI 118),(jI 118)]])])],(.bool true)):=t0
theorem kn8:ZH X.E (73,[(.agg [zze,zz8,(.sl [[(jI 0),(jI 1),(jI 118),(jI 118)]])])],(.bool true)):=t0
theorem kn9:ZH X.E (74,[zz2,(jI 0),(jI 118)],(.sl [[(jI 0)],[(jI 1)]])):=tK (kC kn7 (kC kn8 kN))
theorem ZlT:ZH X.E (36,[zz7,(.sl []),(jI 0),(jI 118)],(.tup [(.sl [[(jI 0)],[(jI 1)]]),(jI 0)])):=tK (kC kn5 (kC kn6 (kC kn9 kN)))
theorem ZlA:ZH X.E (75,[zz7,(.sl []),zzk],(.tup [zz2,(jI 0)])):=tK (kC kn5 (kC kn6 kN))
theorem ZlU:ZH X.E (73,[(.agg [zze,zz8,zzh])],(.bool false)):=t0
theorem ZlV:ZH X.E (73,[(.agg [zze,zz8,zzi])],(.bool true)):=t0
theorem ZlW:ZH X.E (74,[zz2,(jI 0),(jI 112)],(.sl [[(jI 1)]])):=tK (kC ZlU (kC ZlV kN))
theorem ZlB:ZH X.E (76,[zz2,zzk],(jI 2)):=tK (kC ZlW kN)
end Nore
