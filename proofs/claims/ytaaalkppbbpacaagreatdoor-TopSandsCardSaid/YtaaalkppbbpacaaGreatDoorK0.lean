/- Calls that the examples make, run. -/
import Derived.Test.YtaaalkppbbpacaaGreatDoorY
import Derived.Test.YtaaalkppbbpacaaGreatDoorT2
import Derived.KernelRfl
import Derived.Test.YtaaalkppbbpacaaGreatDoorI
set_option linter.unusedSectionVars false
set_option linter.unusedVariables false
set_option linter.unusedSimpArgs false
set_option maxRecDepth 100000
namespace Nore
open Go Go.Ab Go.Proofs Go.Proofs.YtaaalkppbbpacaaGreatDoor
theorem kn0:Zy X.E (25,[(jI 31)],(.tup [(.agg [(jI (-195)),(jI 981)]),(jI 0)])):=t0
theorem kn1:Zy X.E (26,[],zz0):=t0
theorem kn2:Zy X.E (92,[zz0],(.tup [(jI 0),(jI 0),(jI 0)])):=t0
theorem kn3:Zy X.E (53,[zz0,(.agg [(jI 150),(jI 50)])],(jI 0)):=tK (kC kn2 kN)
theorem kn4:Zy X.E (17,[zz0,(.agg [(jI 150),(jI 50)])],(.tup [(.sl [[(jI 0)]]),(.sl [[(jI 0)]]),(jI 0)])):=tK (kC kn3 kN)
theorem kn5:Zy X.E (53,[zz0,(.agg [(jI 205),(jI 50)])],(jI 0)):=tK (kC kn2 kN)
theorem kn6:Zy X.E (17,[zz0,(.agg [(jI 205),(jI 50)])],(.tup [(.sl []),(.sl [[(jI 0)]]),(jI 0)])):=tK (kC kn5 kN)
theorem kn7:Zy X.E (53,[zz0,(.agg [(jI 0),(jI 0)])],(jI 0)):=tK (kC kn2 kN)
theorem kn8:Zy X.E (55,[zz0,(.agg [(jI 0),(jI 0)]),(jI 101)],(.tup [(jI 0),(.agg [(jI 0),(jI (-5))]),(.bool true)])):=t0
theorem kn9:Zy X.E (9,[zz0,(.agg [(jI 0),(jI 0)]),(jI 101)],(.tup [(jI 0),(.agg [(jI 0),(jI (-5))]),(jI 0)])):=tK (kC kn7 (kC kn8 kN))
theorem ZiE:Zy X.E (55,[zz0,(.agg [(jI 0),(jI 0)]),(jI 100)],(.tup [(jI 0),(.agg [(jI 0),(jI 0)]),(.bool false)])):=Xb3 _ ⟨[⟨⟨#[99,104,117,114,99,104]⟩,⟨3000,4000⟩,[⟨0,1⟩,⟨50,2⟩]⟩,⟨⟨#[109,105,108,108]⟩,⟨-2000,0⟩,[⟨10,3⟩,⟨90,0⟩]⟩],[⟨⟨#[107,110,111,108,108]⟩,[⟨100,0⟩,⟨200,0⟩,⟨200,100⟩,⟨100,100⟩],⟨⟨0,10⟩,⟨-5,5⟩⟩⟩,⟨⟨#[115,112,105,116]⟩,[⟨-300,-300⟩,⟨-100,-400⟩,⟨-200,-200⟩],⟨⟨0,0⟩,⟨0,0⟩⟩⟩]⟩ ⟨0,0⟩ (100) (by kernel_rfl) (by kernel_rfl) (by kernel_rfl) (by kernel_rfl) (by kernel_rfl)
theorem ZiW:Zy X.E (9,[zz0,(.agg [(jI 0),(jI 0)]),(jI 100)],(.tup [(jI 0),(.agg [(jI 0),(jI 0)]),(jI 4)])):=tK (kC kn7 (kC ZiE kN))
end Nore
