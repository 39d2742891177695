/- Calls that the examples make, run. -/
import Derived.Test.YtaaalkppbbpacaaGreatDoorK0
set_option linter.unusedSectionVars false
set_option linter.unusedVariables false
set_option linter.unusedSimpArgs false
set_option maxRecDepth 100000
namespace Nore
open Go Go.Ab Go.Proofs Go.Proofs.YtaaalkppbbpacaaGreatDoor
theorem ZiX:Zy X.E (55,[zz0,(.agg [(jI 0),(jI 0)]),(jI 2500)],(.tup [(jI 0),(.agg [(jI 0),(jI (-5))]),(.bool true)])):=t0
theorem ZiY:Zy X.E (55,[zz0,(.agg [(jI 0),(jI 0)]),(jI 1250)],(.tup [(jI 0),(.agg [(jI 0),(jI (-5))]),(.bool true)])):=t0
theorem ZiZ:Zy X.E (55,[zz0,(.agg [(jI 0),(jI 0)]),(jI 625)],(.tup [(jI 0),(.agg [(jI 0),(jI (-5))]),(.bool true)])):=t0
theorem Zj0:Zy X.E (55,[zz0,(.agg [(jI 0),(jI 0)]),(jI 312)],(.tup [(jI 0),(.agg [(jI 0),(jI (-5))]),(.bool true)])):=t0
theorem Zj1:Zy X.E (55,[zz0,(.agg [(jI 0),(jI 0)]),(jI 156)],(.tup [(jI 0),(.agg [(jI 0),(jI (-5))]),(.bool true)])):=t0
theorem Zj2:Zy X.E (55,[zz0,(.agg [(jI 0),(jI 0)]),(jI 78)],(.tup [(jI 0),(.agg [(jI 0),(jI 0)]),(.bool false)])):=Xb3 _ ⟨[⟨⟨#[99,104,117,114,99,104]⟩,⟨3000,4000⟩,[⟨0,1⟩,⟨50,2⟩]⟩,⟨⟨#[109,105,108,108]⟩,⟨-2000,0⟩,[⟨10,3⟩,⟨90,0⟩]⟩],[⟨⟨#[107,110,111,108,108]⟩,[⟨100,0⟩,⟨200,0⟩,⟨200,100⟩,⟨100,100⟩],⟨⟨0,10⟩,⟨-5,5⟩⟩⟩,⟨⟨#[115,112,105,116]⟩,[⟨-300,-300⟩,⟨-100,-400⟩,⟨-200,-200⟩],⟨⟨0,0⟩,⟨0,0⟩⟩⟩]⟩ ⟨0,0⟩ (78) (by kernel_rfl) (by kernel_rfl) (by kernel_rfl) (by kernel_rfl) (by kernel_rfl)
theorem Zj3:Zy X.E (55,[zz0,(.agg [(jI 0),(jI 0)]),(jI 117)],(.tup [(jI 0),(.agg [(jI 0),(jI (-5))]),(.bool true)])):=t0
theorem Zj4:Zy X.E (55,[zz0,(.agg [(jI 0),(jI 0)]),(jI 97)],(.tup [(jI 0),(.agg [(jI 0),(jI 0)]),(.bool false)])):=Xb3 _ ⟨[⟨⟨#[99,104,117,114,99,104]⟩,⟨3000,4000⟩,[⟨0,1⟩,⟨50,2⟩]⟩,⟨⟨#[109,105,108,108]⟩,⟨-2000,0⟩,[⟨10,3⟩,⟨90,0⟩]⟩],[⟨⟨#[107,110,111,108,108]⟩,[⟨100,0⟩,⟨200,0⟩,⟨200,100⟩,⟨100,100⟩],⟨⟨0,10⟩,⟨-5,5⟩⟩⟩,⟨⟨#[115,112,105,116]⟩,[⟨-300,-300⟩,⟨-100,-400⟩,⟨-200,-200⟩],⟨⟨0,0⟩,⟨0,0⟩⟩⟩]⟩ ⟨0,0⟩ (97) (by kernel_rfl) (by kernel_rfl) (by kernel_rfl) (by kernel_rfl) (by kernel_rfl)
theorem Zj5:Zy X.E (55,[zz0,(.agg [(jI 0),(jI 0)]),(jI 107)],(.tup [(jI 0),(.agg [(jI 0),(jI (-5))]),(.bool true)])):=t0
theorem Zj6:Zy X.E (55,[zz0,(.agg [(jI 0),(jI 0)]),(jI 102)],(.tup [(jI 0),(.agg [(jI 0),(jI (-5))]),(.bool true)])):=t0
theorem Zj7:Zy X.E (55,[zz0,(.agg [(jI 0),(jI 0)]),(jI 99)],(.tup [(jI 0),(.agg [(jI 0),(jI 0)]),(.bool false)])):=Xb3 _ ⟨[⟨⟨#[99,104,117,114,99,104]⟩,⟨3000,4000⟩,[⟨0,1⟩,⟨50,2⟩]⟩,⟨⟨#[109,105,108,108]⟩,⟨-2000,0⟩,[⟨10,3⟩,⟨90,0⟩]⟩],[⟨⟨#[107,110,111,108,108]⟩,[⟨100,0⟩,⟨200,0⟩,⟨200,100⟩,⟨100,100⟩],⟨⟨0,10⟩,⟨-5,5⟩⟩⟩,⟨⟨#[115,112,105,116]⟩,[⟨-300,-300⟩,⟨-100,-400⟩,⟨-200,-200⟩],⟨⟨0,0⟩,⟨0,0⟩⟩⟩]⟩ ⟨0,0⟩ (99) (by kernel_rfl) (by kernel_rfl) (by kernel_rfl) (by kernel_rfl) (by kernel_rfl)
end Nore
