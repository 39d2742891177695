/- Calls that the examples make, run. -/
import Derived.Test.YtaaalkppbbpacaaGreatDoorK9
set_option linter.unusedSectionVars false
set_option linter.unusedVariables false
set_option linter.unusedSimpArgs false
set_option maxRecDepth 100000
namespace Nore
open Go Go.Ab Go.Proofs Go.Proofs.YtaaalkppbbpacaaGreatDoor
theorem Zjw:Zy X.E (55,[zz0,(.agg [(.int .i64 (0)),(.int .i64 (0))]),(.int .i64 (2500))],(.tup [(.int .i64 (0)),(.agg [(.int .i64 (0)),(.int .i64 (-5))]),(.bool true)])):=⟨60,by kernel_rfl⟩
theorem Zjx:Zy X.E (55,[zz0,(.agg [(.int .i64 (0)),(.int .i64 (0))]),(.int .i64 (1250))],(.tup [(.int .i64 (0)),(.agg [(.int .i64 (0)),(.int .i64 (-5))]),(.bool true)])):=⟨60,by kernel_rfl⟩
theorem Zjy:Zy X.E (55,[zz0,(.agg [(.int .i64 (0)),(.int .i64 (0))]),(.int .i64 (625))],(.tup [(.int .i64 (0)),(.agg [(.int .i64 (0)),(.int .i64 (-5))]),(.bool true)])):=⟨60,by kernel_rfl⟩
theorem Zjz:Zy X.E (55,[zz0,(.agg [(.int .i64 (0)),(.int .i64 (0))]),(.int .i64 (312))],(.tup [(.int .i64 (0)),(.agg [(.int .i64 (0)),(.int .i64 (-5))]),(.bool true)])):=⟨60,by kernel_rfl⟩
theorem ZjA:Zy X.E (55,[zz0,(.agg [(.int .i64 (0)),(.int .i64 (0))]),(.int .i64 (156))],(.tup [(.int .i64 (0)),(.agg [(.int .i64 (0)),(.int .i64 (-5))]),(.bool true)])):=⟨60,by kernel_rfl⟩
theorem ZjB:Zy X.E (55,[zz0,(.agg [(.int .i64 (0)),(.int .i64 (0))]),(.int .i64 (78))],(.tup [(.int .i64 (0)),(.agg [(.int .i64 (0)),(.int .i64 (0))]),(.bool false)])):=X6u _ ⟨[⟨⟨#[99,104,117,114,99,104]⟩,⟨3000,4000⟩,[⟨0,1⟩,⟨50,2⟩]⟩,⟨⟨#[109,105,108,108]⟩,⟨-2000,0⟩,[⟨10,3⟩,⟨90,0⟩]⟩],[⟨⟨#[107,110,111,108,108]⟩,[⟨100,0⟩,⟨200,0⟩,⟨200,100⟩,⟨100,100⟩],⟨⟨0,10⟩,⟨-5,5⟩⟩⟩,⟨⟨#[115,112,105,116]⟩,[⟨-300,-300⟩,⟨-100,-400⟩,⟨-200,-200⟩],⟨⟨0,0⟩,⟨0,0⟩⟩⟩]⟩ ⟨0,0⟩ (78) (by kernel_rfl) (by kernel_rfl) (by kernel_rfl) (by kernel_rfl) (by kernel_rfl)
theorem ZjC:Zy X.E (55,[zz0,(.agg [(.int .i64 (0)),(.int .i64 (0))]),(.int .i64 (117))],(.tup [(.int .i64 (0)),(.agg [(.int .i64 (0)),(.int .i64 (-5))]),(.bool true)])):=⟨60,by kernel_rfl⟩
theorem ZjD:Zy X.E (55,[zz0,(.agg [(.int .i64 (0)),(.int .i64 (0))]),(.int .i64 (97))],(.tup [(.int .i64 (0)),(.agg [(.int .i64 (0)),(.int .i64 (0))]),(.bool false)])):=X6u _ ⟨[⟨⟨#[99,104,117,114,99,104]⟩,⟨3000,4000⟩,[⟨0,1⟩,⟨50,2⟩]⟩,⟨⟨#[109,105,108,108]⟩,⟨-2000,0⟩,[⟨10,3⟩,⟨90,0⟩]⟩],[⟨⟨#[107,110,111,108,108]⟩,[⟨100,0⟩,⟨200,0⟩,⟨200,100⟩,⟨100,100⟩],⟨⟨0,10⟩,⟨-5,5⟩⟩⟩,⟨⟨#[115,112,105,116]⟩,[⟨-300,-300⟩,⟨-100,-400⟩,⟨-200,-200⟩],⟨⟨0,0⟩,⟨0,0⟩⟩⟩]⟩ ⟨0,0⟩ (97) (by kernel_rfl) (by kernel_rfl) (by kernel_rfl) (by kernel_rfl) (by kernel_rfl)
theorem ZjE:Zy X.E (55,[zz0,(.agg [(.int .i64 (0)),(.int .i64 (0))]),(.int .i64 (107))],(.tup [(.int .i64 (0)),(.agg [(.int .i64 (0)),(.int .i64 (-5))]),(.bool true)])):=⟨60,by kernel_rfl⟩
theorem ZjF:Zy X.E (55,[zz0,(.agg [(.int .i64 (0)),(.int .i64 (0))]),(.int .i64 (102))],(.tup [(.int .i64 (0)),(.agg [(.int .i64 (0)),(.int .i64 (-5))]),(.bool true)])):=⟨60,by kernel_rfl⟩
theorem ZjG:Zy X.E (55,[zz0,(.agg [(.int .i64 (0)),(.int .i64 (0))]),(.int .i64 (99))],(.tup [(.int .i64 (0)),(.agg [(.int .i64 (0)),(.int .i64 (0))]),(.bool false)])):=X6u _ ⟨[⟨⟨#[99,104,117,114,99,104]⟩,⟨3000,4000⟩,[⟨0,1⟩,⟨50,2⟩]⟩,⟨⟨#[109,105,108,108]⟩,⟨-2000,0⟩,[⟨10,3⟩,⟨90,0⟩]⟩],[⟨⟨#[107,110,111,108,108]⟩,[⟨100,0⟩,⟨200,0⟩,⟨200,100⟩,⟨100,100⟩],⟨⟨0,10⟩,⟨-5,5⟩⟩⟩,⟨⟨#[115,112,105,116]⟩,[⟨-300,-300⟩,⟨-100,-400⟩,⟨-200,-200⟩],⟨⟨0,0⟩,⟨0,0⟩⟩⟩]⟩ ⟨0,0⟩ (99) (by kernel_rfl) (by kernel_rfl) (by kernel_rfl) (by kernel_rfl) (by kernel_rfl)
end Nore
