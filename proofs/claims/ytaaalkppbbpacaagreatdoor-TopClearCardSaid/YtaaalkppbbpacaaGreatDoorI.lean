/- Calls that find nothing, by the plain law. -/
import Derived.Test.YtaaalkppbbpacaaGreatDoorC1
import Derived.Test.YtaaalkppbbpacaaGreatDoorP
import Derived.Test.YtaaalkppbbpacaaGreatDoorT2
import Derived.KernelRfl
set_option linter.unusedSectionVars false
set_option linter.unusedVariables false
set_option linter.unusedSimpArgs false
namespace Nore
open Go Go.Ab Go.Proofs Go.Proofs.YtaaalkppbbpacaaGreatDoor
theorem X6u (a:List DV) (c:Zp) (at_:Point) (r:Int) (he:Z3x X.T [.st 8,.st 2,.int .i64] (c,at_,r,())=a) (hc:(WW c).2.2=0) (hb:X2f 10000 at_=false) (hr:(decide (1≤r)&&decide (r≤5000))=true) (h:X47 c at_ r=false) :
  Zy X.E (55,a,.tup [.int .i64 0,.agg [.int .i64 0,.int .i64 0],.bool false]):=by
 simp only[Bool.and_eq_true,decide_eq_true_eq]at hr;obtain⟨i,mv,h1,h2⟩:=X37 c at_ r hc ((X45 _ _).1 hb) hr;obtain⟨rfl,rfl⟩:=h2 h;obtain⟨N,hN⟩:=X36 (c,at_,r,()) ((0:Int),(⟨0,0⟩:Point),false) (by show X23 c at_ r=_;rw[h1,h];rfl)
 refine⟨N,?_⟩;have:=hN N (Nat.le_refl _);subst he;exact this
abbrev zza:DV:=.sl [[(.int .i64 (100)),(.int .i64 (0))],[(.int .i64 (101)),(.int .i64 (0))]]
abbrev zz9:DV:=.agg [(.int .i64 (0)),(.int .i64 (8)),(.int .i64 (1)),(.int .i64 (100)),(.int .i64 (101)),(.int .i64 (0)),(.int .i64 (0))]
abbrev zz8:DV:=.sl [[(.int .i64 (0)),(.int .i64 (0))],[(.int .i64 (1)),(.int .i64 (0))],[(.int .i64 (2)),(.int .i64 (0))],[(.int .i64 (3)),(.int .i64 (0))]]
abbrev zz7:DV:=.agg [(.str ⟨#[109,105,108,108]⟩),(.int .i64 (-2000)),(.int .i64 (0)),(.sl [[(.int .i64 (10)),(.int .i64 (3))],[(.int .i64 (90)),(.int .i64 (0))]])]
abbrev zz6:DV:=.agg [(.str ⟨#[99,104,117,114,99,104]⟩),(.int .i64 (3000)),(.int .i64 (4000)),(.sl [[(.int .i64 (0)),(.int .i64 (1))],[(.int .i64 (50)),(.int .i64 (2))]])]
abbrev zz5:DV:=.sl [[(.int .i64 (0)),(.int .i64 (8)),(.int .i64 (1)),(.int .i64 (100)),(.int .i64 (101)),(.int .i64 (0)),(.int .i64 (0))],[(.int .i64 (120)),(.int .i64 (8)),(.int .i64 (1)),(.int .i64 (104)),(.int .i64 (105)),(.int .i64 (0)),(.int .i64 (0))]]
abbrev zz4:DV:=.sl [[(.int .i64 (0)),(.int .i64 (8)),(.int .i64 (1)),(.int .i64 (100)),(.int .i64 (101)),(.int .i64 (0)),(.int .i64 (0))],[(.int .i64 (60)),(.int .i64 (24)),(.int .i64 (1)),(.int .i64 (-98)),(.int .i64 (-97)),(.int .i64 (0)),(.int .i64 (0))]]
abbrev zz3:DV:=.agg [(.sl []),(.sl [[(.str ⟨#[107,110,111,108,108]⟩),(.sl [[(.int .i64 (100)),(.int .i64 (0))],[(.int .i64 (120)),(.int .i64 (0))],[(.int .i64 (120)),(.int .i64 (20))],[(.int .i64 (100)),(.int .i64 (20))]]),(.int .i64 (0)),(.int .i64 (0)),(.int .i64 (-5)),(.int .i64 (5))]])]
abbrev zz2:DV:=.sl [[(.int .i64 (0)),(.int .i64 (8)),(.int .i64 (1)),(.int .i64 (100)),(.int .i64 (101)),(.int .i64 (0)),(.int .i64 (0))],[(.int .i64 (60)),(.int .i64 (24)),(.int .i64 (1)),(.int .i64 (-98)),(.int .i64 (-97)),(.int .i64 (0)),(.int .i64 (0))],[(.int .i64 (120)),(.int .i64 (8)),(.int .i64 (1)),(.int .i64 (104)),(.int .i64 (105)),(.int .i64 (0)),(.int .i64 (0))]]
abbrev zz1:DV:=.agg [(.sl []),(.sl [[(.str ⟨#[107,110,111,108,108]⟩),(.sl [[(.int .i64 (100)),(.int .i64 (0))],[(.int .i64 (120)),(.int .i64 (0))],[(.int .i64 (120)),(.int .i64 (20))],[(.int .i64 (100)),(.int .i64 (20))]]),(.int .i64 (0)),(.int .i64 (0)),(.int .i64 (-5)),(.int .i64 (5))]]),(.int .i64 (0)),(.int .i64 (4)),(.int .i64 (0)),(.int .i64 (0)),(.int .i64 (95)),(.int .i64 (100)),(.int .i64 (150))]
abbrev zz0:DV:=.agg [(.sl [[(.str ⟨#[99,104,117,114,99,104]⟩),(.int .i64 (3000)),(.int .i64 (4000)),(.sl [[(.int .i64 (0)),(.int .i64 (1))],[(.int .i64 (50)),(.int .i64 (2))]])],[(.str ⟨#[109,105,108,108]⟩),(.int .i64 (-2000)),(.int .i64 (0)),(.sl [[(.int .i64 (10)),(.int .i64 (3))],[(.int .i64 (90)),(.int .i64 (0))]])]]),(.sl [[(.str ⟨#[107,110,111,108,108]⟩),(.sl [[(.int .i64 (100)),(.int .i64 (0))],[(.int .i64 (200)),(.int .i64 (0))],[(.int .i64 (200)),(.int .i64 (100))],[(.int .i64 (100)),(.int .i64 (100))]]),(.int .i64 (0)),(.int .i64 (10)),(.int .i64 (-5)),(.int .i64 (5))],[(.str ⟨#[115,112,105,116]⟩),(.sl [[(.int .i64 (-300)),(.int .i64 (-300))],[(.int .i64 (-100)),(.int .i64 (-400))],[(.int .i64 (-200)),(.int .i64 (-200))]]),(.int .i64 (0)),(.int .i64 (0)),(.int .i64 (0)),(.int .i64 (0))]])]
end Nore
