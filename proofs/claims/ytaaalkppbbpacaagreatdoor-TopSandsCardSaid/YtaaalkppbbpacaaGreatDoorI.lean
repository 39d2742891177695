/- Calls that find nothing, by the plain law. -/
import Derived.Test.YtaaalkppbbpacaaGreatDoorC1
import Derived.Test.YtaaalkppbbpacaaGreatDoorP2
import Derived.Test.YtaaalkppbbpacaaGreatDoorT2
import Derived.KernelRfl
set_option linter.unusedSectionVars false
set_option linter.unusedVariables false
set_option linter.unusedSimpArgs false
namespace Nore
open Go Go.Ab Go.Proofs Go.Proofs.YtaaalkppbbpacaaGreatDoor
theorem Xb3 (a:List DV) (c:Zo) (at_:Point) (r:Int) (he:Z3A X.T [.st 8,.st 2,.int .i64] (c,at_,r,())=a) (hc:(X2g c).2.2=0) (hb:X3g 10000 at_=false) (hr:(decide (1<=r)&&decide (r<=5000))=true) (h:X9z c at_ r=false) :
  Zy X.E (55,a,.tup [.int .i64 0,.agg [.int .i64 0,.int .i64 0],.bool false]):=by
 simp only[Bool.and_eq_true,decide_eq_true_eq]at hr;obtain⟨i,mv,h1,h2⟩:=X7O c at_ r hc ((X5M _ _).1 hb) hr;obtain⟨rfl,rfl⟩:=h2 h;obtain⟨N,hN⟩:=X7N (c,at_,r,()) ((0:Int),(⟨0,0⟩:Point),false) (by show X5e c at_ r=_;rw[h1,h];rfl)
 refine⟨N,?_⟩;have:=hN N (Nat.le_refl _);subst he;exact this
abbrev jI (n:Int):DV:=.int .i64 n
theorem kN:∀e∈([]:List (Nat×List DV×DV)),Zy X.E e:=fun _ h=>by cases h
theorem kC {a:Nat×List DV×DV} {l:List (Nat×List DV×DV)} (h:Zy X.E a) (t:∀e∈l,Zy X.E e):∀e∈a::l,Zy X.E e:=fun e he=>by
 rcases List.mem_cons.1 he with q|q
 ·exact q▸h
 ·exact t e q
theorem tK {l:List (Nat×List DV×DV)} (hl:∀e∈l,Zy X.E e) {f:Nat} {xs:List DV} {d:DV} (h:ZiQ X.E l 60 f xs=some d:=by kernel_rfl):Zy X.E (f,xs,d):=Ziu hl h
theorem t0 {f:Nat} {xs:List DV} {d:DV} (h:evF X.E 60 f xs=some d:=by kernel_rfl):Zy X.E (f,xs,d):=⟨60,h⟩
abbrev zz7:DV:=.sl [[(jI 0),(jI 0),(jI 8),(jI 0)]]
abbrev zz6:DV:=.agg [(.str ⟨#[109,105,108,108]⟩),(jI 0),(jI 1000),(.sl [[(jI 0),(jI 1)]])]
abbrev zz5:DV:=.agg [(.str ⟨#[99,104,117,114,99,104]⟩),(jI 1000),(jI 0),(.sl [[(jI 0),(jI 1)]])]
abbrev zz4:DV:=.agg [(.str ⟨#[109,105,108,108]⟩),(jI (-2000)),(jI 0),(.sl [[(jI 10),(jI 3)],[(jI 90),(jI 0)]])]
abbrev zz3:DV:=.agg [(.str ⟨#[99,104,117,114,99,104]⟩),(jI 3000),(jI 4000),(.sl [[(jI 0),(jI 1)],[(jI 50),(jI 2)]])]
abbrev zz2:DV:=.agg [(.sl [[(.str ⟨#[99,104,117,114,99,104]⟩),(jI 1000),(jI 0),(.sl [[(jI 0),(jI 1)]])],[(.str ⟨#[109,105,108,108]⟩),(jI 0),(jI 1000),(.sl [[(jI 0),(jI 1)]])]]),(.sl [])]
abbrev zz1:DV:=.agg [(.sl [[(.str ⟨#[99,104,117,114,99,104]⟩),(jI 1000),(jI 0),(.sl [[(jI 0),(jI 1)]])],[(.str ⟨#[109,105,108,108]⟩),(jI 0),(jI 1000),(.sl [[(jI 0),(jI 1)]])]]),(.sl []),(jI 5),(.sl [[(.str ⟨#[99,97,114,100]⟩),(.bool false),(jI 0),(jI 1)],[(.str ⟨#[108,105,110,101]⟩),(.bool true),(jI (-2)),(jI 2)]]),(.sl [[(jI (-500)),(jI 0),(jI (-500)),(jI 500),(jI 100),(jI 110),(jI 1)],[(jI (-500)),(jI 500),(jI (-500)),(jI 500),(jI 80),(jI 95),(jI 2)]]),(jI 500),(jI 1)]
abbrev zz0:DV:=.agg [(.sl [[(.str ⟨#[99,104,117,114,99,104]⟩),(jI 3000),(jI 4000),(.sl [[(jI 0),(jI 1)],[(jI 50),(jI 2)]])],[(.str ⟨#[109,105,108,108]⟩),(jI (-2000)),(jI 0),(.sl [[(jI 10),(jI 3)],[(jI 90),(jI 0)]])]]),(.sl [[(.str ⟨#[107,110,111,108,108]⟩),(.sl [[(jI 100),(jI 0)],[(jI 200),(jI 0)],[(jI 200),(jI 100)],[(jI 100),(jI 100)]]),(jI 0),(jI 10),(jI (-5)),(jI 5)],[(.str ⟨#[115,112,105,116]⟩),(.sl [[(jI (-300)),(jI (-300))],[(jI (-100)),(jI (-400))],[(jI (-200)),(jI (-200))]]),(jI 0),(jI 0),(jI 0),(jI 0)]])]
end Nore
