/- Calls that the examples make, run. -/
import Derived.Test.YthkpjcjiolelnaaGreatDoorY
import Derived.Test.YthkpjcjiolelnaaGreatDoorT2
import Derived.KernelRfl
set_option linter.unusedSectionVars false
set_option linter.unusedVariables false
set_option linter.unusedSimpArgs false
set_option maxRecDepth 100000
namespace Nore
open Go Go.Ab Go.Proofs Go.Proofs.YthkpjcjiolelnaaGreatDoor
abbrev Ai (n:Int):AB:=.int .i64 n
theorem F6:∀e∈([]:List (Nat×List AB×AB)),CH X.E e:=fun _ h=>by cases h
theorem DA {a:Nat×List AB×AB} {l:List (Nat×List AB×AB)} (h:CH X.E a) (t:∀e∈l,CH X.E e):∀e∈a::l,CH X.E e:=fun e d=>by
 rcases List.mem_cons.1 d with q|q
 ·exact q▸h
 ·exact t e q
theorem F8 {l:List (Nat×List AB×AB)} (hl:∀e∈l,CH X.E e) {f:Nat} {xs:List AB} {d:AB} (h:oK X.E l 60 f xs=some d:=by kernel_rfl):CH X.E (f,xs,d):=AbX hl h
theorem t0 {f:Nat} {xs:List AB} {d:AB} (h:EQ X.E 60 f xs=some d:=by kernel_rfl):CH X.E (f,xs,d):=⟨60,h⟩
abbrev OO:AB:=.agg [(Ai 0),(Ai 1),(Ai 112),(Ai 112)]
abbrev bI:AB:=.AR [[(Ai 1),(Ai 2),(Ai 124),(Ai 124)]]
abbrev WU:AB:=.AR [[(Ai 0),(Ai 1),(Ai 112),(Ai 112)]]
abbrev WT:AB:=.AR [[(Ai 0),(Ai 0),(Ai 112),(Ai 112)]]
abbrev bH:AB:=.AR [[(Ai 0),(Ai 1),(Ai 118),(Ai 119)]]
abbrev bG:AB:=.agg [(.AR [[(.str ⟨#[108,97,109,112]⟩),(Ai 2),(Ai 0)]]),(.AR [])]
abbrev Gd:AB:=.AR [[(.str ⟨#[108,97,109,112]⟩),(Ai 2),(Ai 0)],[(.str ⟨#[119,97,116,99,104]⟩),(Ai 3),(Ai 0)]]
abbrev bF:AB:=.AR [[(Ai 0),(Ai 1),(Ai 118),(Ai 119)],[(Ai 1),(Ai 2),(Ai 0),(Ai 124)]]
abbrev rY:AB:=.AR [[(Ai 0),(Ai 1),(Ai 100),(Ai 110)],[(Ai 1),(Ai 1),(Ai 105),(Ai 120)],[(Ai 0),(Ai 0),(Ai 115),(Ai 130)],[(Ai 1),(Ai 2),(Ai 0),(Ai 9999)]]
abbrev rW:AB:=.AR [[(Ai 0),(Ai 1),(Ai 100),(Ai 110)],[(Ai 1),(Ai 1),(Ai 105),(Ai 120)],[(Ai 0),(Ai 0),(Ai 0),(Ai 9999)],[(Ai 1),(Ai 2),(Ai 125),(Ai 125)]]
abbrev rV:AB:=.AR [[(Ai 0),(Ai 1),(Ai 100),(Ai 110)],[(Ai 1),(Ai 1),(Ai 0),(Ai 9999)],[(Ai 0),(Ai 0),(Ai 115),(Ai 130)],[(Ai 1),(Ai 2),(Ai 125),(Ai 125)]]
abbrev rU:AB:=.AR [[(Ai 0),(Ai 1),(Ai 0),(Ai 9999)],[(Ai 1),(Ai 1),(Ai 105),(Ai 120)],[(Ai 0),(Ai 0),(Ai 115),(Ai 130)],[(Ai 1),(Ai 2),(Ai 125),(Ai 125)]]
abbrev MF:AB:=.AR [[(Ai 0),(Ai 1),(Ai 100),(Ai 110)],[(Ai 1),(Ai 1),(Ai 105),(Ai 120)],[(Ai 0),(Ai 0),(Ai 115),(Ai 130)],[(Ai 1),(Ai 2),(Ai 125),(Ai 125)]]
abbrev IU:AB:=.agg [Gd,MF]
abbrev Ail:AB:=.agg [Gd,rY,(.AR [])]
abbrev Aik:AB:=.agg [Gd,rW,(.AR [])]
abbrev Aij:AB:=.agg [Gd,rV,(.AR [])]
abbrev Aii:AB:=.agg [Gd,rU,(.AR [])]
abbrev Se:AB:=.agg [Gd,MF,(.AR [])]
abbrev Aih:AB:=.agg [Gd,MF,bH]
abbrev Aig:AB:=.agg [Gd,MF,bF]
theorem Zd:CH X.E (104,[IU],(.Ap [(Ai 0),(Ai 0),(Ai 0)])):=t0
theorem As6:CH X.E (132,[IU,bH],(.Ap [(Ai 0),(Ai 0)])):=F8 (DA Zd F6)
theorem As7:CH X.E (74,[IU,bH],(.Ap [Aih,(Ai 0)])):=F8 (DA As6 F6)
theorem As8:CH X.E (44,[IU,bH],(.Ap [(.AR [[(Ai 100),(Ai 110)],[(Ai 105),(Ai 120)],[(Ai 119),(Ai 125)],[(Ai 125),(Ai 125)]]),(Ai 0)])):=F8 (DA As7 F6)
theorem As9:CH X.E (132,[IU,(.AR [])],(.Ap [(Ai 0),(Ai 0)])):=F8 (DA Zd F6)
theorem Adm:CH X.E (74,[IU,(.AR [])],(.Ap [Se,(Ai 0)])):=F8 (DA As9 F6)
theorem Adn:CH X.E (75,[Se],(.bool true)):=t0
theorem Asa:CH X.E (75,[(.agg [Gd,MF,(.AR [[(Ai 0),(Ai 0),(Ai 118),(Ai 118)]])])],(.bool true)):=t0
theorem Asb:CH X.E (75,[(.agg [Gd,MF,(.AR [[(Ai 0),(Ai 1),(Ai 118),(Ai 118)]])])],(.bool true)):=t0
theorem Asc:CH X.E (101,[Se,(Ai 0),(Ai 118)],(.AR [[(Ai 0)],[(Ai 1)]])):=F8 (DA Asa (DA Asb F6))
theorem AoF:CH X.E (47,[IU,(.AR []),(Ai 0),(Ai 118)],(.Ap [(.AR [[(Ai 0)],[(Ai 1)]]),(Ai 0)])):=F8 (DA Adm (DA Adn (DA Asc F6)))
theorem Ad6:CH X.E (68,[IU,(.AR []),OO],(.Ap [Se,(Ai 0)])):=F8 (DA Adm (DA Adn F6))
theorem AoG:CH X.E (75,[(.agg [Gd,MF,WT])],(.bool false)):=t0
theorem AoH:CH X.E (75,[(.agg [Gd,MF,WU])],(.bool true)):=t0
theorem AoI:CH X.E (101,[Se,(Ai 0),(Ai 112)],(.AR [[(Ai 1)]])):=F8 (DA AoG (DA AoH F6))
theorem Ad7:CH X.E (69,[Se,OO],(Ai 2)):=F8 (DA AoI F6)
end Nore
