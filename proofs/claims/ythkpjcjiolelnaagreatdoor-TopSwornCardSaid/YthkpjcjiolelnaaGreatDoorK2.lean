/- Calls that the examples make, run. -/
import Derived.Test.YthkpjcjiolelnaaGreatDoorK1
set_option linter.unusedSectionVars false
set_option linter.unusedVariables false
set_option linter.unusedSimpArgs false
set_option maxRecDepth 100000
namespace Nore
open Go Go.Ab Go.Proofs Go.Proofs.YthkpjcjiolelnaaGreatDoor
theorem Ap3:CH X.E (48,[IU,(.AR []),OO],(.Ap [(.AR [[(Ai 0)],[(Ai 2)]]),(Ai 0)])):=F8 (DA Ad6 (DA Ad7 (DA AoN (DA AoU (DA AoY (DA Ap2 F6))))))
theorem Ap4:CH X.E (132,[IU,bF],(.Ap [(Ai 0),(Ai 0)])):=F8 (DA Zd F6)
theorem Ap5:CH X.E (74,[IU,bF],(.Ap [Aig,(Ai 0)])):=F8 (DA Ap4 F6)
theorem Ap6:CH X.E (75,[Aig],(.bool false)):=t0
theorem Ap7:CH X.E (75,[(.agg [Gd,MF,(.AR [[(Ai 1),(Ai 2),(Ai 0),(Ai 124)]])])],(.bool false)):=t0
theorem Ap8:CH X.E (75,[Aih],(.bool true)):=t0
theorem Ap9:CH X.E (49,[IU,bF],(.Ap [(.AR [[(Ai 1)]]),(Ai 0)])):=F8 (DA Ap5 (DA Ap6 (DA Ap7 (DA Ap8 F6))))
theorem Apa:CH X.E (104,[bG],(.Ap [(Ai 0),(Ai 0),(Ai 0)])):=t0
theorem Apb:CH X.E (105,[bG],(.str ⟨#[100,101,118,105,99,101,32,108,97,109,112,32,50,32,48,32,52,56,48,52,53,10]⟩)):=t0
theorem Apc:CH X.E (51,[bG],(.Ap [(.str ⟨#[100,101,118,105,99,101,32,108,97,109,112,32,50,32,48,32,52,56,48,52,53,10]⟩),(Ai 0)])):=F8 (DA Apa (DA Apb F6))
theorem Apd:CH X.E (52,[(.str ⟨#[100,101,118,105,99,101,32,108,97,109,112,32,50,32,48,32,52,56,48,52,53,10]⟩)],(.Ap [bG,(Ai 0)])):=t0
theorem Ape:CH X.E (53,[(.str ⟨#[100,101,118,105,99,101,32,108,97,109,113,32,50,32,48,32,52,56,48,52,53,10]⟩)],(.Ap [(Ai 1),(Ai 0)])):=t0
theorem Apf:CH X.E (132,[IU,bI],(.Ap [(Ai 0),(Ai 0)])):=F8 (DA Zd F6)
theorem Apg:CH X.E (74,[IU,bI],(.Ap [(.agg [Gd,MF,bI]),(Ai 0)])):=F8 (DA Apf F6)
theorem Aph:CH X.E (44,[IU,bI],(.Ap [(.AR []),(Ai 9)])):=F8 (DA Apg F6)
theorem AoP:CH X.E (7,[],(.bool true)):=F8 (DA As8 (DA AoF (DA AoJ (DA Ap3 (DA Ap9 (DA Apc (DA Apd (DA Ape (DA Aph F6)))))))))
theorem Amn:CH X.E (7,[],.bool true):=AoP
end Nore
