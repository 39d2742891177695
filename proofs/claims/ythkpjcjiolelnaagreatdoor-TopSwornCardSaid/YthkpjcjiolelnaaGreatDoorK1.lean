/- Calls that the examples make, run. -/
import Derived.Test.YthkpjcjiolelnaaGreatDoorK0
set_option linter.unusedSectionVars false
set_option linter.unusedVariables false
set_option linter.unusedSimpArgs false
set_option maxRecDepth 100000
namespace Nore
open Go Go.Ab Go.Proofs Go.Proofs.YthkpjcjiolelnaaGreatDoor
theorem AoJ:CH X.E (13,[IU,(.AR []),OO],(.Ap [(Ai 2),(Ai 0)])):=F8 (DA Ad6 (DA Ad7 F6))
theorem AoK:CH X.E (75,[(.agg [Gd,rU,WT])],(.bool true)):=t0
theorem AoL:CH X.E (75,[(.agg [Gd,rU,WU])],(.bool true)):=t0
theorem AoM:CH X.E (101,[Aii,(Ai 0),(Ai 112)],(.AR [[(Ai 0)],[(Ai 1)]])):=F8 (DA AoK (DA AoL F6))
theorem AoN:CH X.E (69,[Aii,OO],(Ai 1)):=F8 (DA AoM F6)
theorem AoO:CH X.E (75,[(.agg [Gd,rV,WT])],(.bool false)):=t0
theorem AoS:CH X.E (75,[(.agg [Gd,rV,WU])],(.bool true)):=t0
theorem AoT:CH X.E (101,[Aij,(Ai 0),(Ai 112)],(.AR [[(Ai 1)]])):=F8 (DA AoO (DA AoS F6))
theorem AoU:CH X.E (69,[Aij,OO],(Ai 2)):=F8 (DA AoT F6)
theorem AoV:CH X.E (75,[(.agg [Gd,rW,WT])],(.bool true)):=t0
theorem AoW:CH X.E (75,[(.agg [Gd,rW,WU])],(.bool true)):=t0
theorem AoX:CH X.E (101,[Aik,(Ai 0),(Ai 112)],(.AR [[(Ai 0)],[(Ai 1)]])):=F8 (DA AoV (DA AoW F6))
theorem AoY:CH X.E (69,[Aik,OO],(Ai 1)):=F8 (DA AoX F6)
theorem AoZ:CH X.E (75,[(.agg [Gd,rY,WT])],(.bool false)):=t0
theorem Ap0:CH X.E (75,[(.agg [Gd,rY,WU])],(.bool true)):=t0
theorem Ap1:CH X.E (101,[Ail,(Ai 0),(Ai 112)],(.AR [[(Ai 1)]])):=F8 (DA AoZ (DA Ap0 F6))
theorem Ap2:CH X.E (69,[Ail,OO],(Ai 2)):=F8 (DA Ap1 F6)
end Nore
