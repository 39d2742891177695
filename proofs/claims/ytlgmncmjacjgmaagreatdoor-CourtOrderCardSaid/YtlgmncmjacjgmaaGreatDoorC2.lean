/- The code comes to the plain functions. -/
import Derived.Test.YtlgmncmjacjgmaaGreatDoorC1
import Derived.Test.YtlgmncmjacjgmaaGreatDoorK2
set_option linter.unusedSectionVars false
set_option linter.unusedVariables false
set_option linter.unusedSimpArgs false
set_option maxRecDepth 100000
open Go Go.Ab Go.Proofs Go.Proofs.YtlgmncmjacjgmaaGreatDoor
open Go.Ab.Tr renaming node->N,leaf->L
namespace Nore
noncomputable def qd8:F7 S:=⟨[],[.bool],fun _=>X5v⟩
theorem qd9:Zav X 15 qd8:=Zhg (X:=X) (F:=X5v) rfl ZfL
noncomputable def qda:List (Nat×F7 S):=[(16,qaN),(15,qd8),(20,qaU),(21,qcP),(8,q8p),(22,qd6)]
theorem qdb:Z95 X (qda):=⟨qaO,qd9,qaV,qcQ,q8q,qd7,trivial⟩
def qde:Key:=⟨[5],5,none,[0,0,1,0,1,1,1,1],0,12⟩
def qdf:StT S:=⟨(N (N (N (N L vA L) (some (.ptr 0 0)) L) none (N (N L vD L) none L)) none v1k),o1h,13⟩
def qdg:Way S:=⟨(.exit 0),⟨(N (N (N (N L vA L) (some (.ptr 0 0)) L) none L) none v1k),o1h,17⟩,[(.lst (.st 21)),(.lst (.int .u16)),(.st 22),(.st 20),(.lst (.st 21))]⟩
def qdh:LE S:=⟨qde,qdf,[(.lst (.st 21)),.int,(.lst (.int .u16)),(.st 22),(.st 20),(.lst (.st 21))],[qdg]⟩
def qdi {T:Type} (x:tqq) (k:((List Zr)×(List Int)×Z7×CoRecord×(List Zr))->T):(List Zr)->T:=fun y0=>k (x.1,x.u2,x.u3,x.u4,y0)
def qdj (x:tqq) (v:(Int×(List Zr))):tqq:=(x.1,v.1,x.u2,x.u3,x.u4,v.2)
theorem qdk (x:tqq):LE.step X qdh qda qcI q4 12 x=Wo x.1 x.u2 x.2.1 x.v5 (fun w=>Sum.inl (qdj x w)) (fun o=>Sum.inr (qdi x id o)):=by kernel_rfl
noncomputable def qdl {R:Type}:Z21 S R:=LE.ls X qdh (fun x k=>(X1X x.1 x.u2 (x.2.1,x.v5)).bind (qdi x k)) q4
theorem qdm {R:Type}:Z2e X (qdl (R:=R)):=Zke xok qdb (e:=qdh) qcJ q5 (st:=fun(x:tqq)=>W9 x.1 x.u2) (prj:=fun(x:tqq)=>(x.2.1,x.v5)) (emb:=qdj) qdi (fun x=>(qdk x).trans (by unfold W9 Wo;simp only[Zk2,ZjT,Zk3,Option.map_some,Option.map_none];rfl)) q5
theorem qdn (x0:CoRecord) (x1:Z7) (x2:List Int):Zkg X qda [(.st 20),(.st 22),(.sl (.int .u16))] [.bool] qcI qdl 12 5 (x0,x1,x2,())=WW x0 x1 x2:=by kernel_rfl
noncomputable def qdo:F7 S:=⟨[(.st 20),(.st 22),(.sl (.int .u16))],[.bool],fun xs=>X1W xs.1 xs.2.1 xs.u2⟩
theorem X4j:Zav X 5 qdo:=Zkd (Zkc xok qdb qcJ qdm 12 5) fun xs _ h=>((qdn xs.1 xs.2.1 xs.u2).trans (X3z xs.1 xs.2.1 xs.u2).symm).trans h
end Nore
