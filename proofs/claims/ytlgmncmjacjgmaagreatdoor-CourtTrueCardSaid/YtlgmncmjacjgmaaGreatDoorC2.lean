/- The code comes to the plain functions. -/
import Derived.Test.YtlgmncmjacjgmaaGreatDoorC1
import Derived.Test.YtlgmncmjacjgmaaGreatDoorK2
set_option linter.unusedSectionVars false
set_option linter.unusedVariables false
set_option linter.unusedSimpArgs false
set_option maxRecDepth 100000
open Go Go.Ab Go.Proofs Go.Proofs.YtlgmncmjacjgmaaGreatDoor
open Go.Ab.Tr renaming node->N,leaf->L
namespace Nore
noncomputable def qfe:F7 S:=⟨[],[.bool],fun _=>X6M⟩
theorem qff:Zav X 15 qfe:=Zhg (X:=X) (F:=X6M) rfl ZfL
noncomputable def qfg:List (Nat×F7 S):=[(23,qdS),(24,qdZ),(15,qfe),(26,qev),(27,qeL),(19,qbJ),(21,qdL),(13,qbe),(17,qbl),(28,qeS),(8,q8p),(18,qbC)]
theorem qfh:Z95 X (qfg):=⟨qdT,qe0,qff,qew,qeM,qbK,qdM,qbf,qbm,qeT,q8q,qbD,trivial⟩
def qfk:Key:=⟨[6],6,none,[0,0,1,0,1,1,1,1,1,1,1],0,67⟩
def qfl:StT S:=⟨(N (N (N L (some (.ptr 0 0)) L) none (N (N (N L vH L) (some (.rs 67 0)) L) (some (.ptr 2 0)) (N L (some (.sl (.st 5) [])) L))) none (N L none (N (N L vC L) none L))),o1o,68⟩
def qfm:Way S:=⟨.ret,⟨(N L none (N L none (N L vI L))),o1o,95⟩,[.bool,(.lst (.st 21)),(.st 24),(.st 20),(.arr (.int .u16))]⟩
def qfn:Way S:=⟨(.exit 0),⟨(N (N (N L (some (.ptr 0 0)) L) none (N (N L (some (.rs 67 0)) L) (some (.ptr 2 0)) L)) none (N L none (N (N L vC L) none L))),o1o,72⟩,[(.lst (.int .i64)),(.lst (.st 21)),(.st 24),(.st 20),(.arr (.int .u16))]⟩
def qfo:LE S:=⟨qfk,qfl,[.int,(.lst (.st 5)),(.lst (.int .i64)),(.lst (.st 21)),(.st 24),(.st 20),(.arr (.int .u16))],[qfm,qfn]⟩
def qfp {T:Type} (x:tqq) (k:((Bool×(List Zr)×Za×CoRecord×(Nat->Int))⊕((List Int)×(List Zr)×Za×CoRecord×(Nat->Int)))->T):(Bool⊕Unit)->T:=Sum.elim (fun y0=>k (.inl (y0,x.u3,x.u4,x.u5,x.v6))) (fun y1=>k (.inr (x.u2,x.u3,x.u4,x.u5,x.v6)))
def qfq (x:tqq) (v:Int):tqq:=(v,x.2.1,x.u2,x.u3,x.u4,x.u5,x.v6)
theorem qfr (x:tqq):LE.step X qfo qfg qfc q4 12 x=WA x.2.1 x.u2 x.1 (fun w=>Sum.inl (qfq x w)) (fun o=>Sum.inr (qfp x id o)):=by kernel_rfl
noncomputable def qfs {R:Type}:Z21 S R:=LE.ls X qfo (fun x k=>(X1z x.2.1 x.u2 x.1).bind (qfp x k)) q4
theorem qft {R:Type}:Z2e X (qfs (R:=R)):=Zke xok qfh (e:=qfo) qfd q5 (st:=fun(x:tqq)=>Wk x.2.1 x.u2) (prj:=fun(x:tqq)=>x.1) (emb:=qfq) qfp (fun x=>(qfr x).trans (by unfold Wk WA;simp only[Zk2,ZjT,Zk3,Option.map_some,Option.map_none];rfl)) q5
theorem qfu (x0:CoRecord) (x1:Za) (x2:Nat->Int):Zkg X qfg [(.st 20),(.st 24),(.arr 3 (.int .u16))] [.bool] qfc qfs 12 6 (x0,x1,x2,())=X1p x0 x1 x2:=by kernel_rfl
noncomputable def qfv:F7 S:=⟨[(.st 20),(.st 24),(.arr 3 (.int .u16))],[.bool],fun xs=>X2P xs.1 xs.2.1 xs.u2⟩
theorem X5o:Zav X 6 qfv:=Zkd (Zkc xok qfh qfd qft 12 6) fun xs _ h=>((qfu xs.1 xs.2.1 xs.u2).trans (X4p xs.1 xs.2.1 xs.u2).symm).trans h
end Nore
