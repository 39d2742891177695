/- The code comes to the plain functions. -/
import Derived.Test.YtlngokonhalcdaaGreatDoorC1
import Derived.Test.YtlngokonhalcdaaGreatDoorK2
set_option linter.unusedSectionVars false
set_option linter.unusedVariables false
set_option linter.unusedSimpArgs false
set_option maxRecDepth 100000
open Go Go.Ab Go.Proofs Go.Proofs.YtlngokonhalcdaaGreatDoor
open Go.Ab.Tr renaming node->N,leaf->L
namespace Nore
noncomputable section
def qeZ:F7 S:=⟨[],[.bool],fun _=>X6i⟩
theorem qf0:Zau X 19 qeZ:=Zhg (X:=X) (F:=X6i) rfl ZfL
def qf1:List (Nat×F7 S):=[(20,qbC),(22,qbV),(19,qeZ),(42,qc2),(41,qdk)]
theorem qf2:ZaF X (qf1):=⟨qbD,qbW,qf0,qc3,qdl,trivial⟩
theorem qf5 (x0:CoRecord) (x1:Z7) (x2:Int):Zkf X qf1 [(.st 20),(.st 28),(.int .u8)] [.bool] q6d q4 12 8 (x0,x1,x2,())=WL x0 x1 x2:=by kernel_rfl
def qf6:F7 S:=⟨[(.st 20),(.st 28),(.int .u8)],[.bool],fun xs=>X1R xs.1 xs.2.1 xs.u2⟩
theorem X4P:Zau X 8 qf6:=Zkc (Zkb xok qf2 q6e q5 12 8) fun xs _ h=>((qf5 xs.1 xs.2.1 xs.u2).trans (X3O xs.1 xs.2.1 xs.u2).symm).trans h
def qf7:List (Nat×F7 S):=[(43,qdy),(19,qeZ),(53,qeh),(54,qeA),(39,qdr),(24,qd0)]
theorem qf8:ZaF X (qf7):=⟨qdz,qf0,qei,qeB,qds,qd1,trivial⟩
def qfb:Key:=⟨[9],9,none,[0,0,1,0,1,1,1],0,14⟩
def qfc:StT S:=⟨(N (N (N (N L (some (.rs 14 0)) L) (some (.ptr 0 0)) L) none (N (N L vy L) (some (.ptr 2 0)) L)) none v1i),o12,15⟩
def qfd:Way S:=⟨(.exit 0),⟨(N (N (N (N L (some (.rs 14 0)) L) (some (.ptr 0 0)) L) none L) none v1i),o12,19⟩,[.int,(.st 30),(.st 20),(.arr (.int .u16)),(.lst (.st 21))]⟩
def qfe:LE S:=⟨qfb,qfc,[.int,.int,(.st 30),(.st 20),(.arr (.int .u16)),(.lst (.st 21))],[qfd]⟩
def qff (x:tqq):(Int×(List Zr))->tqt:=fun y0=>(y0.1,x.u2,x.u3,x.u4,y0.2)
def qfg {R:Type} (x:tqq) (k:tqt->Option R):Option R:=(WU x.u3 x.u4 (x.1,x.2.1,x.v5)).bind (fun y0=>k (y0.1,x.u2,x.u3,x.u4,y0.2))
def qfh (x:tqq) (v:(Int×Int×(List Zr))):tqq:=(v.1,v.2.1,x.u2,x.u3,x.u4,v.v2)
theorem qfi (x:tqq):LE.step X qfe qf7 qeX q4 12 x=Wd x.u3 x.u4 x.1 x.2.1 x.v5 (fun w0 w1 w2=>(Sum.inl (w0,w1,x.u2,x.u3,x.u4,w2))) (fun p0 p1=>(Sum.inr (p0,x.u2,x.u3,x.u4,p1))):=by kernel_rfl
theorem qfk {R:Type} (x:tqq) (k:tqt->Option R) (r:R) (h:qfg x k=some r):∃o,Z6b (LE.step X qfe qf7 qeX q4 12) x o/\k o=some r:=by
 obtain⟨o,h1,h2⟩:=Z0 h;exact⟨qff x o,Zk9 (st:=fun(x:tqq)=>W1 x.u3 x.u4) (prj:=fun x=>(x.1,x.2.1,x.v5)) (emb:=qfh) (embO:=qff) (fun x=>(qfi x).trans (by unfold W1 Wd;simp only[Zk0,ZjR,Zk1,Option.map_some,Option.map_none];rfl)) (fun _ _=>rfl) (fun _ _=>rfl) (fun _ _ _=>rfl) (fun _ _ _=>rfl) (fun _=>rfl) (Z29.1 h1),by first|exact h2|(rcases o with o<;>exact h2)⟩
def qfl {R:Type}:Z2K S R:=LE.ls X qfe qfg q4
theorem qfm {R:Type}:Z4g X (qfl (R:=R)):=Zkd xok qf8 (e:=qfe) qeY q5 qfk q5
theorem qfn (x0:CoRecord) (x1:Za) (x2:Nat->Int):Zkf X qf7 [(.st 20),(.st 30),(.arr 3 (.int .u16))] [.bool] qeX qfl 12 9 (x0,x1,x2,())=WK x0 x1 x2:=by kernel_rfl
def qfo:F7 S:=⟨[(.st 20),(.st 30),(.arr 3 (.int .u16))],[.bool],fun xs=>X1Q xs.1 xs.2.1 xs.u2⟩
theorem X4O:Zau X 9 qfo:=Zkc (Zkb xok qf8 qeY qfm 12 9) fun xs _ h=>((qfn xs.1 xs.2.1 xs.u2).trans (X3M xs.1 xs.2.1 xs.u2).symm).trans h
end
end Nore
