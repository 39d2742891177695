/- The code comes to the plain functions. -/
import Derived.Test.YtaaalkppbbpacaaGreatDoorC1
import Derived.Test.YtaaalkppbbpacaaGreatDoorK33
set_option linter.unusedSectionVars false
set_option linter.unusedVariables false
set_option linter.unusedSimpArgs false
set_option maxRecDepth 100000
open Go Go.Ab Go.Proofs Go.Proofs.YtaaalkppbbpacaaGreatDoor
open Go.Ab.Tr renaming node→N,leaf→L
namespace Nore
noncomputable section
def qfu:F7 S:=⟨[],[.bool],fun _=>X4q⟩
theorem qfv:Zfl X 6 qfu:=Zge (X:=X) (F:=X4q) rfl ZeN
def qfw:F7 S:=⟨[],[.bool],fun _=>X4r⟩
theorem qfx:Zfl X 7 qfw:=Zge (X:=X) (F:=X4r) rfl ZeO
def qfy:List (Nat×F7 S):=[(5,q4j),(6,qfu),(7,qfw),(8,qec),(9,q9Y),(10,qfs)]
theorem qfz:ZbA X (qfy):=⟨q4k,qfv,qfx,qed,q9Z,qft,trivial⟩
def qfC:Key:=⟨[3],3,none,[0,0,1,0,1,1,1,1,1,1],0,37⟩
def qfD:StT S:=⟨(N (N (N L (some (.ptr 0 0)) (N L vJ L)) vI (N L (some (.ptr 1 0)) L)) none v1B),(N (N L og (N L none (N L oB L))) om L),37⟩
def qfE:Way S:=⟨.ret,⟨(N L none (N L none (N L vM L))),(N (N L og (N L none (N L oB L))) om (N (N (N L none (N L none (N L on L))) none L) none L)),71⟩,[.bool,(.st 10),(.lst (.st 10)),(.st 9),(.st 2)]⟩
def qfF:Way S:=⟨(.exit 0),⟨(N (N (N L (some (.ptr 0 0)) L) vI (N L (some (.ptr 1 0)) L)) none L),(N (N L og (N L none (N L oB L))) om L),41⟩,[(.lst (.st 10)),(.st 10),(.lst (.st 10)),(.st 9)]⟩
def qfG:LE S:=⟨qfC,qfD,[(.lst (.st 2)),(.lst (.st 10)),.int,(.st 10),(.lst (.st 10)),(.st 9)],[qfE,qfF]⟩
def qfH (x:tqK):((Bool×Point)⊕Unit)→tqA:=Sum.elim (fun y0=>(.inl (y0.1,x.2.2.2.1,x.2.2.2.2.1,x.2.2.2.2.2,y0.2))) (fun y1=>(.inr (x.2.1,x.2.2.2.1,x.2.2.2.2.1,x.2.2.2.2.2)))
def qfI {R:Type} (x:tqK) (k:tqA→Option R):Option R:=(X17 x.1 x.2.2.2.2.2 x.2.2.1).bind (Sum.elim (fun y0=>k (.inl (y0.1,x.2.2.2.1,x.2.2.2.2.1,x.2.2.2.2.2,y0.2))) (fun y1=>k (.inr (x.2.1,x.2.2.2.1,x.2.2.2.2.1,x.2.2.2.2.2))))
def qfJ (x:tqK) (v:Int):tqK:=(x.1,x.2.1,v,x.2.2.2.1,x.2.2.2.2.1,x.2.2.2.2.2)
theorem qfK (x:tqK):LE.step X qfG qfy q0 q4 12 x=Xx x.1 x.2.2.2.2.2 x.2.2.1 (fun w0=>(Sum.inl (x.1,x.2.1,w0,x.2.2.2.1,x.2.2.2.2.1,x.2.2.2.2.2))) (fun p0 p1=>(Sum.inr (.inl (p0,x.2.2.2.1,x.2.2.2.2.1,x.2.2.2.2.2,p1)))) (Sum.inr (.inr (x.2.1,x.2.2.2.1,x.2.2.2.2.1,x.2.2.2.2.2))):=by kernel_rfl
theorem qfM {R:Type} (x:tqK) (k:tqA→Option R) (r:R) (h:qfI x k=some r):∃o,Z5L (LE.step X qfG qfy q0 q4 12) x o∧k o=some r:=by
 obtain⟨o,h1,h2⟩:=Z0 h;exact⟨qfH x o,Zjo (st:=fun(x:tqK)=>X5 x.1 x.2.2.2.2.2) (prj:=fun x=>x.2.2.1) (emb:=qfJ) (embO:=qfH) (fun x=>(qfK x).trans (by unfold X5 Xx;simp only[Zji,Zj8,Zjj,Option.map_some,Option.map_none];rfl)) (fun _ _=>rfl) (fun _ _=>rfl) (fun _ _ _=>rfl) (fun _ _ _=>rfl) (fun _=>rfl) (Z28.1 h1),by first|exact h2|(rcases o with o|o<;>exact h2)⟩
def qfN {R:Type}:Z36 S R:=LE.ls X qfG qfI q4
theorem qfO {R:Type}:Z58 X (qfN (R:=R)):=Zjt xok qfz (e:=qfG) q1 q5 qfM q5
theorem qfP (x0:SgMooring) (x1:List ZD) (x2:ZD):Zju X qfy [(.st 9),(.sl (.st 10)),(.st 10)] [.bool] q0 qfN 12 3 (x0,x1,x2,())=W7 x0 x1 x2:=by kernel_rfl
def qfQ:F7 S:=⟨[(.st 9),(.sl (.st 10)),(.st 10)],[.bool],fun xs=>X1D xs.1 xs.2.1 xs.2.2.1⟩
theorem X3A:Zfl X 3 qfQ:=Zjs (Zjr xok qfz q1 qfO 12 3) fun xs _ h=>((qfP xs.1 xs.2.1 xs.2.2.1).trans (X2x xs.1 xs.2.1 xs.2.2.1).symm).trans h
end
end Nore
