/- The code comes to the plain functions. -/
import Derived.Test.YtlgmncmjacjgmaaGreatDoorC1
import Derived.Test.YtlgmncmjacjgmaaGreatDoorK2
set_option linter.unusedSectionVars false
set_option linter.unusedVariables false
set_option linter.unusedSimpArgs false
set_option maxRecDepth 100000
open Go Go.Ab Go.Proofs Go.Proofs.YtlgmncmjacjgmaaGreatDoor
open Go.Ab.Tr renaming node->N,leaf->L
namespace Nore
noncomputable section
def qfQ:F7 S:=⟨[],[.bool],fun _=>X6W⟩
theorem qfR:Zav X 15 qfQ:=Zhg (X:=X) (F:=X6W) rfl ZfL
def qfS:List (Nat×F7 S):=[(16,qbJ),(15,qfQ),(21,qeg),(24,qeu),(19,qce),(29,qfO),(17,qbQ),(30,qaN),(18,qc7)]
theorem qfT:Z95 X (qfS):=⟨qbK,qfR,qeh,qev,qcf,qfP,qbR,qaO,qc8,trivial⟩
def qfW:Key:=⟨[7],7,none,[0,0,1,1,1,0,1,0,1,1,1,1,1],0,47⟩
def qfX:StT S:=⟨(N (N (N (N L (some (.sl (.st 5) [])) L) (some (.ptr 0 0)) (N L vI L)) vG (N L (some (.ptr 1 0)) (N L vI L))) none (N (N L none (N L (some (.ptr 44 0)) L)) none L)),o1x,47⟩
def qfY:Way S:=⟨.ret,⟨v1U,(N (N L oc (N (N L none (N L none (N (N L (some (.row 28 (.st 5) [] 0 0)) L) none L))) none (N L none (N L none (N (N L op L) none L))))) oj (N (N L none (N L none (N (N L op L) none L))) none L)),137⟩,[.bool,(.arr (.int .u16)),(.lst (.st 5)),(.st 5),(.st 20),(.st 5)]⟩
def qfZ:Way S:=⟨(.exit 0),⟨(N (N (N L (some (.ptr 0 0)) L) vG (N L (some (.ptr 1 0)) L)) none L),o1x,49⟩,[(.lst (.st 21)),(.arr (.int .u16)),(.st 20),(.st 5)]⟩
def qg0:LE S:=⟨qfW,qfX,[(.lst (.st 5)),.int,(.lst (.st 21)),.int,(.arr (.int .u16)),(.st 20),(.st 5)],[qfY,qfZ]⟩
def qg1 {T:Type} (x:tqu) (k:((Bool×(Nat->Int)×(List Y2)×Y2×CoRecord×Y2)⊕((List Zr)×(Nat->Int)×CoRecord×Y2))->T):((Bool×(List Y2)×Y2)⊕Unit)->T:=Sum.elim (fun y0=>k (.inl (y0.1,x.u4,y0.2.1,y0.v2,x.u5,x.v6))) (fun y1=>k (.inr (x.u2,x.u4,x.u5,x.v6)))
def qg2 (x:tqu) (v:Int):tqu:=(x.1,x.2.1,x.u2,v,x.u4,x.u5,x.v6)
theorem qg3 (x:tqu):LE.step X qg0 qfS qfH q4 12 x=Wb x.1 x.2.1 x.u2 x.u5 x.v6 x.u3 (fun w=>Sum.inl (qg2 x w)) (fun o=>Sum.inr (qg1 x id o)):=by kernel_rfl
def qg4 {R:Type}:Z21 S R:=LE.ls X qg0 (fun x k=>(WV x.1 x.2.1 x.u2 x.u5 x.v6 x.u3).bind (qg1 x k)) q4
theorem qg5 {R:Type}:Z2e X (qg4 (R:=R)):=Zke xok qfT (e:=qg0) qfI q5 (st:=fun(x:tqu)=>XX x.1 x.2.1 x.u2 x.u5 x.v6) (prj:=fun(x:tqu)=>x.u3) (emb:=qg2) qg1 (fun x=>(qg3 x).trans (by unfold XX Wb;simp only[Zk2,ZjT,Zk3,Option.map_some,Option.map_none];rfl)) q5
def qg6:Key:=⟨[7],7,none,[0,0,1,0,1,1,1,1,1,1,1,1,1,1],2,96⟩
def qg7:StT S:=⟨vZ,o1x,96⟩
def qg8:Way S:=⟨.ret,⟨v1U,o1x,135⟩,[.bool,(.arr (.int .u16)),(.st 20),(.st 5)]⟩
def qg9:Way S:=⟨(.exit 2),⟨v1g,o1x,100⟩,[.int,.int,.int,(.lst (.int .i64)),.bool,(.arr (.int .u16)),(.st 20),(.st 5)]⟩
def qga:LE S:=⟨qg6,qg7,[.int,.int,.int,.int,.int,(.lst (.int .i64)),.bool,(.arr (.int .u16)),(.st 20),(.st 5)],[qg8,qg9]⟩
def qgb {T:Type} (x:tqr) (k:((Bool×(Nat->Int)×CoRecord×Y2)⊕(Int×Int×Int×(List Int)×Bool×(Nat->Int)×CoRecord×Y2))->T):(Bool⊕Unit)->T:=Sum.elim (fun y0=>k (.inl (y0,x.u7,x.u8,x.v9))) (fun y1=>k (.inr (x.1,x.2.1,x.u3,x.u5,x.u6,x.u7,x.u8,x.v9)))
def qgc (x:tqr) (v:Int):tqr:=(x.1,x.2.1,x.u2,x.u3,v,x.u5,x.u6,x.u7,x.u8,x.v9)
theorem qgd (x:tqr):LE.step X qga qfS qfH qg4 12 x=Xq x.u2 x.u5 x.u8 x.u4 (fun w=>Sum.inl (qgc x w)) (fun o=>Sum.inr (qgb x id o)):=by kernel_rfl
def qge {R:Type}:Z21 S R:=LE.ls X qga (fun x k=>(Wg x.u2 x.u5 x.u8 x.u4).bind (qgb x k)) qg4
theorem qgf {R:Type}:Z2e X (qge (R:=R)):=Zke xok qfT (e:=qga) qfI qg5 (st:=fun(x:tqr)=>XY x.u2 x.u5 x.u8) (prj:=fun(x:tqr)=>x.u4) (emb:=qgc) qgb (fun x=>(qgd x).trans (by unfold XY Xq;simp only[Zk2,ZjT,Zk3,Option.map_some,Option.map_none];rfl)) qg5
def qgg:Key:=⟨[7],7,none,[0,0,1,0,1,1,1,1,1,1,1,1,1,1],2,78⟩
def qgh:StT S:=⟨vZ,(N (N L oc L) oj L),78⟩
def qgi:Way S:=⟨.ret,⟨v1U,(N (N L oc L) oj L),117⟩,[.bool,(.arr (.int .u16)),(.st 20)]⟩
def qgj:Way S:=⟨(.exit 2),⟨v1g,(N (N L oc L) oj L),82⟩,[.int,.int,.int,(.lst (.int .i64)),.bool,(.arr (.int .u16)),(.st 20)]⟩
def qgk:LE S:=⟨qgg,qgh,[.int,.int,.int,.int,.int,(.lst (.int .i64)),.bool,(.arr (.int .u16)),(.st 20)],[qgi,qgj]⟩
def qgl {T:Type} (x:tqt) (k:((Bool×(Nat->Int)×CoRecord)⊕(Int×Int×Int×(List Int)×Bool×(Nat->Int)×CoRecord))->T):(Bool⊕Unit)->T:=Sum.elim (fun y0=>k (.inl (y0,x.u7,x.v8))) (fun y1=>k (.inr (x.1,x.2.1,x.u3,x.u5,x.u6,x.u7,x.v8)))
def qgm (x:tqt) (v:Int):tqt:=(x.1,x.2.1,x.u2,x.u3,v,x.u5,x.u6,x.u7,x.v8)
theorem qgn (x:tqt):LE.step X qgk qfS qfH qge 12 x=X1B x.u2 x.u5 x.v8 x.u4 (fun w=>Sum.inl (qgm x w)) (fun o=>Sum.inr (qgl x id o)):=by kernel_rfl
def qgo {R:Type}:Z21 S R:=LE.ls X qgk (fun x k=>(X1I x.u2 x.u5 x.v8 x.u4).bind (qgl x k)) qge
theorem qgp {R:Type}:Z2e X (qgo (R:=R)):=Zke xok qfT (e:=qgk) qfI qgf (st:=fun(x:tqt)=>X1U x.u2 x.u5 x.v8) (prj:=fun(x:tqt)=>x.u4) (emb:=qgm) qgl (fun x=>(qgn x).trans (by unfold X1U X1B Xq;simp only[Zk2,ZjT,Zk3,Option.map_some,Option.map_none];rfl)) qgf
theorem qgq (x0:CoRecord) (x1:List Zr) (x2:Nat->Int):Zkg X qfS [(.st 20),(.sl (.st 21)),(.arr 4 (.int .u16))] [.bool] qfH qgo 12 7 (x0,x1,x2,())=WL x0 x1 x2:=by kernel_rfl
def qgr:F7 S:=⟨[(.st 20),(.sl (.st 21)),(.arr 4 (.int .u16))],[.bool],fun xs=>X1A xs.1 xs.2.1 xs.u2⟩
theorem X4Y:Zav X 7 qgr:=Zkd (Zkc xok qfT qfI qgp 12 7) fun xs _ h=>((qgq xs.1 xs.2.1 xs.u2).trans (X3W xs.1 xs.2.1 xs.u2).symm).trans h
end
end Nore
