/- The code comes to the plain functions. -/
import Derived.Test.YtlgmncmjacjgmaaGreatDoorC1
import Derived.Test.YtlgmncmjacjgmaaGreatDoorK2
set_option linter.unusedSectionVars false
set_option linter.unusedVariables false
set_option linter.unusedSimpArgs false
set_option maxRecDepth 100000
open Go Go.Ab Go.Proofs Go.Proofs.YtlgmncmjacjgmaaGreatDoor
open Go.Ab.Tr renaming node->N,leaf->L
namespace Nore
noncomputable def qbk:F7 S:=⟨[],[.bool],fun _=>X4Z⟩
theorem qbl:Zav X 15 qbk:=Zhg (X:=X) (F:=X4Z) rfl ZfL
noncomputable def qbm:List (Nat×F7 S):=[(8,q8p),(16,qaN),(15,qbk),(17,qaU),(18,qbb),(19,qbi)]
theorem qbn:Z95 X (qbm):=⟨q8q,qaO,qbl,qaV,qbc,qbj,trivial⟩
def qbq:Key:=⟨[4],4,none,[0,0,1,0,1,1,1,1,1,1,1,1,1,1],0,97⟩
def qbr:StT S:=⟨(N (N (N (N (N L vu L) vs L) (some (.ptr 0 0)) L) none (N (N L vu L) (some (.ptr 2 0)) L)) none vZ),oC,98⟩
def qbs:Way S:=⟨(.exit 0),⟨(N (N (N (N L vs L) (some (.ptr 0 0)) L) none (N (N L vu L) (some (.ptr 2 0)) L)) none vZ),oC,103⟩,[(.lst (.st 21)),.int,(.lst (.st 21)),(.st 22),(.lst (.st 19)),(.st 20),(.st 21),(.lst (.st 18)),(.st 23)]⟩
def qbt:LE S:=⟨qbq,qbr,[.int,(.lst (.st 21)),.int,(.lst (.st 21)),(.st 22),(.lst (.st 19)),(.st 20),(.st 21),(.lst (.st 18)),(.st 23)],[qbs]⟩
def qbu {T:Type} (x:tq8) (k:((List Zr)×Int×(List Zr)×Z7×(List Zq)×CoRecord×Zr×(List Zm)×Z9)->T):(List Zq)->T:=fun y0=>k (x.2.1,x.u2,x.u3,x.u4,y0,x.u6,x.u7,x.u8,x.v9)
def qbv (x:tq8) (v:(Int×(List Zq))):tq8:=(v.1,x.2.1,x.u2,x.u3,x.u4,v.2,x.u6,x.u7,x.u8,x.v9)
theorem qbw (x:tq8):LE.step X qbt qbm q5o q4 12 x=Wb x.u6 x.v9 x.1 x.u5 (fun w=>Sum.inl (qbv x w)) (fun o=>Sum.inr (qbu x id o)):=by kernel_rfl
noncomputable def qbx {R:Type}:Z21 S R:=LE.ls X qbt (fun x k=>(WH x.u6 x.v9 (x.1,x.u5)).bind (qbu x k)) q4
theorem qby {R:Type}:Z2e X (qbx (R:=R)):=Zke xok qbn (e:=qbt) q5p q5 (st:=fun(x:tq8)=>W0 x.u6 x.v9) (prj:=fun(x:tq8)=>(x.1,x.u5)) (emb:=qbv) qbu (fun x=>(qbw x).trans (by unfold W0 Wb;simp only[Zk2,ZjT,Zk3,Option.map_some,Option.map_none];rfl)) q5
theorem qbz (x0:CoRecord) (x1:Z7) (x2:Z9):Zkg X qbm [(.st 20),(.st 22),(.st 23)] [.bool] q5o qbx 12 4 (x0,x1,x2,())=WE x0 x1 x2:=by kernel_rfl
noncomputable def qbA:F7 S:=⟨[(.st 20),(.st 22),(.st 23)],[.bool],fun xs=>X1w xs.1 xs.2.1 xs.u2⟩
theorem X3X:Zav X 4 qbA:=Zkd (Zkc xok qbn q5p qby 12 4) fun xs _ h=>((qbz xs.1 xs.2.1 xs.u2).trans (X32 xs.1 xs.2.1 xs.u2).symm).trans h
end Nore
