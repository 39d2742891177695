/- The code comes to the plain functions. -/
import Derived.Test.YtlngokonhalcdaaGreatDoorC1
import Derived.Test.YtlngokonhalcdaaGreatDoorK2
set_option linter.unusedSectionVars false
set_option linter.unusedVariables false
set_option linter.unusedSimpArgs false
set_option maxRecDepth 100000
open Go Go.Ab Go.Proofs Go.Proofs.YtlngokonhalcdaaGreatDoor
open Go.Ab.Tr renaming node->N,leaf->L
namespace Nore
noncomputable section
def qaA:F7 S:=⟨[],[.bool],fun _=>X3x⟩
theorem qaB:Zgf X 19 qaA:=Zhg (X:=X) (F:=X3x) rfl ZfK
def qaC:List (Nat×F7 S):=[(24,q9H),(40,qa8),(19,qaA),(57,qar),(50,qay)]
theorem qaD:ZaC X (qaC):=⟨q9I,qa9,qaB,qas,qaz,trivial⟩
def qaG:Key:=⟨[15],15,none,[0,0,1,0,1,1,1],0,15⟩
def qaH:StT S:=⟨(N (N v1b vu (N (N L vw L) none L)) none (N (N (N L vw L) none L) (some (.int .u8 0)) L)),(N L ob L),15⟩
def qaI:Way S:=⟨.ret,⟨(N L none (N L none (N L vx L))),(N L ob L),50⟩,[.bool,(.st 20)]⟩
def qaJ:Way S:=⟨(.exit 0),⟨(N (N v1b vu L) none (N (N (N L vw L) none L) (some (.int .u8 0)) L)),(N L ob L),19⟩,[(.lst (.int .i64)),(.lst (.st 21)),.int,.int,(.st 20)]⟩
def qaK:LE S:=⟨qaG,qaH,[(.lst (.int .i64)),(.lst (.st 21)),.int,.int,.int,(.st 20)],[qaI,qaJ]⟩
def qaL (x:tqu):(Bool⊕Unit)->tqo:=Sum.elim (fun y0=>(.inl (y0,x.v5))) (fun y1=>(.inr (x.1,x.2.1,x.u3,x.u4,x.v5)))
def qaM {R:Type} (x:tqu) (k:tqo->Option R):Option R:=(Wm x.1 x.2.1 x.u2).bind (Sum.elim (fun y0=>k (.inl (y0,x.v5))) (fun y1=>k (.inr (x.1,x.2.1,x.u3,x.u4,x.v5))))
def qaN (x:tqu) (v:Int):tqu:=(x.1,x.2.1,v,x.u3,x.u4,x.v5)
theorem qaO (x:tqu):LE.step X qaK qaC q94 q4 12 x=XS x.1 x.2.1 x.u2 (fun w0=>(Sum.inl (x.1,x.2.1,w0,x.u3,x.u4,x.v5))) (fun p0=>(Sum.inr (.inl (p0,x.v5)))) (Sum.inr (.inr (x.1,x.2.1,x.u3,x.u4,x.v5))):=by kernel_rfl
theorem qaQ {R:Type} (x:tqu) (k:tqo->Option R) (r:R) (h:qaM x k=some r):∃o,Z6a (LE.step X qaK qaC q94 q4 12) x o/\k o=some r:=by
 obtain⟨o,h1,h2⟩:=Z0 h;exact⟨qaL x o,Zk9 (st:=fun(x:tqu)=>XJ x.1 x.2.1) (prj:=fun x=>x.u2) (emb:=qaN) (embO:=qaL) (fun x=>(qaO x).trans (by unfold XJ XS;simp only[Zk0,ZjR,Zk1,Option.map_some,Option.map_none];rfl)) (fun _ _=>rfl) (fun _ _=>rfl) (fun _ _ _=>rfl) (fun _ _ _=>rfl) (fun _=>rfl) (Z29.1 h1),by first|exact h2|(rcases o with o|o<;>exact h2)⟩
def qaR {R:Type}:Z2K S R:=LE.ls X qaK qaM q4
theorem qaS {R:Type}:Z4g X (qaR (R:=R)):=Zkd xok qaD (e:=qaK) q95 q5 qaQ q5
def qaT:Key:=⟨[15],15,none,[0,0,1,0,1,1,1,1,1],2,21⟩
def qaU:StT S:=⟨(N (N (N (N L vs L) (some (.ptr 0 0)) (N L vw L)) vu L) none (N (N (N L vw L) none L) (some (.int .u8 0)) (N (N L (some (.rs 21 0)) L) none L))),(N (N L none o1h) ob L),22⟩
def qaV:Way S:=⟨(.exit 2),⟨(N (N v1b vu L) none (N (N (N L vw L) none L) none (N (N L (some (.rs 21 0)) L) none L))),(N (N L none o1h) ob L),26⟩,[(.lst (.int .i64)),(.lst (.st 21)),.int,(.lst (.int .i64)),(.st 20)]⟩
def qaW:LE S:=⟨qaT,qaU,[(.lst (.int .i64)),.int,(.lst (.st 21)),.int,.int,(.lst (.int .i64)),(.st 20)],[qaV]⟩
def qaX (x:tqp):(List Int)->tqt:=fun y0=>(x.1,x.u2,x.u3,y0,x.v6)
def qaY {R:Type} (x:tqp) (k:tqt->Option R):Option R:=(Wn x.u2 x.u4 (x.2.1,x.u5)).bind (fun y0=>k (x.1,x.u2,x.u3,y0,x.v6))
def qaZ (x:tqp) (v:(Int×(List Int))):tqp:=(x.1,v.1,x.u2,x.u3,x.u4,v.2,x.v6)
theorem qb0 (x:tqp):LE.step X qaW qaC q94 qaR 12 x=XT x.u2 x.u4 x.2.1 x.u5 (fun w0 w1=>(Sum.inl (x.1,w0,x.u2,x.u3,x.u4,w1,x.v6))) (fun p0=>(Sum.inr (x.1,x.u2,x.u3,p0,x.v6))):=by kernel_rfl
theorem qb2 {R:Type} (x:tqp) (k:tqt->Option R) (r:R) (h:qaY x k=some r):∃o,Z6a (LE.step X qaW qaC q94 qaR 12) x o/\k o=some r:=by
 obtain⟨o,h1,h2⟩:=Z0 h;exact⟨qaX x o,Zk9 (st:=fun(x:tqp)=>XK x.u2 x.u4) (prj:=fun x=>(x.2.1,x.u5)) (emb:=qaZ) (embO:=qaX) (fun x=>(qb0 x).trans (by unfold XK XT;simp only[Zk0,ZjR,Zk1,Option.map_some,Option.map_none];rfl)) (fun _ _=>rfl) (fun _ _=>rfl) (fun _ _ _=>rfl) (fun _ _ _=>rfl) (fun _=>rfl) (Z29.1 h1),by first|exact h2|(rcases o with o<;>exact h2)⟩
def qb3 {R:Type}:Z2K S R:=LE.ls X qaW qaY qaR
theorem qb4 {R:Type}:Z4g X (qb3 (R:=R)):=Zkd xok qaD (e:=qaW) q95 qaS qb2 qaS
theorem qb5 (x0:CoRecord) (x1:List Zr) (x2:Int):Zkf X qaC [(.st 20),(.sl (.st 21)),(.int .u8)] [.bool] q94 qb3 12 15 (x0,x1,x2,())=Wi x0 x1 x2:=by kernel_rfl
def qb6:F7 S:=⟨[(.st 20),(.sl (.st 21)),(.int .u8)],[.bool],fun xs=>WU xs.1 xs.2.1 xs.u2⟩
theorem X2w:Zgf X 15 qb6:=Zkc (Zkb xok qaD q95 qb4 12 15) fun xs _ h=>((qb5 xs.1 xs.2.1 xs.u2).trans (X1V xs.1 xs.2.1 xs.u2).symm).trans h
end
end Nore
