/- The code comes to the plain functions. -/
import Derived.Test.YtaaalkppbbpacaaGreatDoorC1
import Derived.Test.YtaaalkppbbpacaaGreatDoorK7
set_option linter.unusedSectionVars false
set_option linter.unusedVariables false
set_option linter.unusedSimpArgs false
set_option maxRecDepth 100000
open Go Go.Ab Go.Proofs Go.Proofs.YtaaalkppbbpacaaGreatDoor
open Go.Ab.Tr renaming node->N,leaf->L
namespace Nore
noncomputable section
def qnr:F7 S:=⟨[],[.bool],fun _=>X8m⟩
theorem qns:Z9R X 6 qnr:=Zga (X:=X) (F:=X8m) rfl ZeL
def qnt:F7 S:=⟨[],[.bool],fun _=>X8p⟩
theorem qnu:Z9R X 12 qnt:=Zga (X:=X) (F:=X8p) rfl ZeM
def qnv:List (Nat×F7 S):=[(11,q4q),(6,qnr),(12,qnt),(14,qkd),(72,qky),(73,qkS),(74,qkr),(75,qm3),(76,qmB),(15,qhf),(16,qhI),(17,q8t),(18,qmI),(19,qn2),(20,qaP),(21,q1L),(22,qc6)]
theorem qnw:Za2 X (qnv):=⟨q4r,qns,qnu,qke,qkz,qkT,qks,qm4,qmC,qhg,qhJ,q8u,qmJ,qn3,qaQ,q1M,qc7,trivial⟩
def qnz:Key:=⟨[4],4,none,[0,0,1,0,1,1,1,1,1,1,1,1],0,51⟩
def qnA:StT S:=⟨(N v1j none (N L (some (.ptr 0 0)) (N (N L vR L) none (N L vT L)))),o1b,51⟩
def qnB:Way S:=⟨.ret,⟨v1Z,o1b,72⟩,[.bool,(.st 22),(.lst (.st 23)),(.st 20),(.st 6),(.st 2)]⟩
def qnC:Way S:=⟨(.exit 0),⟨(N v1j none (N L (some (.ptr 0 0)) L)),o1b,55⟩,[.bool,(.st 22),(.lst (.st 23)),(.st 20),(.st 6),(.st 2)]⟩
def qnD:LE S:=⟨qnz,qnA,[.bool,(.lst (.st 2)),.int,(.st 22),(.lst (.st 23)),(.st 20),(.st 6),(.st 2)],[qnB,qnC]⟩
def qnE (x:tqN):(Bool⊕Bool)->tqj:=Sum.elim (fun y0=>(.inl (y0,x.u3,x.u4,x.u5,x.u6,x.v7))) (fun y1=>(.inr (y1,x.u3,x.u4,x.u5,x.u6,x.v7)))
def qnF {R:Type} (x:tqN) (k:tqj->Option R):Option R:=(X2l x.2.1 x.u5 (x.1,x.u2)).bind (Sum.elim (fun y0=>k (.inl (y0,x.u3,x.u4,x.u5,x.u6,x.v7))) (fun y1=>k (.inr (y1,x.u3,x.u4,x.u5,x.u6,x.v7))))
def qnG (x:tqN) (v:(Bool×Int)):tqN:=(v.1,x.2.1,v.2,x.u3,x.u4,x.u5,x.u6,x.v7)
theorem qnH (x:tqN):LE.step X qnD qnv qnp q4 12 x=Xz x.2.1 x.u5 x.1 x.u2 (fun w0 w1=>(Sum.inl (w0,x.2.1,w1,x.u3,x.u4,x.u5,x.u6,x.v7))) (fun p0=>(Sum.inr (.inl (p0,x.u3,x.u4,x.u5,x.u6,x.v7)))) (fun p0=>(Sum.inr (.inr (p0,x.u3,x.u4,x.u5,x.u6,x.v7)))):=by kernel_rfl
theorem qnJ {R:Type} (x:tqN) (k:tqj->Option R) (r:R) (h:qnF x k=some r):∃o,Z5Q (LE.step X qnD qnv qnp q4 12) x o/\k o=some r:=by
 obtain⟨o,h1,h2⟩:=Z0 h;exact⟨qnE x o,ZiO (st:=fun(x:tqN)=>Xn x.2.1 x.u5) (prj:=fun x=>(x.1,x.u2)) (emb:=qnG) (embO:=qnE) (fun x=>(qnH x).trans (by unfold Xn Xz;simp only[ZiG,Ziy,ZiH,Option.map_some,Option.map_none];rfl)) (fun _ _=>rfl) (fun _ _=>rfl) (fun _ _ _=>rfl) (fun _ _ _=>rfl) (fun _=>rfl) (Z29.1 h1),by first|exact h2|(rcases o with o|o<;>exact h2)⟩
def qnK {R:Type}:Z2L S R:=LE.ls X qnD qnF q4
theorem qnL {R:Type}:Z45 X (qnK (R:=R)):=ZiT xok qnw (e:=qnD) qnq q5 qnJ q5
def qnM:Key:=⟨[4],4,none,[0,0,1,0,1,1,1,1,1,1,1,1,1],2,56⟩
def qnN:StT S:=⟨(N v1j none (N L (some (.ptr 0 0)) v1T)),o1b,56⟩
def qnO:Way S:=⟨.ret,⟨v1Z,(N (N (N (N L none (N (N (N L ol L) none L) none L)) none L) og (N (N L none (N L oF L)) none L)) of (N (N (N L none (N (N L op L) none L)) none L) none (N (N L none (N L none (N (N L on L) none L))) none (N (N L on L) none L)))),97⟩,[.bool,(.st 7),(.st 22),(.lst (.st 23)),(.st 20),(.st 6),(.st 2),(.st 2)]⟩
def qnP:Way S:=⟨(.exit 2),⟨(N (N v1P none (N (N L (some (.ptr 22 0)) L) none L)) none (N L (some (.ptr 0 0)) L)),o1b,65⟩,[(.st 22),(.lst (.st 23)),(.st 20),(.st 6),(.st 2)]⟩
def qnQ:LE S:=⟨qnM,qnN,[.bool,.int,(.st 22),(.lst (.st 23)),(.st 20),(.st 6),(.st 2)],[qnO,qnP]⟩
def qnR (x:tqX):((Bool×CtSand×Point)⊕Unit)->tqg:=Sum.elim (fun y0=>(.inl (y0.1,y0.2.1,x.u2,x.u3,x.u4,x.u5,y0.v2,x.v6))) (fun y1=>(.inr (x.u2,x.u3,x.u4,x.u5,x.v6)))
def qnS {R:Type} (x:tqX) (k:tqg->Option R):Option R:=(WM x.1 x.u2 x.u4 x.v6 x.2.1).bind (Sum.elim (fun y0=>k (.inl (y0.1,y0.2.1,x.u2,x.u3,x.u4,x.u5,y0.v2,x.v6))) (fun y1=>k (.inr (x.u2,x.u3,x.u4,x.u5,x.v6))))
def qnT (x:tqX) (v:Int):tqX:=(x.1,v,x.u2,x.u3,x.u4,x.u5,x.v6)
theorem qnU (x:tqX):LE.step X qnQ qnv qnp qnK 12 x=Xd x.1 x.u2 x.u4 x.v6 x.2.1 (fun w0=>(Sum.inl (x.1,w0,x.u2,x.u3,x.u4,x.u5,x.v6))) (fun p0 p1 p2=>(Sum.inr (.inl (p0,p1,x.u2,x.u3,x.u4,x.u5,p2,x.v6)))) (Sum.inr (.inr (x.u2,x.u3,x.u4,x.u5,x.v6))):=by kernel_rfl
theorem qnW {R:Type} (x:tqX) (k:tqg->Option R) (r:R) (h:qnS x k=some r):∃o,Z5Q (LE.step X qnQ qnv qnp qnK 12) x o/\k o=some r:=by
 obtain⟨o,h1,h2⟩:=Z0 h;exact⟨qnR x o,ZiO (st:=fun(x:tqX)=>Xc x.1 x.u2 x.u4 x.v6) (prj:=fun x=>x.2.1) (emb:=qnT) (embO:=qnR) (fun x=>(qnU x).trans (by unfold Xc Xd;simp only[ZiG,Ziy,ZiH,Option.map_some,Option.map_none];rfl)) (fun _ _=>rfl) (fun _ _=>rfl) (fun _ _ _=>rfl) (fun _ _ _=>rfl) (fun _=>rfl) (Z29.1 h1),by first|exact h2|(rcases o with o|o<;>exact h2)⟩
def qnX {R:Type}:Z2L S R:=LE.ls X qnQ qnS qnK
theorem qnY {R:Type}:Z45 X (qnX (R:=R)):=ZiT xok qnw (e:=qnQ) qnq qnL qnW qnL
def qnZ:Key:=⟨[4],4,none,[0,0,1,0,1,1,1,1,0,0,1,0,0,1,0,1,1,1,1,1,1,1,1,1,1],6,105⟩
def qo0:StT S:=⟨(N (N (N L none (N L (some (.ptr 40 0)) (N L vT L))) none v1E) none (N (N (N L none (N L vO L)) none L) (some (.ptr 0 0)) (N (N L none (N L vU L)) none (N (N L vT L) none L)))),o1b,105⟩
def qo1:Way S:=⟨(.exit 6),⟨(N (N v1P none v1E) none (N L (some (.ptr 0 0)) (N (N L none (N L vU L)) none L))),o1b,109⟩,[.int,.int,.bool,(.st 22),(.lst (.st 23)),(.st 20),(.st 6),(.st 2)]⟩
def qo2:LE S:=⟨qnZ,qo0,[.int,.int,.int,(.lst (.int .i64)),.bool,.int,(.st 22),(.lst (.st 23)),(.st 20),(.st 6),(.st 2)],[qo1]⟩
def qo3 (x:tqz):Bool->tqT:=fun y0=>(x.2.1,x.u2,y0,x.u6,x.u7,x.u8,x.u9,x.v10)
def qo4 {R:Type} (x:tqz) (k:tqT->Option R):Option R:=(WO x.u3 x.u5 (x.1,x.u4)).bind (fun y0=>k (x.2.1,x.u2,y0,x.u6,x.u7,x.u8,x.u9,x.v10))
def qo5 (x:tqz) (v:(Int×Bool)):tqz:=(v.1,x.2.1,x.u2,x.u3,v.2,x.u5,x.u6,x.u7,x.u8,x.u9,x.v10)
theorem qo6 (x:tqz):LE.step X qo2 qnv qnp qnX 12 x=XB x.u3 x.u5 x.1 x.u4 (fun w0 w1=>(Sum.inl (w0,x.2.1,x.u2,x.u3,w1,x.u5,x.u6,x.u7,x.u8,x.u9,x.v10))) (fun p0=>(Sum.inr (x.2.1,x.u2,p0,x.u6,x.u7,x.u8,x.u9,x.v10))):=by kernel_rfl
theorem qo8 {R:Type} (x:tqz) (k:tqT->Option R) (r:R) (h:qo4 x k=some r):∃o,Z5Q (LE.step X qo2 qnv qnp qnX 12) x o/\k o=some r:=by
 obtain⟨o,h1,h2⟩:=Z0 h;exact⟨qo3 x o,ZiO (st:=fun(x:tqz)=>Xp x.u3 x.u5) (prj:=fun x=>(x.1,x.u4)) (emb:=qo5) (embO:=qo3) (fun x=>(qo6 x).trans (by unfold Xp XB;simp only[ZiG,Ziy,ZiH,Option.map_some,Option.map_none];rfl)) (fun _ _=>rfl) (fun _ _=>rfl) (fun _ _ _=>rfl) (fun _ _ _=>rfl) (fun _=>rfl) (Z29.1 h1),by first|exact h2|(rcases o with o<;>exact h2)⟩
def qo9 {R:Type}:Z2L S R:=LE.ls X qo2 qo4 qnX
theorem qoa {R:Type}:Z45 X (qo9 (R:=R)):=ZiT xok qnw (e:=qo2) qnq qnY qo8 qnY
def qob:Key:=⟨[4],4,none,[0,0,1,0,1,1,1,1,1,1,1,1,1,1],4,66⟩
def qoc:StT S:=⟨(N (N v1P none (N (N L (some (.ptr 22 0)) L) none (N (N L vT L) none L))) none (N L (some (.ptr 0 0)) L)),o1b,66⟩
def qod:Way S:=⟨.ret,⟨v1Z,o1b,116⟩,[.bool,(.st 22),(.lst (.st 23)),(.st 20),(.st 6),(.st 2)]⟩
def qoe:Way S:=⟨(.exit 4),⟨L,o1b,72⟩,[(.st 22),(.lst (.st 23)),(.st 20),(.st 6),(.st 2)]⟩
def qof:LE S:=⟨qob,qoc,[.int,(.st 22),(.lst (.st 23)),(.st 20),(.st 6),(.st 2)],[qod,qoe]⟩
def qog (x:Xa7):(Bool⊕Unit)->tqm:=Sum.elim (fun y0=>(.inl (y0,x.2.1,x.u2,x.u3,x.u4,x.v5))) (fun y1=>(.inr (x.2.1,x.u2,x.u3,x.u4,x.v5)))
def qoh {R:Type} (x:Xa7) (k:tqm->Option R):Option R:=(WN x.u3 x.u4 x.v5 x.1).bind (Sum.elim (fun y0=>k (.inl (y0,x.2.1,x.u2,x.u3,x.u4,x.v5))) (fun y1=>k (.inr (x.2.1,x.u2,x.u3,x.u4,x.v5))))
def qoi (x:Xa7) (v:Int):Xa7:=(v,x.2.1,x.u2,x.u3,x.u4,x.v5)
theorem qoj (x:Xa7):LE.step X qof qnv qnp qo9 12 x=XA x.u3 x.u4 x.v5 x.1 (fun w0=>(Sum.inl (w0,x.2.1,x.u2,x.u3,x.u4,x.v5))) (fun p0=>(Sum.inr (.inl (p0,x.2.1,x.u2,x.u3,x.u4,x.v5)))) (Sum.inr (.inr (x.2.1,x.u2,x.u3,x.u4,x.v5))):=by kernel_rfl
theorem qol {R:Type} (x:Xa7) (k:tqm->Option R) (r:R) (h:qoh x k=some r):∃o,Z5Q (LE.step X qof qnv qnp qo9 12) x o/\k o=some r:=by
 obtain⟨o,h1,h2⟩:=Z0 h;exact⟨qog x o,ZiO (st:=fun(x:Xa7)=>Xo x.u3 x.u4 x.v5) (prj:=fun x=>x.1) (emb:=qoi) (embO:=qog) (fun x=>(qoj x).trans (by unfold Xo XA;simp only[ZiG,Ziy,ZiH,Option.map_some,Option.map_none];rfl)) (fun _ _=>rfl) (fun _ _=>rfl) (fun _ _ _=>rfl) (fun _ _ _=>rfl) (fun _=>rfl) (Z29.1 h1),by first|exact h2|(rcases o with o|o<;>exact h2)⟩
def qom {R:Type}:Z2L S R:=LE.ls X qof qoh qo9
theorem qon {R:Type}:Z45 X (qom (R:=R)):=ZiT xok qnw (e:=qof) qnq qoa qol qoa
theorem qoo (x0:ZS) (x1:Z6):ZiV X qnv [(.st 20),(.st 22)] [.bool] qnp qom 12 4 (x0,x1,())=Ww x0 x1:=by kernel_rfl
def qop:F7 S:=⟨[(.st 20),(.st 22)],[.bool],fun xs=>X3i xs.1 xs.2.1⟩
theorem X6H:Z9R X 4 qop:=ZiS (ZiR xok qnw qnq qon 12 4) fun xs _ h=>((qoo xs.1 xs.2.1).trans (X54 xs.1 xs.2.1).symm).trans h
end
end Nore
