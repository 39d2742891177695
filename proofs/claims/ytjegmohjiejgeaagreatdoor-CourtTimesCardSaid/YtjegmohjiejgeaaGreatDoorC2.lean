/- The code comes to the plain functions. -/
import Derived.Test.YtjegmohjiejgeaaGreatDoorC1
set_option linter.unusedSectionVars false
set_option linter.unusedVariables false
set_option linter.unusedSimpArgs false
set_option maxRecDepth 100000
open Go Go.Ab Go.Proofs Go.Proofs.YtjegmohjiejgeaaGreatDoor
open Go.Ab.Tr renaming node->N,leaf->L
namespace Nore
noncomputable section
theorem qcT (x:tq6):LE.step X qcP q7f qc7 qcC 12 x=W5 x.1 x.u4 x.u6 x.u7 x.u8 x.u10 x.u17 x.u18 x.u19 x.u20 x.u21 x.u22 x.u24 x.u26 x.u27 x.u28 x.v29 x.2.1 x.u2 x.u3 x.u5 x.u9 x.u11 x.u12 x.u13 x.u14 x.u15 x.u16 x.u23 x.u25 (fun w0 w1 w2 w3 w4 w5 w6 w7 w8 w9 w10 w11 w12=>(Sum.inl (x.1,w0,w1,w2,x.u4,w3,x.u6,x.u7,x.u8,w4,x.u10,w5,w6,w7,w8,w9,w10,x.u17,x.u18,x.u19,x.u20,x.u21,x.u22,w11,x.u24,w12,x.u26,x.u27,x.u28,x.v29))) (fun p0 p1 p2 p3 p4 p5 p6 p7 p8 p9 p10 p11 p12 p13 p14 p15 p16=>(Sum.inr (.inl (p0,p1,p2,x.u4,p3,p4,x.u6,p5,x.u8,p6,x.u10,p7,p8,p9,p10,p11,p12,x.u17,x.u18,x.u19,x.u20,x.u21,x.u22,p13,p14,x.u24,p15,p16,x.u26,x.u27,x.u28,x.v29)))) (fun p0 p1 p2 p3 p4 p5 p6 p7 p8 p9 p10 p11 p12 p13 p14=>(Sum.inr (.inr (.inl (p0,p1,x.u4,p2,p3,x.u6,p4,x.u8,p5,x.u10,p6,p7,p8,p9,p10,p11,x.u17,x.u18,x.u19,x.u20,x.u21,x.u22,p12,p13,x.u24,p14,x.u26,x.u27,x.u28,x.v29))))) (fun p0 p1 p2 p3 p4 p5 p6 p7 p8 p9 p10 p11 p12 p13 p14 p15 p16=>(Sum.inr (.inr (.inr (.inl (p0,p1,x.u4,p2,p3,x.u6,p4,x.u8,p5,x.u10,p6,p7,p8,p9,p10,p11,p12,p13,x.u17,x.u18,x.u19,x.u20,x.u21,x.u22,p14,p15,x.u24,p16,x.u26,x.u27,x.u28,x.v29)))))) (fun p0 p1 p2 p3 p4 p5 p6 p7 p8 p9 p10 p11 p12 p13 p14=>(Sum.inr (.inr (.inr (.inr (.inl (p0,p1,x.u4,p2,p3,x.u6,p4,x.u8,p5,x.u10,p6,p7,p8,p9,p10,p11,x.u17,x.u18,x.u19,x.u20,x.u21,x.u22,p12,p13,x.u24,p14,x.u26,x.u27,x.u28,x.v29))))))) (fun p0 p1 p2 p3 p4 p5 p6 p7 p8 p9 p10 p11 p12 p13 p14 p15 p16=>(Sum.inr (.inr (.inr (.inr (.inr (.inl (p0,p1,x.u4,p2,p3,x.u6,p4,x.u8,p5,p6,x.u10,p7,p8,p9,p10,p11,p12,x.u17,x.u18,x.u19,x.u20,x.u21,x.u22,p13,p14,x.u24,p15,x.u26,x.u27,x.u28,x.v29,p16)))))))) (fun p0 p1 p2 p3 p4 p5 p6 p7 p8 p9 p10 p11 p12 p13 p14=>(Sum.inr (.inr (.inr (.inr (.inr (.inr (.inl (p0,p1,x.u4,p2,p3,x.u6,p4,x.u8,p5,x.u10,p6,p7,p8,p9,p10,p11,x.u17,x.u18,x.u19,x.u20,x.u21,x.u22,p12,p13,x.u24,p14,x.u26,x.u27,x.u28,x.v29))))))))) (fun p0 p1 p2 p3 p4 p5 p6 p7 p8 p9 p10 p11 p12 p13 p14 p15=>(Sum.inr (.inr (.inr (.inr (.inr (.inr (.inr (.inl (p0,p1,p2,x.u4,p3,x.u10,x.u6,p4,x.u8,p5,x.u10,p6,p7,p8,p9,p10,p11,x.u17,x.u18,x.u19,x.u20,x.u21,x.u22,p12,p13,x.u24,p14,p15,x.u26,x.u27,x.u28,x.v29)))))))))) (fun p0 p1 p2 p3 p4 p5 p6 p7 p8 p9 p10 p11 p12 p13=>(Sum.inr (.inr (.inr (.inr (.inr (.inr (.inr (.inr (.inl (p0,p1,x.u4,p2,x.u10,x.u6,p3,x.u8,p4,x.u10,p5,p6,p7,p8,p9,p10,x.u17,x.u18,x.u19,x.u20,x.u21,x.u22,p11,p12,x.u24,p13,x.u26,x.u27,x.u28,x.v29))))))))))) (fun p0 p1 p2 p3 p4 p5 p6 p7 p8 p9 p10=>(Sum.inr (.inr (.inr (.inr (.inr (.inr (.inr (.inr (.inr (p0,x.u4,p1,x.u6,x.u7,x.u8,p2,x.u10,p3,p4,p5,p6,p7,p8,x.u17,x.u18,x.u19,x.u20,x.u21,x.u22,p9,x.u24,p10,x.u26,x.u27,x.u28,x.v29))))))))))):=by kernel_rfl
theorem qcV {R:Type} (x:tq6) (k:tq3->Option R) (r:R) (h:qcR x k=some r):∃o,Z66 (LE.step X qcP q7f qc7 qcC 12) x o/\k o=some r:=by
 obtain⟨o,h1,h2⟩:=Z0 h;exact⟨qcQ x o,Zk6 (st:=fun(x:tq6)=>Wo x.1 x.u4 x.u6 x.u7 x.u8 x.u10 x.u17 x.u18 x.u19 x.u20 x.u21 x.u22 x.u24 x.u26 x.u27 x.u28 x.v29) (prj:=fun x=>(x.2.1,x.u2,x.u3,x.u5,x.u9,x.u11,x.u12,x.u13,x.u14,x.u15,x.u16,x.u23,x.u25)) (emb:=qcS) (embO:=qcQ) (fun x=>(qcT x).trans (by unfold Wo W5 X2;simp only[ZjX,ZjO,ZjY,Option.map_some,Option.map_none];rfl)) (fun _ _=>rfl) (fun _ _=>rfl) (fun _ _ _=>rfl) (fun _ _ _=>rfl) (fun _=>rfl) (Z25.1 h1),by first|exact h2|(rcases o with o|o|o|o|o|o|o|o|o<;>exact h2)⟩
def qcW {R:Type}:Z2G S R:=LE.ls X qcP qcR qcC
theorem qcX {R:Type}:Z4b X (qcW (R:=R)):=Zka xok q7g (e:=qcP) qc8 qcD qcV qcD
theorem qcY (x:((Nat->ZZ)×Int×Z9×(Nat->ZZ)×Z9×Int×Bool×(List Zt)×Int×CoRecord×Bool×CoRecord)):PE.step X qcb q7f qc7 qcW 12 x=XU x.1 x.2.1 x.u2 x.u3 x.u4 x.u5 x.u6 x.u7 x.u8 x.u9 x.u10 x.v11:=by kernel_rfl
theorem qcZ:ZcA X qcb XQ:=Zkb (ZjB xok q7g qc8 qcX 12) fun x _ h=>((qcY x).trans (X1D x).symm).trans h
def qd0 {R:Type}:Prs S R:=PE.ps X qcb (fun x q=>(XQ x).bind q) qc7
theorem qd1 {R:Type}:Z8Z X (qd0 (R:=R)):=Zk3 (e:=qcb) qcZ qc8
def qd2:StT S:=⟨(N (N L (some (.ptr 0 0)) L) (some (.yld 5)) L),o1M,6⟩
def qd3:Way S:=⟨.ret,⟨(N L (some (.tup [])) L),o1M,6⟩,[(.arr (.st 5)),(.st 22),.int,.bool,(.lst (.st 21)),.int,(.st 20),(.st 22),.bool,(.st 20)]⟩
def qd4:PE S:=⟨56,2,qd2,[(.arr (.st 5)),(.st 22),.int,.bool,(.lst (.st 21)),.int,(.st 20),(.st 22),.bool,(.st 20)],[qd3]⟩
def qd5:List (Nat×F7 S):=[(58,q79),(29,q5y)]
theorem qd6:ZaC X qd5:=⟨q7a,q5z,trivial⟩
def qd9:Key:=⟨[56],56,none,[0,0,1,0,1,1],0,13⟩
def qda:StT S:=⟨(N (N (N L (some (.ptr 7 0)) (N L vH L)) (some (.ptr 0 0)) (N (N L vD L) none L)) none (N L (some (.ptr 6 0)) (N (N L vH L) none L))),o1B,13⟩
def qdb:Way S:=⟨(.exit 0),⟨(N (N (N L (some (.ptr 7 0)) L) (some (.ptr 0 0)) L) none (N L (some (.ptr 6 0)) L)),o1B,14⟩,[(.arr (.st 5)),(.arr (.st 5)),(.st 22),.int,.bool,(.lst (.st 21)),.int,(.st 20),(.st 22),.bool,(.st 20)]⟩
def qdc:LE S:=⟨qd9,qda,[.int,(.lst (.st 19)),.int,(.arr (.st 5)),(.arr (.st 5)),(.st 22),.int,.bool,(.lst (.st 21)),.int,(.st 20),(.st 22),.bool,(.st 20)],[qdb]⟩
def qdd (x:tqf):(Nat->ZZ)->tqn:=fun y0=>(y0,x.u4,x.u5,x.u6,x.u7,x.u8,x.u9,x.u10,x.u11,x.u12,x.v13)
def qde {R:Type} (x:tqf) (k:tqn->Option R):Option R:=(Wv x.2.1 x.u2 x.u4 x.u5 x.u6 x.u7 x.u8 x.u9 x.u10 x.u11 x.u12 x.v13 (x.1,x.u3)).bind (fun y0=>k (y0,x.u4,x.u5,x.u6,x.u7,x.u8,x.u9,x.u10,x.u11,x.u12,x.v13))
def qdf (x:tqf) (v:(Int×(Nat->ZZ))):tqf:=(v.1,x.2.1,x.u2,v.2,x.u4,x.u5,x.u6,x.u7,x.u8,x.u9,x.u10,x.u11,x.u12,x.v13)
theorem qdg (x:tqf):LE.step X qdc qd5 q8P q4 12 x=Wr x.2.1 x.u2 x.u4 x.u5 x.u6 x.u7 x.u8 x.u9 x.u10 x.u11 x.u12 x.v13 x.1 x.u3 (fun w0 w1=>(Sum.inl (w0,x.2.1,x.u2,w1,x.u4,x.u5,x.u6,x.u7,x.u8,x.u9,x.u10,x.u11,x.u12,x.v13))) (fun p0=>(Sum.inr (p0,x.u4,x.u5,x.u6,x.u7,x.u8,x.u9,x.u10,x.u11,x.u12,x.v13))):=by kernel_rfl
theorem qdi {R:Type} (x:tqf) (k:tqn->Option R) (r:R) (h:qde x k=some r):∃o,Z66 (LE.step X qdc qd5 q8P q4 12) x o/\k o=some r:=by
 obtain⟨o,h1,h2⟩:=Z0 h;exact⟨qdd x o,Zk6 (st:=fun(x:tqf)=>Wz x.2.1 x.u2 x.u4 x.u5 x.u6 x.u7 x.u8 x.u9 x.u10 x.u11 x.u12 x.v13) (prj:=fun x=>(x.1,x.u3)) (emb:=qdf) (embO:=qdd) (fun x=>(qdg x).trans (by unfold Wz Wr X6;simp only[ZjX,ZjO,ZjY,Option.map_some,Option.map_none];rfl)) (fun _ _=>rfl) (fun _ _=>rfl) (fun _ _ _=>rfl) (fun _ _ _=>rfl) (fun _=>rfl) (Z25.1 h1),by first|exact h2|(rcases o with o<;>exact h2)⟩
def qdj {R:Type}:Z2G S R:=LE.ls X qdc qde q4
theorem qdk {R:Type}:Z4b X (qdj (R:=R)):=Zka xok qd6 (e:=qdc) q8Q q5 qdi q5
theorem qdl (x:((Nat->ZZ)×Z9×Int×Bool×(List Zt)×Int×CoRecord×Z9×Bool×CoRecord)):PE.step X qd4 qd5 qd0 qdj 12 x=XE x.1 x.2.1 x.u2 x.u3 x.u4 x.u5 x.u6 x.u7 x.u8 x.v9:=by kernel_rfl
theorem qdm:ZcA X qd4 XZ:=Zkb (ZjB xok qd6 qd1 qdk 12) fun x _ h=>((qdl x).trans (X21 x).symm).trans h
def qdn {R:Type}:Prs S R:=PE.ps X qd4 (fun x q=>(XZ x).bind q) qd0
theorem qdo {R:Type}:Z8Z X (qdn (R:=R)):=Zk3 (e:=qd4) qdm qd1
def qdp:List (Nat×F7 S):=[(29,q5y),(58,q79)]
theorem qdq:ZaC X (qdp):=⟨q5z,q7a,trivial⟩
theorem qdt (x0:CoRecord) (x1:List Zt):Zkc X qdp [(.st 20),(.sl (.st 21))] [(.sl (.st 5)),(.int .i64)] qdn q4 12 10 (x0,x1,())=X1o x0 x1:=by kernel_rfl
def qdu:F7 S:=⟨[(.st 20),(.sl (.st 21))],[(.sl (.st 5)),(.int .i64)],fun xs=>X2S xs.1 xs.2.1⟩
theorem qdv:Zaq X 10 qdu:=Zk9 (Zk8 xok qdq qdo q5 12 10) fun xs _ h=>((qdt xs.1 xs.2.1).trans (X3a xs.1 xs.2.1).symm).trans h
def qdw:List (Nat×F7 S):=[(7,q5r),(35,q9m),(34,qb0)]
theorem qdx:ZaC X (qdw):=⟨q5s,q9n,qb1,trivial⟩
def qdA:Key:=⟨[11],11,none,[0,0,1,0,1,0,0,1,0,0,1,0,1,1,1,1,1,1],2,48⟩
def qdB:StT S:=⟨(N v1w none (N (N (N L (some (.sl (.st 24) [])) L) none (N L vH L)) (some (.ptr 0 0)) (N (N L vH L) none L))),o1k,49⟩
def qdC:Way S:=⟨(.exit 2),⟨(N v1w none v1v),o1k,53⟩,[(.lst (.st 24)),.int,(.st 5),(.st 20),(.lst (.st 5))]⟩
def qdD:LE S:=⟨qdA,qdB,[(.lst (.st 24)),.int,.int,(.st 5),(.st 20),(.lst (.st 5))],[qdC]⟩
def qdE (x:tqB):ZZ->tqG:=fun y0=>(x.1,x.u2,y0,x.u4,x.v5)
def qdF {R:Type} (x:tqB) (k:tqG->Option R):Option R:=(X1R x.1 x.u2 (x.2.1,x.u3)).bind (fun y0=>k (x.1,x.u2,y0,x.u4,x.v5))
def qdG (x:tqB) (v:(Int×ZZ)):tqB:=(x.1,v.1,x.u2,v.2,x.u4,x.v5)
theorem qdH (x:tqB):LE.step X qdD qdw qdn q4 12 x=X17 x.1 x.u2 x.2.1 x.u3 (fun w0 w1=>(Sum.inl (x.1,w0,x.u2,w1,x.u4,x.v5))) (fun p0=>(Sum.inr (x.1,x.u2,p0,x.u4,x.v5))):=by kernel_rfl
theorem qdJ {R:Type} (x:tqB) (k:tqG->Option R) (r:R) (h:qdF x k=some r):∃o,Z66 (LE.step X qdD qdw qdn q4 12) x o/\k o=some r:=by
 obtain⟨o,h1,h2⟩:=Z0 h;exact⟨qdE x o,Zk6 (st:=fun(x:tqB)=>WR x.1 x.u2) (prj:=fun x=>(x.2.1,x.u3)) (emb:=qdG) (embO:=qdE) (fun x=>(qdH x).trans (by unfold WR X17;simp only[ZjX,ZjO,ZjY,Option.map_some,Option.map_none];rfl)) (fun _ _=>rfl) (fun _ _=>rfl) (fun _ _ _=>rfl) (fun _ _ _=>rfl) (fun _=>rfl) (Z25.1 h1),by first|exact h2|(rcases o with o<;>exact h2)⟩
def qdK {R:Type}:Z2G S R:=LE.ls X qdD qdF q4
theorem qdL {R:Type}:Z4b X (qdK (R:=R)):=Zka xok qdx (e:=qdD) qdo q5 qdJ q5
def qdM:Key:=⟨[11],11,none,[0,0,1,0,1,1,1,1,1,1],0,24⟩
def qdN:StT S:=⟨(N (N L none (N (N L (some (.rs 24 0)) L) none L)) none v1v),(N L oj (N (N (N L none (N L oy L)) none L) none L)),25⟩
def qdO:Way S:=⟨(.exit 0),⟨(N (N L none (N (N L (some (.rs 24 0)) L) none L)) none L),(N L oj (N (N (N L none (N L oy L)) none L) none L)),30⟩,[(.st 20),(.lst (.st 5))]⟩
def qdP:LE S:=⟨qdM,qdN,[(.lst (.st 24)),.int,(.st 20),(.lst (.st 5))],[qdO]⟩
def qdQ (x:tqI):(List ZZ)->(CoRecord×(List ZZ)):=fun y0=>(x.u2,y0)
def qdR {R:Type} (x:tqI) (k:(CoRecord×(List ZZ))->Option R):Option R:=(X1Q x.1 x.u2 (x.2.1,x.v3)).bind (fun y0=>k (x.u2,y0))
def qdS (x:tqI) (v:(Int×(List ZZ))):tqI:=(x.1,v.1,x.u2,v.2)
theorem qdT (x:tqI):LE.step X qdP qdw qdn qdK 12 x=X16 x.1 x.u2 x.2.1 x.v3 (fun w0 w1=>(Sum.inl (x.1,w0,x.u2,w1))) (fun p0=>(Sum.inr (x.u2,p0))):=by kernel_rfl
theorem qdV {R:Type} (x:tqI) (k:(CoRecord×(List ZZ))->Option R) (r:R) (h:qdR x k=some r):∃o,Z66 (LE.step X qdP qdw qdn qdK 12) x o/\k o=some r:=by
 obtain⟨o,h1,h2⟩:=Z0 h;exact⟨qdQ x o,Zk6 (st:=fun(x:tqI)=>WQ x.1 x.u2) (prj:=fun x=>(x.2.1,x.v3)) (emb:=qdS) (embO:=qdQ) (fun x=>(qdT x).trans (by unfold WQ X16;simp only[ZjX,ZjO,ZjY,Option.map_some,Option.map_none];rfl)) (fun _ _=>rfl) (fun _ _=>rfl) (fun _ _ _=>rfl) (fun _ _ _=>rfl) (fun _=>rfl) (Z25.1 h1),by first|exact h2|(rcases o with o<;>exact h2)⟩
def qdW {R:Type}:Z2G S R:=LE.ls X qdP qdR qdK
theorem qdX {R:Type}:Z4b X (qdW (R:=R)):=Zka xok qdx (e:=qdP) qdo qdL qdV qdL
theorem qdY (x0:CoRecord) (x1:List Zt):Zkc X qdw [(.st 20),(.sl (.st 21))] [(.sl (.st 5)),(.int .i64)] qdn qdW 12 11 (x0,x1,())=X1p x0 x1:=by kernel_rfl
def qdZ:F7 S:=⟨[(.st 20),(.sl (.st 21))],[(.sl (.st 5)),(.int .i64)],fun xs=>X2X xs.1 xs.2.1⟩
theorem qe0:Zaq X 11 qdZ:=Zk9 (Zk8 xok qdx qdo qdX 12 11) fun xs _ h=>((qdY xs.1 xs.2.1).trans (X3i xs.1 xs.2.1).symm).trans h
def qe5:Key:=⟨[12],12,none,[0,0,1,0,1,1],0,7⟩
def qe6:StT S:=⟨(N (N L vG (N L vH L)) vG L),L,7⟩
def qe7:Way S:=⟨.ret,⟨(N L none (N (N L vI L) none L)),L,21⟩,[.bool]⟩
def qe8:Way S:=⟨(.exit 0),⟨L,L,11⟩,[]⟩
def qe9:LE S:=⟨qe5,qe6,[(.lst (.st 5)),.int,(.lst (.st 5))],[qe7,qe8]⟩
def qea (x:X6w):(Bool⊕Unit)->(Bool⊕Unit):=Sum.elim (fun y0=>(.inl y0)) (fun y1=>(.inr ()))
def qeb {R:Type} (x:X6w) (k:(Bool⊕Unit)->Option R):Option R:=(X2w x.1 x.v2 x.2.1).bind (Sum.elim (fun y0=>k (.inl y0)) (fun y1=>k (.inr ())))
def qec (x:X6w) (v:Int):X6w:=(x.1,v,x.v2)
theorem qed (x:X6w):LE.step X qe9 q2 qdn q4 12 x=X11 x.1 x.v2 x.2.1 (fun w0=>(Sum.inl (x.1,w0,x.v2))) (fun p0=>(Sum.inr (.inl p0))) (Sum.inr (.inr ())):=by kernel_rfl
theorem qef {R:Type} (x:X6w) (k:(Bool⊕Unit)->Option R) (r:R) (h:qeb x k=some r):∃o,Z66 (LE.step X qe9 q2 qdn q4 12) x o/\k o=some r:=by
 obtain⟨o,h1,h2⟩:=Z0 h;exact⟨qea x o,Zk6 (st:=fun(x:X6w)=>WP x.1 x.v2) (prj:=fun x=>x.2.1) (emb:=qec) (embO:=qea) (fun x=>(qed x).trans (by unfold WP X11;simp only[ZjX,ZjO,ZjY,Option.map_some,Option.map_none];rfl)) (fun _ _=>rfl) (fun _ _=>rfl) (fun _ _ _=>rfl) (fun _ _ _=>rfl) (fun _=>rfl) (Z25.1 h1),by first|exact h2|(rcases o with o|o<;>exact h2)⟩
def qeg {R:Type}:Z2G S R:=LE.ls X qe9 qeb q4
theorem qeh {R:Type}:Z4b X (qeg (R:=R)):=Zka xok q3 (e:=qe9) qdo q5 qef q5
theorem qei (x0 x1:List ZZ):Zkc X q2 [(.sl (.st 5)),(.sl (.st 5))] [.bool] qdn qeg 12 12 (x0,x1,())=X23 x0 x1:=by kernel_rfl
def qej:F7 S:=⟨[(.sl (.st 5)),(.sl (.st 5))],[.bool],fun xs=>X3s xs.1 xs.2.1⟩
theorem qek:Zaq X 12 qej:=Zk9 (Zk8 xok q3 qdo qeh 12 12) fun xs _ h=>((qei xs.1 xs.2.1).trans (X3W xs.1 xs.2.1).symm).trans h
end
end Nore
