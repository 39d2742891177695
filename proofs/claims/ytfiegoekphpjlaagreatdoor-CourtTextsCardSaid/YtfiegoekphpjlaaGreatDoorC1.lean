/- The code comes to the plain functions. -/
import Derived.Test.YtfiegoekphpjlaaGreatDoorY
import Derived.Test.YtfiegoekphpjlaaGreatDoorD
set_option linter.unusedSectionVars false
set_option linter.unusedVariables false
set_option linter.unusedSimpArgs false
set_option maxRecDepth 100000
open Go Go.Ab Go.Proofs Go.Proofs.YtfiegoekphpjlaaGreatDoor
open Go.Ab.Tr renaming node->N,leaf->L
namespace Prod
abbrev v2 {a b s:Type} (x:a×b×s):=x.2.2
abbrev u2 {a b r s:Type} (x:a×b×r×s):=x.2.2.1
abbrev v3 {a b c s:Type} (x:a×b×c×s):=x.2.2.2
abbrev u3 {a b c r s:Type} (x:a×b×c×r×s):=x.2.2.2.1
abbrev v4 {a b c d s:Type} (x:a×b×c×d×s):=x.2.2.2.2
abbrev u4 {a b c d r s:Type} (x:a×b×c×d×r×s):=x.2.2.2.2.1
abbrev v5 {a b c d e s:Type} (x:a×b×c×d×e×s):=x.2.2.2.2.2
abbrev u5 {a b c d e r s:Type} (x:a×b×c×d×e×r×s):=x.2.2.2.2.2.1
abbrev v6 {a b c d e f s:Type} (x:a×b×c×d×e×f×s):=x.2.2.2.2.2.2
end Prod
namespace Nore
noncomputable section
abbrev tqv:Type:=Int×Int×ByteArray
abbrev tqu:Type:=Int×ByteArray×Int
abbrev tqt:Type:=ByteArray×Int×Int
abbrev tqs:Type:=Int×(List ByteArray)
abbrev tqr:Type:=Int×CoRecord×CoRecord
abbrev tqq:Type:=(List ByteArray)×CoRecord
abbrev tqp:Type:=Int×ByteArray×Int×Int
abbrev tqo:Type:=Int×(List ByteArray)×Int
abbrev tqn:Type:=(Int×(List Int))⊕(List Int)
abbrev tqm:Type:=Int×(List Zl)×Int×Int
abbrev tql:Type:=ByteArray×Int×Int×Int×Int
abbrev tqk:Type:=Int×CoRecord×(List ByteArray)
abbrev tqj:Type:=Int×(List ByteArray)×CoRecord
abbrev tqi:Type:=Int×ByteArray×ByteArray×Nat
abbrev tqh:Type:=ByteArray×Int×(List ByteArray)
abbrev tqg:Type:=Int×(List Int)×Int×Int×Int
abbrev tqf:Type:=Int×Int×(List Y1)×Int×Int
abbrev tqe:Type:=Int×(List Zl)×Int×CoRecord
abbrev tqd:Type:=Int×(List Zh)×Int×CoRecord
abbrev tqc:Type:=Int×(List Zh)×Int×Zh
abbrev tqb:Type:=Int×Int×(List ByteArray)×CoRecord
abbrev tqa:Type:=Int×Int×(List ByteArray)×(List Int)
abbrev tq9:Type:=Int×Int×ByteArray×Int×(List ByteArray)
abbrev tq8:Type:=Int×(List Zl)×ByteArray×(List Zh)
abbrev tq7:Type:=Int×ByteArray×Int×CoRecord×(List ByteArray)
abbrev tq6:Type:=ByteArray×Bool×ByteArray×Int×Int×Int×Int
abbrev tq5:Type:=Int×ByteArray×Int×(List Int)×Int×(List Int)
abbrev tq4:Type:=Int×Int×(List Zl)×Int×(List Int)×CoRecord
abbrev tq3:Type:=Int×(List Zh)×Int×Int×(List Int)×CoRecord
abbrev tq2:Type:=(List ByteArray)×ByteArray×Int×(List Zl)×(List Zh)
abbrev tq1:Type:=ByteArray×Bool×Int×(List Zl)×ByteArray×(List Zh)
abbrev tq0:Type:=Int×ByteArray×Bool×Int×(List Zl)×ByteArray×(List Zh)
abbrev vp:Option (TV S):=some (.sl .str [])
abbrev vo:Option (TV S):=some (.bool false)
abbrev vn:Option (TV S):=some (.int .i64 0)
abbrev vm:Option (TV S):=some (.sl (.st 19) [])
abbrev vl:Option (TV S):=some (.sl (.st 18) [])
abbrev ok:Option (Zi S):=some (.row 9 .str [] 1 0)
abbrev vj:Option (TV S):=some (.str ByteArray.empty)
abbrev oi:Option (Zi S):=some (.row 50 (.st 18) [] 1 0)
abbrev oh:Option (Zi S):=some (.row 54 (.st 19) [] 1 0)
abbrev vg:Option (TV S):=some (.iface 26 (.int .i64 0))
abbrev of:Option (Zi S):=some (.cells 25 [.nils,.nils])
abbrev oe:Option (Zi S):=some (.row 5 (.int .u8) [] 1 0)
abbrev od:Option (Zi S):=some (.siter ByteArray.empty 0)
abbrev oc:Option (Zi S):=some (.cells 3 [(.int .i64 0)])
abbrev ob:Option (Zi S):=some (.cells 26 [(.int .i64 0)])
abbrev oa:Option (Zi S):=some (.row 3 (.int .i64) [] 1 0)
abbrev o9:Option (Zi S):=some (.cells 9 [(.str ByteArray.empty)])
abbrev o8:Option (Zi S):=some (.cells 54 [(.stc 19 (T.dflt 19))])
abbrev o7:Option (Zi S):=some (.cells 50 [(.stc 18 (T.dflt 18))])
abbrev o6:Option (Zi S):=some (.cells 25 [(.stc 20 (T.dflt 20))])
abbrev o5:Option (Zi S):=some (.cells 25 [(.rs 10 0),(.rs 11 0)])
abbrev o4:Option (Zi S):=some (.cells 25 [(.rs 16 0),(.rs 17 0)])
abbrev v3:Option (TV S):=some (.tup [(.int .i64 0),(.int .i64 0)])
abbrev v2:Option (TV S):=some (.fn (.func 54) [] [(.ptr 3 0),(.ptr 2 0)])
abbrev o1:Option (Zi S):=some (.loop 7 (N (N (N L (some (.ptr 1 0)) L) none L) vj (N L (some (.ptr 0 0)) (N (N L vo L) none (N L (some (.fn (.func 61) [] [(.ptr 9 0)])) L)))) (15::[]) .skip .skip 0 .busy (0::(7::[])) (0::(1::(0::(1::(1::(1::[])))))))
abbrev o0:Option (Zi S):=some (.loop 10 (N (N (N L (some (.ptr 1 0)) L) none (N L (some (.ptr 6 0)) L)) vj (N (N L (some (.ptr 5 0)) (N L vo L)) (some (.ptr 0 0)) (N L none (N L (some (.fn (.func 61) [] [(.ptr 11 0)])) L)))) (15::[]) .skip .skip 0 .ret (0::(10::[])) (0::(1::(0::(1::(1::(1::[])))))))
abbrev oV:Tr (Zi S):=N (N (N L oi L) none L) none L
abbrev oU:Tr (Zi S):=N L none (N (N L ok L) none L)
abbrev oT:Tr (Zi S):=N (N (N L oa L) none L) none L
abbrev oS:Tr (Zi S):=N (N (N L od L) none L) none L
abbrev vR:Tr (TV S):=N L none (N (N L vn L) none L)
abbrev vQ:Tr (TV S):=N (N (N L vn L) none L) none L
abbrev oP:Tr (Zi S):=N L none (N (N (N L o7 L) o7 L) none L)
abbrev vO:Tr (TV S):=N vQ none L
abbrev vN:Tr (TV S):=N (N (N L vn L) none L) none (N (N L vn L) vn L)
abbrev oM:Tr (Zi S):=N (N L none (N (N (N L ok L) none L) none L)) o6 L
abbrev vL:Tr (TV S):=N (N L none (N L vn L)) none (N (N L vn L) none L)
abbrev vK:Tr (TV S):=N (N L none (N (N L none (N L vg L)) none L)) none L
abbrev oJ:Tr (Zi S):=N (N L none (N (N L none (N L o7 L)) none L)) none L
abbrev oI:Tr (Zi S):=N L none (N L none (N (N (N L o7 L) none L) none L))
abbrev vH:Tr (TV S):=N (N L (some (.ptr 2 0)) L) none (N (N L vn L) none L)
abbrev vG:Tr (TV S):=N L none (N L none (N (N (N (N L vg L) none L) none L) none L))
abbrev vF:Tr (TV S):=N (N (N L (some (.ptr 2 0)) L) none L) vj (N L (some (.ptr 3 0)) L)
abbrev oE:Tr (Zi S):=N (N (N (N L o1 L) none L) none L) ob (N (N (N L oh L) o9 L) none L)
abbrev oD:Tr (Zi S):=N (N (N L none (N oT none L)) none L) none L
abbrev oC:Tr (Zi S):=N (N L none (N (N oT none L) none L)) none L
abbrev oB:Tr (Zi S):=N L none (N L none (N (N L none oT) none L))
abbrev oA:Tr (Zi S):=N L none (N (N (N L none oT) none L) none L)
abbrev oz:Tr (Zi S):=N (N (N L none (N L oh L)) none (N L o5 L)) of (N L none (N (N L oi L) none L))
abbrev oy:Tr (Zi S):=N (N (N L oc (N L oe L)) none L) o6 (N L (some (.cells 93 [(.nop 2),(.rs 11 0)])) L)
abbrev ox:Tr (Zi S):=N (N (N (N (N L o0 L) none L) none (N L o9 L)) ob (N L oc L)) oc (N L none (N L oc L))
abbrev ow:Tr (Zi S):=N (N (N L oc L) none (N (N (N L oe L) none L) none L)) o6 (N L (some (.cells 93 [(.nop 2),(.rs 17 0)])) L)
abbrev ov:Tr (Zi S):=N oE o4 (N oV none L)
abbrev ou:Tr (Zi S):=N (N (N oT oc L) none L) none (N L (some (.cells 93 [(.nop 2),(.rs 30 0)])) (N L none (N L none (N L oe L))))
abbrev ot:Tr (Zi S):=N (N (N (N L none (N (N L oe L) none L)) oc L) none L) none (N (N (N L none (N (N L oa L) none L)) none L) (some (.cells 93 [(.nop 2),(.rs 39 0)])) L)
abbrev os:Tr (Zi S):=N (N L none (N (N (N L (some (.row 9 .str [] 1 1)) L) none L) none L)) o6 (N (N L none (N L none (N L o7 L))) none (N L none (N (N (N L (some (.row 9 .str [] 0 0)) L) none L) none L)))
abbrev or:Tr (Zi S):=N (N (N (N (N L (some (.loop 7 (N (N (N L (some (.ptr 1 0)) L) none L) vj (N L (some (.ptr 0 0)) (N (N L vo L) none (N L (some (.fn (.func 61) [] [(.ptr 9 0)])) L)))) (15::[]) .skip .skip 0 .normal (0::(7::[])) (0::(1::(0::(1::(1::(1::[])))))))) L) none L) none L) ob (N (N (N L oh L) o9 L) none L)) o4 (N oV none L)
abbrev oq:Tr (Zi S):=N (N (N (N (N L (some (.loop 10 (N (N (N L (some (.ptr 1 0)) L) none (N L (some (.ptr 6 0)) L)) vj (N (N L (some (.ptr 5 0)) (N L vo L)) (some (.ptr 0 0)) (N L none (N L (some (.fn (.func 61) [] [(.ptr 11 0)])) L)))) (15::[]) .skip .skip 0 .normal (0::(10::[])) (0::(1::(0::(1::(1::(1::[])))))))) L) none L) none (N L o9 L)) ob (N L oc L)) oc (N L none (N L oc L))
def q0 {R:Type}:Prs S R:=ZlF
theorem q1 {R:Type}:Z8J X (q0 (R:=R)):=ZlG X
def q2:List (Nat×F7 S):=[]
theorem q3:Z9z X (q2):=trivial
abbrev q4 {R:Type}:Z1J S R:=Zkp
theorem q5 {R:Type}:Z2o X (q4 (R:=R)):=Zlb X
def q6:Key:=⟨[104,2,1,79,2,1,44],104,none,[0,0,1,0,1],0,17⟩
def q7:StT S:=⟨(N (N (N (N L vn L) none L) (some (.fn (.func 80) [] [(.ptr 0 0),(.ptr 1 0)])) L) (some (.sl (.int .i64) [])) vQ),(N (N L oc L) oc L),17⟩
def q8:Way S:=⟨.ret,⟨vR,(N (N L oc L) oc L),38⟩,[.int,.int,.int]⟩
def q9:Way S:=⟨(.exit 0),⟨L,(N (N L oc L) oc L),18⟩,[.int,.int]⟩
def qa:LE S:=⟨q6,q7,[.int,(.lst (.int .i64)),.int,.int,.int],[q8,q9]⟩
def qb {T:Type} (x:tqg) (k:((Int×Int×Int)⊕(Int×Int))->T):(Int⊕Unit)->T:=Sum.elim (fun y0=>k (.inl (y0,x.u3,x.v4))) (fun y1=>k (.inr (x.u3,x.v4)))
def qc (x:tqg) (v:Int):tqg:=(x.1,x.2.1,v,x.u3,x.v4)
theorem qd (x:tqg):LE.step X qa q2 q0 q4 12 x=XX x.1 x.2.1 x.u3 x.v4 x.u2 (fun w=>Sum.inl (qc x w)) (fun o=>Sum.inr (qb x id o)):=by kernel_rfl
def qe {R:Type}:Z1J S R:=LE.ls X qa (fun x k=>(X2K x.1 x.2.1 x.u3 x.v4 x.u2).bind (qb x k)) q4
theorem qf {R:Type}:Z2o X (qe (R:=R)):=ZlQ xok q3 (e:=qa) q1 q5 (st:=fun(x:tqg)=>XS x.1 x.2.1 x.u3 x.v4) (prj:=fun(x:tqg)=>x.u2) (emb:=qc) qb (fun x=>(qd x).trans (by unfold XS XX;simp only[ZlD,Zlu,ZlE,Option.map_some,Option.map_none];rfl)) q5
theorem qg (x0 x1:Int) (x2:List Int):ZlT X q2 [(.int .i64),(.int .i64),(.sl (.int .i64))] [.bool] q0 qe 12 44 (x0,x1,x2,())=X15 x0 x1 x2:=by kernel_rfl
def qh:F7 S:=⟨[(.int .i64),(.int .i64),(.sl (.int .i64))],[.bool],fun xs=>XA xs.1 xs.2.1 xs.u2⟩
theorem qi:Z6c X 44 qh:=ZlP (ZlO xok q3 q1 qf 12 44) fun xs _ h=>((qg xs.1 xs.2.1 xs.u2).trans (X3w xs.1 xs.2.1 xs.u2).symm).trans h
def qn:Key:=⟨[47],47,none,[0,0,1,0,1,1],0,4⟩
def qo:StT S:=⟨(N (N (N (N L (some (.iter 3)) L) (some (.int .i32 0)) L) none L) vj L),oS,4⟩
def qp:Way S:=⟨.ret,⟨(N L none (N L vo L)),oS,23⟩,[.bool,.str,.nat]⟩
def qq:Way S:=⟨(.exit 0),⟨(N (N (N L (some (.int .i32 0)) L) none L) vj L),oS,6⟩,[.int,.str,.str,.nat]⟩
def qr:LE S:=⟨qn,qo,[.int,.str,.str,.nat],[qp,qq]⟩
def qs {T:Type} (x:tqi) (k:((Bool×ByteArray×Nat)⊕tqi)->T):((Bool×Nat)⊕(Int×Nat))->T:=Sum.elim (fun y0=>k (.inl (y0.1,x.u2,y0.2))) (fun y1=>k (.inr (y1.1,x.2.1,x.u2,y1.2)))
def qt (x:tqi) (v:(Int×Nat)):tqi:=(v.1,x.2.1,x.u2,v.2)
theorem qu (x:tqi):LE.step X qr q2 q0 q4 12 x=WF x.2.1 x.u2 x.1 x.v3 (fun w=>Sum.inl (qt x w)) (fun o=>Sum.inr (qs x id o)):=by kernel_rfl
def qv {R:Type}:Z1J S R:=LE.ls X qr (fun x k=>(X3j x.2.1 x.u2 (x.1,x.v3)).bind (qs x k)) q4
theorem qw {R:Type}:Z2o X (qv (R:=R)):=ZlQ xok q3 (e:=qr) q1 q5 (st:=fun(x:tqi)=>Wo x.2.1 x.u2) (prj:=fun(x:tqi)=>(x.1,x.v3)) (emb:=qt) qs (fun x=>(qu x).trans (by unfold Wo WF;simp only[ZlD,Zlu,ZlE,Option.map_some,Option.map_none];rfl)) q5
theorem qx (x0:ByteArray):ZlT X q2 [.str] [.bool] q0 qv 12 47 (x0,())=X3F x0:=by kernel_rfl
def qy:F7 S:=⟨[.str],[.bool],fun xs=>X3F xs.1⟩
theorem qz:Z6c X 47 qy:=ZlP (ZlO xok q3 q1 qw 12 47) fun xs _ h=>(qx xs.1).trans h
def qA:List (Nat×F7 S):=[(44,qh)]
theorem qB:Z9z X (qA):=⟨qi,trivial⟩
theorem qE (x0:CoRecord) (x1:Zt):ZlT X qA [(.st 20),(.st 21)] [(.int .i64)] q0 q4 12 52 (x0,x1,())=X1R x0 x1:=by kernel_rfl
def qF:F7 S:=⟨[(.st 20),(.st 21)],[(.int .i64)],fun xs=>X3G xs.1 xs.2.1⟩
theorem qG:Z6c X 52 qF:=ZlP (ZlO xok qB q1 q5 12 52) fun xs _ h=>((qE xs.1 xs.2.1).trans (X4h xs.1 xs.2.1).symm).trans h
def qH:StT S:=⟨(N (N L (some (.fn (.func 46) [] [(.ptr 0 0)])) L) vl L),(N L o6 L),1⟩
def qI:Way S:=⟨.ret,⟨(N L v3 L),(N L o6 L),1⟩,[.int,.int,(.st 20)]⟩
def qJ:PE S:=⟨45,2,qH,[(.lst (.st 18)),(.st 20)],[qI]⟩
def qK:List (Nat×F7 S):=[(44,qh),(47,qy),(52,qF)]
theorem qL:Z9z X qK:=⟨qi,qz,qG,trivial⟩
def qO:Key:=⟨[81,2,1,48,5,3,46,3,4,45],81,none,[0,0,1,0,1],0,42⟩
def qP:StT S:=⟨(N (N (N (N L vn L) none L) (some (.fn (.func 49) [] [(.ptr 18 0)])) L) vl vQ),oI,42⟩
def qQ:Way S:=⟨.ret,⟨vR,(N oJ none (N L none (N (N (N L o7 L) none L) none L))),61⟩,[.int,(.st 18),(.st 18)]⟩
def qR:Way S:=⟨(.exit 0),⟨L,oI,43⟩,[(.st 18)]⟩
def qS:LE S:=⟨qO,qP,[.int,(.lst (.st 18)),.int,(.st 18)],[qQ,qR]⟩
def qT {T:Type} (x:tqc) (k:((Int×Zh×Zh)⊕Zh)->T):((Int×Zh)⊕Unit)->T:=Sum.elim (fun y0=>k (.inl (y0.1,y0.2,x.v3))) (fun y1=>k (.inr x.v3))
def qU (x:tqc) (v:Int):tqc:=(x.1,x.2.1,v,x.v3)
theorem qV (x:tqc):LE.step X qS qK q0 q4 12 x=X9 x.1 x.2.1 x.v3 x.u2 (fun w=>Sum.inl (qU x w)) (fun o=>Sum.inr (qT x id o)):=by kernel_rfl
def qW {R:Type}:Z1J S R:=LE.ls X qS (fun x k=>(Xb x.1 x.2.1 x.v3 x.u2).bind (qT x k)) q4
theorem qX {R:Type}:Z2o X (qW (R:=R)):=ZlQ xok qL (e:=qS) q1 q5 (st:=fun(x:tqc)=>X7 x.1 x.2.1 x.v3) (prj:=fun(x:tqc)=>x.u2) (emb:=qU) qT (fun x=>(qV x).trans (by unfold X7 X9;simp only[ZlD,Zlu,ZlE,Option.map_some,Option.map_none];rfl)) q5
def qY:Key:=⟨[45],45,none,[0,0,1,0,1],0,6⟩
def qZ:StT S:=⟨(N (N (N L none (N L vn L)) (some (.fn (.func 46) [] [(.ptr 0 0)])) (N (N L vl L) none L)) none vR),(N L o6 L),6⟩
def q10:Way S:=⟨.ret,⟨vL,(N L o6 oP),32⟩,[.int,.int,(.st 20),(.st 18),(.st 18)]⟩
def q11:Way S:=⟨.ret,⟨vL,(N oJ o6 oP),68⟩,[.int,.int,(.st 18),(.st 20),(.st 18),(.st 18)]⟩
def q12:Way S:=⟨.ret,⟨vL,(N (N (N (N oT none L) none (N (N L none (N L o7 L)) none L)) none L) o6 oP),82⟩,[.int,.int,(.lst (.int .i64)),(.st 18),(.st 20),(.st 18),(.st 18)]⟩
def q13:Way S:=⟨.ret,⟨vL,(N (N (N (N oT none oT) none (N (N L none (N L o7 L)) none L)) none L) o6 oP),82⟩,[.int,.int,(.lst (.int .i64)),(.lst (.int .i64)),(.st 18),(.st 20),(.st 18),(.st 18)]⟩
def q14:Way S:=⟨.ret,⟨vL,(N L o6 (N L none (N (N (N L o7 L) o7 L) none (N L none (N (N L oa L) none L))))),65⟩,[.int,.int,(.st 20),(.st 18),(.st 18),(.lst (.int .i64))]⟩
def q15:Way S:=⟨.ret,⟨vL,(N L o6 (N L none (N (N (N L o7 L) o7 L) none (N (N L none (N L oa L)) none (N (N L oa L) none L))))),65⟩,[.int,.int,(.st 20),(.st 18),(.st 18),(.lst (.int .i64)),(.lst (.int .i64))]⟩
def q16:Way S:=⟨(.exit 0),⟨L,(N L o6 L),7⟩,[(.st 20)]⟩
def q17:LE S:=⟨qY,qZ,[.int,(.lst (.st 18)),.int,(.st 20)],[q10,q11,q12,q13,q14,q15,q16]⟩
def q18 {T:Type} (x:tqd) (k:((Int×Int×CoRecord×Zh×Zh)⊕(Int×Int×Zh×CoRecord×Zh×Zh)⊕(Int×Int×(List Int)×Zh×CoRecord×Zh×Zh)⊕(Int×Int×(List Int)×(List Int)×Zh×CoRecord×Zh×Zh)⊕(Int×Int×CoRecord×Zh×Zh×(List Int))⊕(Int×Int×CoRecord×Zh×Zh×(List Int)×(List Int))⊕CoRecord)->T):((Int×Int×Zh×Zh)⊕(Int×Int×Zh×Zh×Zh)⊕(Int×Int×(List Int)×Zh×Zh×Zh)⊕(Int×Int×(List Int)×(List Int)×Zh×Zh×Zh)⊕(Int×Int×Zh×Zh×(List Int))⊕(Int×Int×Zh×Zh×(List Int)×(List Int))⊕Unit)->T:=Sum.elim (fun y0=>k (.inl (y0.1,y0.2.1,x.v3,y0.u2,y0.v3))) (Sum.elim (fun y1=>k (.inr (.inl (y1.1,y1.2.1,y1.u2,x.v3,y1.u3,y1.v4)))) (Sum.elim (fun y2=>k (.inr (.inr (.inl (y2.1,y2.2.1,y2.u2,y2.u3,x.v3,y2.u4,y2.v5))))) (Sum.elim (fun y3=>k (.inr (.inr (.inr (.inl (y3.1,y3.2.1,y3.u2,y3.u3,y3.u4,x.v3,y3.u5,y3.v6)))))) (Sum.elim (fun y4=>k (.inr (.inr (.inr (.inr (.inl (y4.1,y4.2.1,x.v3,y4.u2,y4.u3,y4.v4))))))) (Sum.elim (fun y5=>k (.inr (.inr (.inr (.inr (.inr (.inl (y5.1,y5.2.1,x.v3,y5.u2,y5.u3,y5.u4,y5.v5)))))))) (fun y6=>k (.inr (.inr (.inr (.inr (.inr (.inr x.v3))))))))))))
def q19 (x:tqd) (v:Int):tqd:=(v,x.2.1,x.u2,x.v3)
theorem q1a (x:tqd):LE.step X q17 qK q0 qW 12 x=X8 x.2.1 x.u2 x.v3 x.1 (fun w=>Sum.inl (q19 x w)) (fun o=>Sum.inr (q18 x id o)):=by kernel_rfl
def q1b {R:Type}:Z1J S R:=LE.ls X q17 (fun x k=>(XC x.2.1 x.u2 x.v3 x.1).bind (q18 x k)) qW
theorem q1c {R:Type}:Z2o X (q1b (R:=R)):=ZlQ xok qL (e:=q17) q1 qX (st:=fun(x:tqd)=>Xg x.2.1 x.u2 x.v3) (prj:=fun(x:tqd)=>x.1) (emb:=q19) q18 (fun x=>(q1a x).trans (by unfold Xg X8;simp only[ZlD,Zlu,ZlE,Option.map_some,Option.map_none];rfl)) qX
theorem q1d (x:((List Zh)×CoRecord)):PE.step X qJ qK q0 q1b 12 x=Xj x.1 x.2:=by kernel_rfl
theorem q1e:ZjJ X qJ Xu:=ZlR (Zlf xok qL q1 q1c 12) fun x _ h=>((q1d x).trans (X1i x).symm).trans h
def q1f {R:Type}:Prs S R:=PE.ps X qJ (fun x q=>(Xu x).bind q) q0
theorem q1g {R:Type}:Z8J X (q1f (R:=R)):=ZlK (e:=qJ) q1e q1
def q1h:StT S:=⟨(N (N L (some (.fn (.func 51) [] [(.ptr 0 0)])) L) vm L),(N L o6 L),1⟩
def q1j:PE S:=⟨50,2,q1h,[(.lst (.st 19)),(.st 20)],[qI]⟩
def q1o:Key:=⟨[50],50,none,[0,0,1,0,1],0,6⟩
def q1p:StT S:=⟨(N (N (N L none (N L vn L)) (some (.fn (.func 51) [] [(.ptr 0 0)])) (N (N L vm L) none L)) none vR),(N L o6 L),6⟩
def q1q:Way S:=⟨.ret,⟨vL,(N L o6 (N L none (N (N (N L o8 L) o8 L) none L))),30⟩,[.int,.int,(.st 20),(.st 19),(.st 19)]⟩
def q1s:LE S:=⟨q1o,q1p,[.int,(.lst (.st 19)),.int,(.st 20)],[q1q,q16]⟩
def q1t {T:Type} (x:tqe) (k:((Int×Int×CoRecord×Zl×Zl)⊕CoRecord)->T):((Int×Int×Zl×Zl)⊕Unit)->T:=Sum.elim (fun y0=>k (.inl (y0.1,y0.2.1,x.v3,y0.u2,y0.v3))) (fun y1=>k (.inr x.v3))
def q1u (x:tqe) (v:Int):tqe:=(v,x.2.1,x.u2,x.v3)
theorem q1v (x:tqe):LE.step X q1s qK q1f q4 12 x=Xc x.2.1 x.u2 x.v3 x.1 (fun w=>Sum.inl (q1u x w)) (fun o=>Sum.inr (q1t x id o)):=by kernel_rfl
def q1w {R:Type}:Z1J S R:=LE.ls X q1s (fun x k=>(XJ x.2.1 x.u2 x.v3 x.1).bind (q1t x k)) q4
theorem q1x {R:Type}:Z2o X (q1w (R:=R)):=ZlQ xok qL (e:=q1s) q1g q5 (st:=fun(x:tqe)=>Xh x.2.1 x.u2 x.v3) (prj:=fun(x:tqe)=>x.1) (emb:=q1u) q1t (fun x=>(q1v x).trans (by unfold Xh Xc;simp only[ZlD,Zlu,ZlE,Option.map_some,Option.map_none];rfl)) q5
theorem q1y (x:((List Zl)×CoRecord)):PE.step X q1j qK q1f q1w 12 x=Xk x.1 x.2:=by kernel_rfl
theorem q1z:ZjJ X q1j Xv:=ZlR (Zlf xok qL q1g q1x 12) fun x _ h=>((q1y x).trans (X1p x).symm).trans h
def q1A {R:Type}:Prs S R:=PE.ps X q1j (fun x q=>(Xv x).bind q) q1f
theorem q1B {R:Type}:Z8J X (q1A (R:=R)):=ZlK (e:=q1j) q1z q1g
def q1C:StT S:=⟨(N (N L (some (.fn (.func 53) [] [(.ptr 0 0)])) L) vm L),(N L oc L),1⟩
def q1D:Way S:=⟨.ret,⟨(N L v3 L),(N L oc L),1⟩,[.int,.int,.int]⟩
def q1E:PE S:=⟨50,2,q1C,[(.lst (.st 19)),.int],[q1D]⟩
def q1K:StT S:=⟨(N (N (N L none (N L vn L)) (some (.fn (.func 53) [] [(.ptr 0 0)])) (N (N L vm L) none L)) none vR),(N L oc L),6⟩
def q1L:Way S:=⟨.ret,⟨vL,(N L oc (N L none (N (N (N L o8 L) o8 L) none L))),38⟩,[.int,.int,.int,(.st 19),(.st 19)]⟩
def q1M:Way S:=⟨(.exit 0),⟨L,(N L oc L),7⟩,[.int]⟩
def q1N:LE S:=⟨q1o,q1K,[.int,(.lst (.st 19)),.int,.int],[q1L,q1M]⟩
def q1O {T:Type} (x:tqm) (k:((Int×Int×Int×Zl×Zl)⊕Int)->T):((Int×Int×Int×Zl×Zl)⊕Int)->T:=Sum.elim (fun y0=>k (.inl (y0.1,y0.2.1,y0.u2,y0.u3,y0.v4))) (fun y1=>k (.inr y1))
def q1P (x:tqm) (v:(Int×Int)):tqm:=(v.1,x.2.1,x.u2,v.2)
theorem q1Q (x:tqm):LE.step X q1N qK q1A q4 12 x=Xd x.2.1 x.u2 x.1 x.v3 (fun w=>Sum.inl (q1P x w)) (fun o=>Sum.inr (q1O x id o)):=by kernel_rfl
def q1R {R:Type}:Z1J S R:=LE.ls X q1N (fun x k=>(XK x.2.1 x.u2 (x.1,x.v3)).bind (q1O x k)) q4
theorem q1S {R:Type}:Z2o X (q1R (R:=R)):=ZlQ xok qL (e:=q1N) q1B q5 (st:=fun(x:tqm)=>X4 x.2.1 x.u2) (prj:=fun(x:tqm)=>(x.1,x.v3)) (emb:=q1P) q1O (fun x=>(q1Q x).trans (by unfold X4 Xd;simp only[ZlD,Zlu,ZlE,Option.map_some,Option.map_none];rfl)) q5
theorem q1T (x:((List Zl)×Int)):PE.step X q1E qK q1A q1R 12 x=Xl x.1 x.2:=by kernel_rfl
theorem q1U:ZjJ X q1E Xw:=ZlR (Zlf xok qL q1B q1S 12) fun x _ h=>((q1T x).trans (X1r x).symm).trans h
def q1V {R:Type}:Prs S R:=PE.ps X q1E (fun x q=>(Xw x).bind q) q1A
theorem q1W {R:Type}:Z8J X (q1V (R:=R)):=ZlK (e:=q1E) q1U q1B
theorem q1Y:Z9z X (qK):=⟨qi,qz,qG,trivial⟩
theorem q21 (x0:CoRecord):ZlT X qK [(.st 20)] [(.int .i64),(.int .i64),(.int .i64)] q1V q4 12 14 (x0,())=X1A x0:=by kernel_rfl
def q22:F7 S:=⟨[(.st 20)],[(.int .i64),(.int .i64),(.int .i64)],fun xs=>X14 xs.1⟩
theorem q23:Z6c X 14 q22:=ZlP (ZlO xok q1Y q1W q5 12 14) fun xs _ h=>((q21 xs.1).trans (X3T xs.1).symm).trans h
def q24:F7 S:=⟨[(.int .i64)],[.str],fun xs=>Wb xs.1⟩
theorem q25:Z6c X 29 q24:=ZlS (ZkV (X:=X) (g:=29) rfl) fun xs=>X3Q xs.1
def q2a:Key:=⟨[28],28,none,[0,0,1,0,1],0,4⟩
def q2b:StT S:=⟨(N (N (N (N L vn L) none L) vj L) vn vQ),L,4⟩
def q2c:Way S:=⟨(.exit 0),⟨(N L vn L),L,5⟩,[.int]⟩
def q2d:LE S:=⟨q2a,q2b,[.int,.str,.int,.int],[q2c]⟩
def q2e {T:Type} (x:tqp) (k:Int->T):Int->T:=fun y0=>k y0
def q2f (x:tqp) (v:(Int×Int)):tqp:=(x.1,x.2.1,v.1,v.2)
theorem q2g (x:tqp):LE.step X q2d q2 q1V q4 12 x=WH x.1 x.2.1 x.u2 x.v3 (fun w=>Sum.inl (q2f x w)) (fun o=>Sum.inr (q2e x id o)):=by kernel_rfl
def q2h {R:Type}:Z1J S R:=LE.ls X q2d (fun x k=>(X2r x.1 x.2.1 (x.u2,x.v3)).bind (q2e x k)) q4
theorem q2i {R:Type}:Z2o X (q2h (R:=R)):=ZlQ xok q3 (e:=q2d) q1W q5 (st:=fun(x:tqp)=>Ws x.1 x.2.1) (prj:=fun(x:tqp)=>(x.u2,x.v3)) (emb:=q2f) q2e (fun x=>(q2g x).trans (by unfold Ws WH;simp only[ZlD,Zlu,ZlE,Option.map_some,Option.map_none];rfl)) q5
theorem q2j (x0:Int) (x1:ByteArray):ZlT X q2 [(.int .i64),.str] [(.int .i64)] q1V q2h 12 28 (x0,x1,())=X1Q x0 x1:=by kernel_rfl
def q2k:F7 S:=⟨[(.int .i64),.str],[(.int .i64)],fun xs=>X2h xs.1 xs.2.1⟩
theorem q2l:Z6c X 28 q2k:=ZlP (ZlO xok q3 q1W q2i 12 28) fun xs _ h=>((q2j xs.1 xs.2.1).trans (X4f xs.1 xs.2.1).symm).trans h
def q2m:List (Nat×F7 S):=[(29,q24),(28,q2k)]
theorem q2n:Z9z X (q2m):=⟨q25,q2l,trivial⟩
def q2q:Key:=⟨[54,9,7,15],54,none,[0,0,1,0],0,30⟩
def q2r:StT S:=⟨(N vH vj (N (N (N L (some (.rs 31 0)) L) none L) (some (.ptr 3 0)) (N (N L vn L) none L))),ou,32⟩
def q2s:Way S:=⟨(.exit 0),⟨vF,ou,33⟩,[.str,(.lst (.int .i64)),.int,(.lst (.int .u8))]⟩
def q2t:LE S:=⟨q2q,q2r,[.int,.str,.int,(.lst (.int .i64)),.int,(.lst (.int .u8))],[q2s]⟩
def q2u {T:Type} (x:tq5) (k:(ByteArray×(List Int)×Int×(List Int))->T):ByteArray->T:=fun y0=>k (y0,x.u3,x.u4,x.v5)
def q2v (x:tq5) (v:(ByteArray×Int)):tq5:=(x.1,v.1,v.2,x.u3,x.u4,x.v5)
theorem q2w (x:tq5):LE.step X q2t q2m q1V q4 12 x=WJ x.1 x.u3 x.2.1 x.u2 (fun w=>Sum.inl (q2v x w)) (fun o=>Sum.inr (q2u x id o)):=by kernel_rfl
def q2x {R:Type}:Z1J S R:=LE.ls X q2t (fun x k=>(X16 x.1 x.u3 (x.2.1,x.u2)).bind (q2u x k)) q4
theorem q2y {R:Type}:Z2o X (q2x (R:=R)):=ZlQ xok q2n (e:=q2t) q1W q5 (st:=fun(x:tq5)=>Wu x.1 x.u3) (prj:=fun(x:tq5)=>(x.2.1,x.u2)) (emb:=q2v) q2u (fun x=>(q2w x).trans (by unfold Wu WJ;simp only[ZlD,Zlu,ZlE,Option.map_some,Option.map_none];rfl)) q5
def q2z:Key:=⟨[15],15,none,[0,0,1,0,1,1,1,1],0,11⟩
def q2A:StT S:=⟨(N (N (N L (some (.ptr 2 0)) L) (some (.ptr 0 0)) (N L v2 (N L vn L))) none (N (N L none (N L vl L)) none (N L none (N L vn L)))),oy,12⟩
def q2B:Way S:=⟨(.exit 0),⟨(N (N (N L (some (.ptr 2 0)) L) (some (.ptr 0 0)) (N L v2 L)) none L),oy,13⟩,[.int,(.lst (.int .u8)),(.st 20)]⟩
def q2C:LE S:=⟨q2z,q2A,[.int,(.lst (.st 18)),.int,.int,(.lst (.int .u8)),(.st 20)],[q2B]⟩
def q2D {T:Type} (x:tq3) (k:(Int×(List Int)×CoRecord)->T):(Int×(List Int))->T:=fun y0=>k (y0.1,y0.2,x.v5)
def q2E (x:tq3) (v:(Int×Int×(List Int))):tq3:=(x.1,x.2.1,v.1,v.2.1,v.v2,x.v5)
theorem q2F (x:tq3):LE.step X q2C q2m q1V q2x 12 x=WI x.1 x.2.1 x.u2 x.u3 x.u4 (fun w=>Sum.inl (q2E x w)) (fun o=>Sum.inr (q2D x id o)):=by kernel_rfl
def q2G {R:Type}:Z1J S R:=LE.ls X q2C (fun x k=>(X1I x.1 x.2.1 (x.u2,x.u3,x.u4)).bind (q2D x k)) q2x
theorem q2H {R:Type}:Z2o X (q2G (R:=R)):=ZlQ xok q2n (e:=q2C) q1W q2y (st:=fun(x:tq3)=>Wt x.1 x.2.1) (prj:=fun(x:tq3)=>(x.u2,x.u3,x.u4)) (emb:=q2E) q2D (fun x=>(q2F x).trans (by unfold Wt WI;simp only[ZlD,Zlu,ZlE,Option.map_some,Option.map_none];rfl)) q2y
def q2I:Key:=⟨[54,12,12,15],54,none,[0,0,1,0],0,39⟩
def q2J:StT S:=⟨(N vH vj (N (N (N L (some (.rs 40 0)) L) none L) (some (.ptr 3 0)) (N (N L vn L) none L))),ot,41⟩
def q2K:Way S:=⟨(.exit 0),⟨vF,ot,42⟩,[.str,(.lst (.int .u8)),.int,(.lst (.int .i64))]⟩
def q2L:LE S:=⟨q2I,q2J,[.int,.str,.int,(.lst (.int .u8)),.int,(.lst (.int .i64))],[q2K]⟩
theorem q2O (x:tq5):LE.step X q2L q2m q1V q2G 12 x=X2i x.1 x.v5 x.2.1 x.u2 (fun w=>Sum.inl (q2v x w)) (fun o=>Sum.inr (q2u x id o)):=by kernel_rfl
def q2P {R:Type}:Z1J S R:=LE.ls X q2L (fun x k=>(X2s x.1 x.v5 (x.2.1,x.u2)).bind (q2u x k)) q2G
theorem q2Q {R:Type}:Z2o X (q2P (R:=R)):=ZlQ xok q2n (e:=q2L) q1W q2H (st:=fun(x:tq5)=>X2I x.1 x.v5) (prj:=fun(x:tq5)=>(x.2.1,x.u2)) (emb:=q2v) q2u (fun x=>(q2O x).trans (by unfold X2I X2i;simp only[ZlD,Zlu,ZlE,Option.map_some,Option.map_none];rfl)) q2H
def q2R:Key:=⟨[15],15,none,[0,0,1,0,1,1,1,1,1],2,17⟩
def q2S:StT S:=⟨(N (N (N vQ (some (.ptr 2 0)) L) none (N L v2 L)) none (N vO none (N L none (N L none (N L vm L))))),ow,18⟩
def q2T:Way S:=⟨(.exit 2),⟨(N (N (N L (some (.ptr 2 0)) L) none L) none L),ow,19⟩,[.int,(.lst (.int .u8)),(.st 20)]⟩
def q2U:LE S:=⟨q2R,q2S,[.int,.int,(.lst (.st 19)),.int,(.lst (.int .u8)),(.st 20)],[q2T]⟩
def q2V {T:Type} (x:tq4) (k:(Int×(List Int)×CoRecord)->T):(Int×(List Int))->T:=fun y0=>k (y0.1,y0.2,x.v5)
def q2W (x:tq4) (v:(Int×Int×(List Int))):tq4:=(x.1,v.1,x.u2,v.2.1,v.v2,x.v5)
theorem q2X (x:tq4):LE.step X q2U q2m q1V q2P 12 x=WK x.1 x.u2 x.2.1 x.u3 x.u4 (fun w=>Sum.inl (q2W x w)) (fun o=>Sum.inr (q2V x id o)):=by kernel_rfl
def q2Y {R:Type}:Z1J S R:=LE.ls X q2U (fun x k=>(X1J x.1 x.u2 (x.2.1,x.u3,x.u4)).bind (q2V x k)) q2P
theorem q2Z {R:Type}:Z2o X (q2Y (R:=R)):=ZlQ xok q2n (e:=q2U) q1W q2Q (st:=fun(x:tq4)=>Wv x.1 x.u2) (prj:=fun(x:tq4)=>(x.2.1,x.u3,x.u4)) (emb:=q2W) q2V (fun x=>(q2X x).trans (by unfold Wv WK;simp only[ZlD,Zlu,ZlE,Option.map_some,Option.map_none];rfl)) q2Q
theorem q30 (x0:CoRecord):ZlT X q2m [(.st 20)] [.str] q1V q2Y 12 15 (x0,())=X1S x0:=by kernel_rfl
def q31:F7 S:=⟨[(.st 20)],[.str],fun xs=>X1v xs.1⟩
theorem q32:Z6c X 15 q31:=ZlP (ZlO xok q2n q1W q2Z 12 15) fun xs _ h=>((q30 xs.1).trans (X4j xs.1).symm).trans h
def q33:List (Nat×F7 S):=[(14,q22),(15,q31)]
theorem q34:Z9z X (q33):=⟨q23,q32,trivial⟩
theorem q37 (x0:CoRecord):ZlT X q33 [(.st 20)] [.str,(.int .i64)] q1V q4 12 5 (x0,())=X1B x0:=by kernel_rfl
def q38:F7 S:=⟨[(.st 20)],[.str,(.int .i64)],fun xs=>X3k xs.1⟩
theorem q39:Z6c X 5 q38:=ZlP (ZlO xok q34 q1W q5 12 5) fun xs _ h=>((q37 xs.1).trans (X3V xs.1).symm).trans h
theorem q3e (x0 x1 x2:Int):ZlT X q2 [(.int .i64),(.int .i64),(.int .i64)] [.bool] q1V q4 12 57 (x0,x1,x2,())=X2A x0 x1 x2:=by kernel_rfl
def q3f:F7 S:=⟨[(.int .i64),(.int .i64),(.int .i64)],[.bool],fun xs=>X2P xs.1 xs.2.1 xs.u2⟩
theorem q3g:Z6c X 57 q3f:=ZlP (ZlO xok q3 q1W q5 12 57) fun xs _ h=>((q3e xs.1 xs.2.1 xs.u2).trans (X4Z xs.1 xs.2.1 xs.u2).symm).trans h
theorem q3l (x0 x1 x2:Int):ZlT X q2 [(.int .i64),(.int .i64),(.int .i64)] [.bool] q1V q4 12 66 (x0,x1,x2,())=X2O x0 x1 x2:=by kernel_rfl
def q3m:F7 S:=⟨[(.int .i64),(.int .i64),(.int .i64)],[.bool],fun xs=>X2O xs.1 xs.2.1 xs.u2⟩
theorem q3n:Z6c X 66 q3m:=ZlP (ZlO xok q3 q1W q5 12 66) fun xs _ h=>(q3l xs.1 xs.2.1 xs.u2).trans h
def q3o:List (Nat×F7 S):=[(66,q3m)]
theorem q3p:Z9z X (q3o):=⟨q3n,trivial⟩
def q3s:Key:=⟨[83],83,none,[0,0,1,0,1,1],0,6⟩
def q3t:StT S:=⟨(N (N (N L vn L) none L) vj L),L,6⟩
def q3u:Way S:=⟨.ret,⟨(N L none (N L vo L)),L,43⟩,[.bool]⟩
def q3v:Way S:=⟨(.exit 0),⟨L,L,10⟩,[]⟩
def q3w:LE S:=⟨q3s,q3t,[.int,.str],[q3u,q3v]⟩
def q3x {T:Type} (x:(Int×ByteArray)) (k:(Bool⊕Unit)->T):(Bool⊕Unit)->T:=Sum.elim (fun y0=>k (.inl y0)) (fun y1=>k (.inr ()))
def q3y (x:(Int×ByteArray)) (v:Int):(Int×ByteArray):=(v,x.2)
theorem q3z (x:(Int×ByteArray)):LE.step X q3w q3o q1V q4 12 x=WN x.2 x.1 (fun w=>Sum.inl (q3y x w)) (fun o=>Sum.inr (q3x x id o)):=by kernel_rfl
def q3A {R:Type}:Z1J S R:=LE.ls X q3w (fun x k=>(X3o x.2 x.1).bind (q3x x k)) q4
theorem q3B {R:Type}:Z2o X (q3A (R:=R)):=ZlQ xok q3p (e:=q3w) q1W q5 (st:=fun(x:(Int×ByteArray))=>Wy x.2) (prj:=fun(x:(Int×ByteArray))=>x.1) (emb:=q3y) q3x (fun x=>(q3z x).trans (by unfold Wy WN;simp only[ZlD,Zlu,ZlE,Option.map_some,Option.map_none];rfl)) q5
theorem q3C (x0:ByteArray):ZlT X q3o [.str] [.bool] q1V q3A 12 83 (x0,())=X3d x0:=by kernel_rfl
def q3D:F7 S:=⟨[.str],[.bool],fun xs=>X3d xs.1⟩
theorem q3E:Z6c X 83 q3D:=ZlP (ZlO xok q3p q1W q3B 12 83) fun xs _ h=>(q3C xs.1).trans h
def q3J:Key:=⟨[84],84,none,[0,0,1,0,1],0,2⟩
def q3K:StT S:=⟨(N (N L vj (N L vn L)) vp L),L,2⟩
def q3L:Way S:=⟨.ret,⟨vR,L,14⟩,[.int]⟩
def q3M:Way S:=⟨(.exit 0),⟨L,L,6⟩,[]⟩
def q3N:LE S:=⟨q3J,q3K,[.str,.int,(.lst .str)],[q3L,q3M]⟩
def q3O {T:Type} (x:tqh) (k:(Int⊕Unit)->T):(Int⊕Unit)->T:=Sum.elim (fun y0=>k (.inl y0)) (fun y1=>k (.inr ()))
def q3P (x:tqh) (v:Int):tqh:=(x.1,v,x.v2)
theorem q3Q (x:tqh):LE.step X q3N q2 q1V q4 12 x=Wk x.1 x.v2 x.2.1 (fun w=>Sum.inl (q3P x w)) (fun o=>Sum.inr (q3O x id o)):=by kernel_rfl
def q3R {R:Type}:Z1J S R:=LE.ls X q3N (fun x k=>(X2k x.1 x.v2 x.2.1).bind (q3O x k)) q4
theorem q3S {R:Type}:Z2o X (q3R (R:=R)):=ZlQ xok q3 (e:=q3N) q1W q5 (st:=fun(x:tqh)=>XO x.1 x.v2) (prj:=fun(x:tqh)=>x.2.1) (emb:=q3P) q3O (fun x=>(q3Q x).trans (by unfold XO Wk;simp only[ZlD,Zlu,ZlE,Option.map_some,Option.map_none];rfl)) q5
theorem q3T (x0:List ByteArray) (x1:ByteArray):ZlT X q2 [(.sl .str),.str] [(.int .i64)] q1V q3R 12 84 (x0,x1,())=X3p x0 x1:=by kernel_rfl
def q3U:F7 S:=⟨[(.sl .str),.str],[(.int .i64)],fun xs=>X3p xs.1 xs.2.1⟩
theorem q3V:Z6c X 84 q3U:=ZlP (ZlO xok q3 q1W q3S 12 84) fun xs _ h=>(q3T xs.1 xs.2.1).trans h
def q3W:List (Nat×F7 S):=[(83,q3D),(84,q3U)]
theorem q3X:Z9z X (q3W):=⟨q3E,q3V,trivial⟩
theorem q40 (x0:ByteArray) (x1:List ByteArray):ZlT X q3W [.str,(.sl .str)] [(.int .i64)] q1V q4 12 58 (x0,x1,())=X2N x0 x1:=by kernel_rfl
def q41:F7 S:=⟨[.str,(.sl .str)],[(.int .i64)],fun xs=>X2N xs.1 xs.2.1⟩
theorem q42:Z6c X 58 q41:=ZlP (ZlO xok q3X q1W q5 12 58) fun xs _ h=>(q40 xs.1 xs.2.1).trans h
def q47:Key:=⟨[106],106,none,[0,0,1,0,1,1],0,3⟩
def q48:StT S:=⟨(N (N (N (N L vn L) none L) vn L) (some (.sl (.st 5) [])) (N (N (N L vn L) none L) vn L)),L,3⟩
def q49:Way S:=⟨.ret,⟨(N L none (N L none (N L vn L))),L,28⟩,[.int]⟩
def q4a:Way S:=⟨(.exit 0),⟨vO,L,7⟩,[.int]⟩
def q4b:LE S:=⟨q47,q48,[.int,.int,(.lst (.st 5)),.int,.int],[q49,q4a]⟩
def q4c {T:Type} (x:tqf) (k:(Int⊕Int)->T):(Int⊕Int)->T:=Sum.elim (fun y0=>k (.inl y0)) (fun y1=>k (.inr y1))
def q4d (x:tqf) (v:(Int×Int)):tqf:=(v.1,x.2.1,x.u2,v.2,x.v4)
theorem q4e (x:tqf):LE.step X q4b q3o q1V q4 12 x=Wd x.2.1 x.u2 x.v4 x.1 x.u3 (fun w=>Sum.inl (q4d x w)) (fun o=>Sum.inr (q4c x id o)):=by kernel_rfl
def q4f {R:Type}:Z1J S R:=LE.ls X q4b (fun x k=>(X30 x.2.1 x.u2 x.v4 (x.1,x.u3)).bind (q4c x k)) q4
theorem q4g {R:Type}:Z2o X (q4f (R:=R)):=ZlQ xok q3p (e:=q4b) q1W q5 (st:=fun(x:tqf)=>W5 x.2.1 x.u2 x.v4) (prj:=fun(x:tqf)=>(x.1,x.u3)) (emb:=q4d) q4c (fun x=>(q4e x).trans (by unfold W5 Wd;simp only[ZlD,Zlu,ZlE,Option.map_some,Option.map_none];rfl)) q5
theorem q4h (x0:List Y1) (x1 x2:Int):ZlT X q3o [(.sl (.st 5)),(.int .i64),(.int .i64)] [(.int .i64)] q1V q4f 12 106 (x0,x1,x2,())=X2w x0 x1 x2:=by kernel_rfl
def q4i:F7 S:=⟨[(.sl (.st 5)),(.int .i64),(.int .i64)],[(.int .i64)],fun xs=>X2w xs.1 xs.2.1 xs.u2⟩
theorem q4j:Z6c X 106 q4i:=ZlP (ZlO xok q3p q1W q4g 12 106) fun xs _ h=>(q4h xs.1 xs.2.1 xs.u2).trans h
def q4k:List (Nat×F7 S):=[(106,q4i)]
theorem q4l:Z9z X (q4k):=⟨q4j,trivial⟩
theorem q4o (x0:Y1) (x1 x2:Int):ZlT X q4k [(.st 5),(.int .i64),(.int .i64)] [(.int .i64)] q1V q4 12 85 (x0,x1,x2,())=X3q x0 x1 x2:=by kernel_rfl
def q4p:F7 S:=⟨[(.st 5),(.int .i64),(.int .i64)],[(.int .i64)],fun xs=>X3q xs.1 xs.2.1 xs.u2⟩
theorem q4q:Z6c X 85 q4p:=ZlP (ZlO xok q4l q1W q5 12 85) fun xs _ h=>(q4o xs.1 xs.2.1 xs.u2).trans h
def q4r:List (Nat×F7 S):=[(57,q3f),(85,q4p)]
theorem q4s:Z9z X (q4r):=⟨q3g,q4q,trivial⟩
theorem q4v (x0:CoRecord) (x1 x2:Int) (x3:Y1):ZlT X q4r [(.st 20),(.int .i64),(.int .i64),(.st 5)] [(.int .i64)] q1V q4 12 59 (x0,x1,x2,x3,())=X1Y x0 x1 x2 x3:=by kernel_rfl
def q4w:F7 S:=⟨[(.st 20),(.int .i64),(.int .i64),(.st 5)],[(.int .i64)],fun xs=>X3K xs.1 xs.2.1 xs.u2 xs.u3⟩
theorem q4x:Z6c X 59 q4w:=ZlP (ZlO xok q4s q1W q5 12 59) fun xs _ h=>((q4v xs.1 xs.2.1 xs.u2 xs.u3).trans (X4t xs.1 xs.2.1 xs.u2 xs.u3).symm).trans h
def q4y:List (Nat×F7 S):=[(57,q3f),(58,q41),(59,q4w)]
theorem q4z:Z9z X (q4y):=⟨q3g,q42,q4x,trivial⟩
def q4C:Key:=⟨[16],16,none,[0,0,1,0,1,1,1],0,17⟩
def q4D:StT S:=⟨(N (N L (some (.ptr 0 0)) (N L (some (.rs 17 0)) L)) none (N L none (N L vn L))),oM,18⟩
def q4E:Way S:=⟨.ret,⟨vN,os,66⟩,[.int,.int,.int,(.lst .str),(.st 20),(.st 18),(.lst .str)]⟩
def q4F:Way S:=⟨.ret,⟨vN,os,65⟩,[.int,.int,.int,(.lst .str),(.st 20),(.st 18),(.lst .str)]⟩
def q4G:Way S:=⟨(.exit 0),⟨(N (N L (some (.ptr 0 0)) L) none L),oM,23⟩,[(.lst .str),(.st 20)]⟩
def q4H:LE S:=⟨q4C,q4D,[.int,(.lst .str),(.st 20)],[q4E,q4F,q4G]⟩
def q4I {T:Type} (x:tqj) (k:((Int×Int×Int×(List ByteArray)×CoRecord×Zh×(List ByteArray))⊕(Int×Int×Int×(List ByteArray)×CoRecord×Zh×(List ByteArray))⊕tqq)->T):((Int×Int×Int×(List ByteArray)×Zh×(List ByteArray))⊕(Int×Int×Int×(List ByteArray)×Zh×(List ByteArray))⊕(List ByteArray))->T:=Sum.elim (fun y0=>k (.inl (y0.1,y0.2.1,y0.u2,y0.u3,x.v2,y0.u4,y0.v5))) (Sum.elim (fun y1=>k (.inr (.inl (y1.1,y1.2.1,y1.u2,y1.u3,x.v2,y1.u4,y1.v5)))) (fun y2=>k (.inr (.inr (y2,x.v2)))))
def q4J (x:tqj) (v:tqs):tqj:=(v.1,v.2,x.v2)
theorem q4K (x:tqj):LE.step X q4H q4y q1V q4 12 x=Wl x.v2 x.1 x.2.1 (fun w=>Sum.inl (q4J x w)) (fun o=>Sum.inr (q4I x id o)):=by kernel_rfl
def q4L {R:Type}:Z1J S R:=LE.ls X q4H (fun x k=>(X2l x.v2 (x.1,x.2.1)).bind (q4I x k)) q4
theorem q4M {R:Type}:Z2o X (q4L (R:=R)):=ZlQ xok q4z (e:=q4H) q1W q5 (st:=fun(x:tqj)=>X1c x.v2) (prj:=fun(x:tqj)=>(x.1,x.2.1)) (emb:=q4J) q4I (fun x=>(q4K x).trans (by unfold X1c Wl;simp only[ZlD,Zlu,ZlE,Option.map_some,Option.map_none];rfl)) q5
def q4N:Key:=⟨[16],16,none,[0,0,1,0,1,1,1,1],2,24⟩
def q4O:StT S:=⟨(N (N L (some (.ptr 0 0)) (N (N L vn L) none L)) none L),oM,24⟩
def q4P:Way S:=⟨.ret,⟨vN,(N (N L none (N (N (N L ok L) none L) none L)) o6 (N L none (N (N (N (N L o8 L) none L) none L) none L))),52⟩,[.int,.int,.int,(.lst .str),(.st 20),(.st 19)]⟩
def q4Q:Way S:=⟨(.exit 2),⟨(N (N L (some (.ptr 0 0)) L) none L),oM,29⟩,[(.lst .str),(.st 20)]⟩
def q4R:LE S:=⟨q4N,q4O,[.int,(.lst .str),(.st 20)],[q4P,q4Q]⟩
def q4S {T:Type} (x:tqj) (k:((Int×Int×Int×(List ByteArray)×CoRecord×Zl)⊕tqq)->T):((Int×Int×Int×Zl)⊕Unit)->T:=Sum.elim (fun y0=>k (.inl (y0.1,y0.2.1,y0.u2,x.2.1,x.v2,y0.v3))) (fun y1=>k (.inr (x.2.1,x.v2)))
def q4T (x:tqj) (v:Int):tqj:=(v,x.2.1,x.v2)
theorem q4U (x:tqj):LE.step X q4R q4y q1V q4L 12 x=Wm x.v2 x.1 (fun w=>Sum.inl (q4T x w)) (fun o=>Sum.inr (q4S x id o)):=by kernel_rfl
def q4V {R:Type}:Z1J S R:=LE.ls X q4R (fun x k=>(X1w x.v2 x.1).bind (q4S x k)) q4L
theorem q4W {R:Type}:Z2o X (q4V (R:=R)):=ZlQ xok q4z (e:=q4R) q1W q4M (st:=fun(x:tqj)=>X1d x.v2) (prj:=fun(x:tqj)=>x.1) (emb:=q4T) q4S (fun x=>(q4U x).trans (by unfold X1d Wm;simp only[ZlD,Zlu,ZlE,Option.map_some,Option.map_none];rfl)) q4M
def q4X:Key:=⟨[16],16,none,[0,0,1,0,1,1,1,1,1,1],4,31⟩
def q4Y:StT S:=⟨(N (N L (some (.ptr 0 0)) (N L none (N L vn L))) none (N (N L none (N L vn L)) none L)),oM,31⟩
def q4Z:Way S:=⟨.ret,⟨vN,oM,59⟩,[.int,.int,.int,(.lst .str),(.st 20)]⟩
def q50:Way S:=⟨(.exit 4),⟨L,oM,36⟩,[(.lst .str),(.st 20)]⟩
def q51:LE S:=⟨q4X,q4Y,[.int,.int,(.lst .str),(.st 20)],[q4Z,q50]⟩
def q52 {T:Type} (x:tqb) (k:((Int×Int×Int×(List ByteArray)×CoRecord)⊕tqq)->T):((Int×Int×Int)⊕Unit)->T:=Sum.elim (fun y0=>k (.inl (y0.1,y0.2.1,y0.v2,x.u2,x.v3))) (fun y1=>k (.inr (x.u2,x.v3)))
def q53 (x:tqb) (v:(Int×Int)):tqb:=(v.1,v.2,x.u2,x.v3)
theorem q54 (x:tqb):LE.step X q51 q4y q1V q4V 12 x=Wn x.v3 x.1 x.2.1 (fun w=>Sum.inl (q53 x w)) (fun o=>Sum.inr (q52 x id o)):=by kernel_rfl
def q55 {R:Type}:Z1J S R:=LE.ls X q51 (fun x k=>(X1x x.v3 (x.1,x.2.1)).bind (q52 x k)) q4V
theorem q56 {R:Type}:Z2o X (q55 (R:=R)):=ZlQ xok q4z (e:=q51) q1W q4W (st:=fun(x:tqb)=>X1e x.v3) (prj:=fun(x:tqb)=>(x.1,x.2.1)) (emb:=q53) q52 (fun x=>(q54 x).trans (by unfold X1e Wn;simp only[ZlD,Zlu,ZlE,Option.map_some,Option.map_none];rfl)) q4W
theorem q57 (x0:CoRecord):ZlT X q4y [(.st 20)] [(.int .i64),(.int .i64),(.int .i64)] q1V q55 12 16 (x0,())=X1D x0:=by kernel_rfl
def q58:F7 S:=⟨[(.st 20)],[(.int .i64),(.int .i64),(.int .i64)],fun xs=>X1b xs.1⟩
theorem q59:Z6c X 16 q58:=ZlP (ZlO xok q4z q1W q56 12 16) fun xs _ h=>((q57 xs.1).trans (X42 xs.1).symm).trans h
def q5a (ih:(Int×Unit)->Option (ByteArray)):List (Nat×F7 S):=[(60,⟨[(.int .i64)],[.str],ih⟩)]
theorem q5b (ih:(Int×Unit)->Option (ByteArray)) (hih:Z6c X 60 ⟨[(.int .i64)],[.str],ih⟩):Z9z X (q5a ih):=⟨hih,trivial⟩
abbrev q5c (ih:(Int×Unit)->Option (ByteArray)) {R:Type}:Z1J S R:=Zkp
theorem q5d (ih:(Int×Unit)->Option (ByteArray)) (hih:Z6c X 60 ⟨[(.int .i64)],[.str],ih⟩) {R:Type}:Z2o X (q5c ih (R:=R)):=Zlb X
theorem q5e (ih:(Int×Unit)->Option (ByteArray)) (x0:Int):ZlT X (q5a ih) [(.int .i64)] [.str] q1V (q5c ih) 12 60 (x0,())=Ww ih x0:=by kernel_rfl
def q5f:F7 S:=⟨[(.int .i64)],[.str],fun xs=>XN xs.1⟩
theorem q5g:Z6c X 60 q5f:=Zmv (X:=X) (g:=60) (pts:=[(.int .i64)]) (rts:=[.str]) (t:=Wx) fun ih hih=>ZlP (ZlO xok (q5b ih hih) q1W (q5d ih hih) 12 60) fun xs _ h=>(q5e ih xs.1).trans h
def q5l:Key:=⟨[31],31,none,[0,0,1,0,1],0,2⟩
def q5m:StT S:=⟨(N (N L vj (N L vn L)) vn L),L,2⟩
def q5n:Way S:=⟨(.exit 0),⟨(N L vn L),L,6⟩,[.int]⟩
def q5o:LE S:=⟨q5l,q5m,[.str,.int,.int],[q5n]⟩
def q5p {T:Type} (x:tqt) (k:Int->T):Int->T:=fun y0=>k y0
def q5q (x:tqt) (v:(Int×Int)):tqt:=(x.1,v.1,v.2)
theorem q5r (x:tqt):LE.step X q5o q2 q1V q4 12 x=WR x.1 x.2.1 x.v2 (fun w=>Sum.inl (q5q x w)) (fun o=>Sum.inr (q5p x id o)):=by kernel_rfl
def q5s {R:Type}:Z1J S R:=LE.ls X q5o (fun x k=>(X2z x.1 (x.2.1,x.v2)).bind (q5p x k)) q4
theorem q5t {R:Type}:Z2o X (q5s (R:=R)):=ZlQ xok q3 (e:=q5o) q1W q5 (st:=fun(x:tqt)=>WB x.1) (prj:=fun(x:tqt)=>(x.2.1,x.v2)) (emb:=q5q) q5p (fun x=>(q5r x).trans (by unfold WB WR;simp only[ZlD,Zlu,ZlE,Option.map_some,Option.map_none];rfl)) q5
theorem q5u (x0:Int) (x1:ByteArray):ZlT X q2 [(.int .i64),.str] [(.int .i64)] q1V q5s 12 31 (x0,x1,())=X1W x0 x1:=by kernel_rfl
def q5v:F7 S:=⟨[(.int .i64),.str],[(.int .i64)],fun xs=>X3e xs.1 xs.2.1⟩
theorem q5w:Z6c X 31 q5v:=ZlP (ZlO xok q3 q1W q5t 12 31) fun xs _ h=>((q5u xs.1 xs.2.1).trans (X4p xs.1 xs.2.1).symm).trans h
def q5x:List (Nat×F7 S):=[(60,q5f),(31,q5v)]
theorem q5y:Z9z X (q5x):=⟨q5g,q5w,trivial⟩
def q5B:Key:=⟨[17],17,none,[0,0,1,0,1,1],0,4⟩
def q5C:StT S:=⟨(N (N (N L (some (.rs 4 0)) L) (some (.ptr 0 0)) L) none (N (N L vn L) none L)),(N L o6 (N (N L ok L) none L)),5⟩
def q5D:Way S:=⟨(.exit 0),⟨(N (N (N L (some (.rs 4 0)) L) (some (.ptr 0 0)) L) none L),(N L o6 (N (N L ok L) none L)),10⟩,[(.st 20),(.lst .str)]⟩
def q5E:LE S:=⟨q5B,q5C,[.int,(.st 20),(.lst .str)],[q5D]⟩
def q5F {T:Type} (x:tqk) (k:(CoRecord×(List ByteArray))->T):(List ByteArray)->T:=fun y0=>k (x.2.1,y0)
def q5G (x:tqk) (v:tqs):tqk:=(v.1,x.2.1,v.2)
theorem q5H (x:tqk):LE.step X q5E q5x q1V q4 12 x=WS x.2.1 x.1 x.v2 (fun w=>Sum.inl (q5G x w)) (fun o=>Sum.inr (q5F x id o)):=by kernel_rfl
def q5I {R:Type}:Z1J S R:=LE.ls X q5E (fun x k=>(X1L x.2.1 (x.1,x.v2)).bind (q5F x k)) q4
theorem q5J {R:Type}:Z2o X (q5I (R:=R)):=ZlQ xok q5y (e:=q5E) q1W q5 (st:=fun(x:tqk)=>WC x.2.1) (prj:=fun(x:tqk)=>(x.1,x.v2)) (emb:=q5G) q5F (fun x=>(q5H x).trans (by unfold WC WS;simp only[ZlD,Zlu,ZlE,Option.map_some,Option.map_none];rfl)) q5
def q5K:Key:=⟨[17],17,none,[0,0,1,0,1,1,1],2,11⟩
def q5L:StT S:=⟨(N (N (N L (some (.rs 11 0)) L) (some (.ptr 0 0)) L) none (N L none (N L vn L))),(N (N (N L none (N L ok L)) none L) o6 L),12⟩
def q5M:Way S:=⟨(.exit 2),⟨(N (N (N L (some (.rs 11 0)) L) none L) none L),(N (N (N L none (N L ok L)) none L) o6 L),17⟩,[(.lst .str),(.st 20)]⟩
def q5N:LE S:=⟨q5K,q5L,[.int,(.lst .str),(.st 20)],[q5M]⟩
def q5O {T:Type} (x:tqj) (k:tqq->T):(List ByteArray)->T:=fun y0=>k (y0,x.v2)
theorem q5Q (x:tqj):LE.step X q5N q5x q1V q5I 12 x=WT x.v2 x.1 x.2.1 (fun w=>Sum.inl (q4J x w)) (fun o=>Sum.inr (q5O x id o)):=by kernel_rfl
def q5R {R:Type}:Z1J S R:=LE.ls X q5N (fun x k=>(X1M x.v2 (x.1,x.2.1)).bind (q5O x k)) q5I
theorem q5S {R:Type}:Z2o X (q5R (R:=R)):=ZlQ xok q5y (e:=q5N) q1W q5J (st:=fun(x:tqj)=>WD x.v2) (prj:=fun(x:tqj)=>(x.1,x.2.1)) (emb:=q4J) q5O (fun x=>(q5Q x).trans (by unfold WD WT;simp only[ZlD,Zlu,ZlE,Option.map_some,Option.map_none];rfl)) q5J
def q5T:Key:=⟨[17],17,none,[0,0,1,0,1,1,1,1,1],4,20⟩
def q5U:StT S:=⟨(N (N (N L (some (.rs 20 0)) L) none (N (N L vn L) none L)) none (N (N (N L vj L) none L) none (N (N L vn L) none L))),(N L o6 (N oU none L)),21⟩
def q5V:Way S:=⟨(.exit 4),⟨(N L none (N (N (N L vj L) none L) none L)),(N L o6 (N oU none L)),25⟩,[.str,(.st 20),(.lst .str)]⟩
def q5W:LE S:=⟨q5T,q5U,[.int,.str,.int,(.st 20),(.lst .str)],[q5V]⟩
def q5X {T:Type} (x:tq7) (k:(ByteArray×CoRecord×(List ByteArray))->T):ByteArray->T:=fun y0=>k (y0,x.u3,x.v4)
def q5Y (x:tq7) (v:tqu):tq7:=(v.1,v.2.1,v.v2,x.u3,x.v4)
theorem q5Z (x:tq7):LE.step X q5W q5x q1V q5R 12 x=WU x.v4 x.1 x.2.1 x.u2 (fun w=>Sum.inl (q5Y x w)) (fun o=>Sum.inr (q5X x id o)):=by kernel_rfl
def q60 {R:Type}:Z1J S R:=LE.ls X q5W (fun x k=>(X1N x.v4 (x.1,x.2.1,x.u2)).bind (q5X x k)) q5R
theorem q61 {R:Type}:Z2o X (q60 (R:=R)):=ZlQ xok q5y (e:=q5W) q1W q5S (st:=fun(x:tq7)=>WE x.v4) (prj:=fun(x:tq7)=>(x.1,x.2.1,x.u2)) (emb:=q5Y) q5X (fun x=>(q5Z x).trans (by unfold WE WU;simp only[ZlD,Zlu,ZlE,Option.map_some,Option.map_none];rfl)) q5S
theorem q62 (x0:CoRecord):ZlT X q5x [(.st 20)] [.str] q1V q60 12 17 (x0,())=X1X x0:=by kernel_rfl
def q63:F7 S:=⟨[(.st 20)],[.str],fun xs=>X1y xs.1⟩
theorem q64:Z6c X 17 q63:=ZlP (ZlO xok q5y q1W q61 12 17) fun xs _ h=>((q62 xs.1).trans (X4r xs.1).symm).trans h
def q65:List (Nat×F7 S):=[(16,q58),(17,q63)]
theorem q66:Z9z X (q65):=⟨q59,q64,trivial⟩
theorem q69 (x0:CoRecord):ZlT X q65 [(.st 20)] [.str,(.int .i64)] q1V q4 12 6 (x0,())=X1E x0:=by kernel_rfl
def q6a:F7 S:=⟨[(.st 20)],[.str,(.int .i64)],fun xs=>X3s xs.1⟩
theorem q6b:Z6c X 6 q6a:=ZlP (ZlO xok q66 q1W q5 12 6) fun xs _ h=>((q69 xs.1).trans (X45 xs.1).symm).trans h
def q6c:F7 S:=⟨[.str,(.int .u8)],[(.int .i64)],fun xs=>W4 xs.1 xs.2.1⟩
theorem q6d:Z6c X 86 q6c:=ZlS (ZkH (X:=X) (g:=86) rfl) fun xs=>WZ xs.1 xs.2.1
def q6e:List (Nat×F7 S):=[(86,q6c)]
theorem q6f:Z9z X (q6e):=⟨q6d,trivial⟩
theorem q6i (x0:ByteArray) (x1:Int):ZlT X q6e [.str,(.int .u8)] [(.int .i64)] q1V q4 12 62 (x0,x1,())=W0 x0 x1:=by kernel_rfl
def q6j:F7 S:=⟨[.str,(.int .u8)],[(.int .i64)],fun xs=>Wj xs.1 xs.2.1⟩
theorem q6k:Z6c X 62 q6j:=ZlP (ZlO xok q6f q1W q5 12 62) fun xs _ h=>((q6i xs.1 xs.2.1).trans (X2S xs.1 xs.2.1).symm).trans h
theorem q6p (x0 x1:ByteArray):ZlT X q2 [.str,.str] [.bool] q1V q4 12 90 (x0,x1,())=Xf x0 x1:=by kernel_rfl
def q6q:F7 S:=⟨[.str,.str],[.bool],fun xs=>Xm xs.1 xs.2.1⟩
theorem q6r:Z6c X 90 q6q:=ZlP (ZlO xok q3 q1W q5 12 90) fun xs _ h=>((q6p xs.1 xs.2.1).trans (WX xs.1 xs.2.1).symm).trans h
def q6s:List (Nat×F7 S):=[(90,q6q)]
theorem q6t:Z9z X (q6s):=⟨q6r,trivial⟩
theorem q6w (x0 x1:ByteArray):ZlT X q6s [.str,.str] [.str] q1V q4 12 64 (x0,x1,())=Xa x0 x1:=by kernel_rfl
def q6x:F7 S:=⟨[.str,.str],[.str],fun xs=>XW xs.1 xs.2.1⟩
theorem q6y:Z6c X 64 q6x:=ZlP (ZlO xok q6t q1W q5 12 64) fun xs _ h=>((q6w xs.1 xs.2.1).trans (WL xs.1 xs.2.1).symm).trans h
def q6z:List (Nat×F7 S):=[(64,q6x)]
theorem q6A:Z9z X (q6z):=⟨q6y,trivial⟩
theorem q6D (x0 x1:ByteArray):ZlT X q6z [.str,.str] [.str] q1V q4 12 21 (x0,x1,())=XQ x0 x1:=by kernel_rfl
def q6E:F7 S:=⟨[.str,.str],[.str],fun xs=>XE xs.1 xs.2.1⟩
theorem q6F:Z6c X 21 q6E:=ZlP (ZlO xok q6A q1W q5 12 21) fun xs _ h=>((q6D xs.1 xs.2.1).trans (X2D xs.1 xs.2.1).symm).trans h
def q6G:F7 S:=⟨[.str,.str],[(.sl .str)],fun xs=>X2c xs.1 xs.2.1⟩
theorem q6H:Z6c X 20 q6G:=ZlS (ZkI (X:=X) (g:=20) rfl) fun xs=>X3C xs.1 xs.2.1
theorem q6M (x0:Int):ZlT X q2 [(.int .u8)] [(.int .u8)] q1V q4 12 155 (x0,())=XM x0:=by kernel_rfl
def q6N:F7 S:=⟨[(.int .u8)],[(.int .u8)],fun xs=>X2u xs.1⟩
theorem q6O:Z6c X 155 q6N:=ZlP (ZlO xok q3 q1W q5 12 155) fun xs _ h=>((q6M xs.1).trans (X3g xs.1).symm).trans h
def q6P:List (Nat×F7 S):=[(155,q6N)]
theorem q6Q:Z9z X (q6P):=⟨q6O,trivial⟩
theorem q6T (x0:ByteArray):ZlT X q6P [.str] [.bool] q1V q4 12 156 (x0,())=Xq x0:=by kernel_rfl
def q6U:F7 S:=⟨[.str],[.bool],fun xs=>X1t xs.1⟩
theorem q6V:Z6c X 156 q6U:=ZlP (ZlO xok q6Q q1W q5 12 156) fun xs _ h=>((q6T xs.1).trans (X2v xs.1).symm).trans h
theorem q70 (x0:ByteArray):ZlT X q2 [.str] [.str] q1V q4 12 136 (x0,())=Xx x0:=by kernel_rfl
def q71:F7 S:=⟨[.str],[.str],fun xs=>X1T xs.1⟩
theorem q72:Z6c X 136 q71:=ZlP (ZlO xok q3 q1W q5 12 136) fun xs _ h=>((q70 xs.1).trans (X2M xs.1).symm).trans h
def q73:List (Nat×F7 S):=[(62,q6j),(21,q6E),(20,q6G),(155,q6N),(156,q6U),(136,q71),(29,q24),(14,q22),(15,q31)]
theorem q74:Z9z X (q73):=⟨q6k,q6F,q6H,q6O,q6V,q72,q25,q23,q32,trivial⟩
def q77:Key:=⟨[23,2,11,15,2,6,61,0,7],23,none,[0,0,1,0,1,1],0,72⟩
def q78:StT S:=⟨(N vO none (N (N (N (N L vn L) none L) (some (.rs 72 0)) L) none (N L none (N L vp L)))),oA,73⟩
def q79:Way S:=⟨.pan,⟨vG,oA,91⟩,[.int,(.lst (.int .i64))]⟩
def q7a:Way S:=⟨(.exit 0),⟨(N L none (N (N L (some (.rs 72 0)) L) none L)),oA,74⟩,[(.lst (.int .i64))]⟩
def q7b:LE S:=⟨q77,q78,[.int,.int,(.lst .str),(.lst (.int .i64))],[q79,q7a]⟩
def q7c {T:Type} (x:tqa) (k:tqn->T):tqn->T:=Sum.elim (fun y0=>k (.inl (y0.1,y0.2))) (fun y1=>k (.inr y1))
def q7d (x:tqa) (v:(Int×(List Int))):tqa:=(x.1,v.1,x.u2,v.2)
theorem q7e (x:tqa):LE.step X q7b q73 q1V q4 12 x=WG x.1 x.u2 x.2.1 x.v3 (fun w=>Sum.inl (q7d x w)) (fun o=>Sum.inr (q7c x id o)):=by kernel_rfl
def q7f {R:Type}:Z1J S R:=LE.ls X q7b (fun x k=>(Xt x.1 x.u2 (x.2.1,x.v3)).bind (q7c x k)) q4
theorem q7g {R:Type}:Z2o X (q7f (R:=R)):=ZlQ xok q74 (e:=q7b) q1W q5 (st:=fun(x:tqa)=>Wr x.1 x.u2) (prj:=fun(x:tqa)=>(x.2.1,x.v3)) (emb:=q7d) q7c (fun x=>(q7e x).trans (by unfold Wr WG;simp only[ZlD,Zlu,ZlE,Option.map_some,Option.map_none];rfl)) q5
def q7h:Key:=⟨[23,2,14,15,2,6,61,0,7],23,none,[0,0,1,0,1,1],0,74⟩
def q7i:StT S:=⟨(N vO none (N (N (N (N L vn L) none L) (some (.rs 74 0)) L) none (N L none (N L vp L)))),oB,75⟩
def q7j:Way S:=⟨.pan,⟨vG,oB,93⟩,[.int,(.lst (.int .i64))]⟩
def q7k:Way S:=⟨(.exit 0),⟨(N L none (N (N L (some (.rs 74 0)) L) none L)),oB,76⟩,[(.lst (.int .i64))]⟩
def q7l:LE S:=⟨q7h,q7i,[.int,.int,(.lst .str),(.lst (.int .i64))],[q7j,q7k]⟩
theorem q7o (x:tqa):LE.step X q7l q73 q1V q7f 12 x=X2e x.1 x.u2 x.2.1 x.v3 (fun w=>Sum.inl (q7d x w)) (fun o=>Sum.inr (q7c x id o)):=by kernel_rfl
def q7p {R:Type}:Z1J S R:=LE.ls X q7l (fun x k=>(X2n x.1 x.u2 (x.2.1,x.v3)).bind (q7c x k)) q7f
theorem q7q {R:Type}:Z2o X (q7p (R:=R)):=ZlQ xok q74 (e:=q7l) q1W q7g (st:=fun(x:tqa)=>X2F x.1 x.u2) (prj:=fun(x:tqa)=>(x.2.1,x.v3)) (emb:=q7d) q7c (fun x=>(q7o x).trans (by unfold X2F X2e;simp only[ZlD,Zlu,ZlE,Option.map_some,Option.map_none];rfl)) q7g
def q7r:Key:=⟨[23,2,11,15,2,6,61,0,7],23,none,[0,0,1,0,1,1],0,65⟩
def q7s:StT S:=⟨(N vO none (N (N (N (N L vn L) none L) (some (.rs 65 0)) L) none (N L none (N L vp L)))),oC,66⟩
def q7t:Way S:=⟨.pan,⟨vG,oC,84⟩,[.int,(.lst (.int .i64))]⟩
def q7u:Way S:=⟨(.exit 0),⟨(N L none (N (N L (some (.rs 65 0)) L) none L)),oC,67⟩,[(.lst (.int .i64))]⟩
def q7v:LE S:=⟨q7r,q7s,[.int,.int,(.lst .str),(.lst (.int .i64))],[q7t,q7u]⟩
theorem q7y (x:tqa):LE.step X q7v q73 q1V q7p 12 x=X2f x.1 x.u2 x.2.1 x.v3 (fun w=>Sum.inl (q7d x w)) (fun o=>Sum.inr (q7c x id o)):=by kernel_rfl
def q7z {R:Type}:Z1J S R:=LE.ls X q7v (fun x k=>(X2o x.1 x.u2 (x.2.1,x.v3)).bind (q7c x k)) q7p
theorem q7A {R:Type}:Z2o X (q7z (R:=R)):=ZlQ xok q74 (e:=q7v) q1W q7q (st:=fun(x:tqa)=>X2G x.1 x.u2) (prj:=fun(x:tqa)=>(x.2.1,x.v3)) (emb:=q7d) q7c (fun x=>(q7y x).trans (by unfold X2G X2f;simp only[ZlD,Zlu,ZlE,Option.map_some,Option.map_none];rfl)) q7q
def q7B:Key:=⟨[23,2,14,15,2,6,61,0,7],23,none,[0,0,1,0,1,1],0,67⟩
def q7C:StT S:=⟨(N vO none (N (N (N (N L vn L) none L) (some (.rs 67 0)) L) none (N L none (N L vp L)))),oD,68⟩
def q7D:Way S:=⟨.pan,⟨vG,oD,86⟩,[.int,(.lst (.int .i64))]⟩
def q7E:Way S:=⟨(.exit 0),⟨(N L none (N (N L (some (.rs 67 0)) L) none L)),oD,69⟩,[(.lst (.int .i64))]⟩
def q7F:LE S:=⟨q7B,q7C,[.int,.int,(.lst .str),(.lst (.int .i64))],[q7D,q7E]⟩
theorem q7I (x:tqa):LE.step X q7F q73 q1V q7z 12 x=X2g x.1 x.u2 x.2.1 x.v3 (fun w=>Sum.inl (q7d x w)) (fun o=>Sum.inr (q7c x id o)):=by kernel_rfl
def q7J {R:Type}:Z1J S R:=LE.ls X q7F (fun x k=>(X2p x.1 x.u2 (x.2.1,x.v3)).bind (q7c x k)) q7z
theorem q7K {R:Type}:Z2o X (q7J (R:=R)):=ZlQ xok q74 (e:=q7F) q1W q7A (st:=fun(x:tqa)=>X2H x.1 x.u2) (prj:=fun(x:tqa)=>(x.2.1,x.v3)) (emb:=q7d) q7c (fun x=>(q7I x).trans (by unfold X2H X2g;simp only[ZlD,Zlu,ZlE,Option.map_some,Option.map_none];rfl)) q7A
def q7L:Key:=⟨[61,0,7],61,none,[0,0],0,16⟩
def q7M:StT S:=⟨(N (N L (some (.ptr 9 0)) L) (some (.yld 15)) L),or,18⟩
def q7N:Way S:=⟨.pan,⟨vK,ov,54⟩,[.int,.str,.bool,.int,(.lst (.st 19)),.str,(.lst (.st 18))]⟩
def q7O:Way S:=⟨.pan,⟨vK,ov,71⟩,[.int,.str,.bool,.int,(.lst (.st 19)),.str,(.lst (.st 18))]⟩
def q7P:Way S:=⟨.pan,⟨vK,(N oE o4 (N (N (N (N L oi L) none oT) none L) none L)),91⟩,[.int,.str,.bool,.int,(.lst (.st 19)),.str,(.lst (.st 18)),(.lst (.int .i64))]⟩
def q7Q:Way S:=⟨.pan,⟨vK,ov,73⟩,[.int,.str,.bool,.int,(.lst (.st 19)),.str,(.lst (.st 18))]⟩
def q7R:Way S:=⟨.pan,⟨vK,(N oE o4 (N oV none (N (N L none oT) none L))),93⟩,[.int,.str,.bool,.int,(.lst (.st 19)),.str,(.lst (.st 18)),(.lst (.int .i64))]⟩
def q7S:Way S:=⟨.pan,⟨vK,ov,64⟩,[.int,.str,.bool,.int,(.lst (.st 19)),.str,(.lst (.st 18))]⟩
def q7T:Way S:=⟨.pan,⟨vK,ov,47⟩,[.int,.str,.bool,.int,(.lst (.st 19)),.str,(.lst (.st 18))]⟩
def q7U:Way S:=⟨.pan,⟨vK,(N (N (N (N (N L o1 L) none L) none L) ob (N (N (N (N (N L oa L) none L) oh L) o9 L) none L)) o4 (N oV none L)),84⟩,[.int,.str,.bool,.int,(.lst (.int .i64)),(.lst (.st 19)),.str,(.lst (.st 18))]⟩
def q7V:Way S:=⟨.pan,⟨vK,ov,66⟩,[.int,.str,.bool,.int,(.lst (.st 19)),.str,(.lst (.st 18))]⟩
def q7W:Way S:=⟨.pan,⟨vK,(N (N (N (N (N L o1 L) none L) none (N oT none L)) ob (N (N (N L oh L) o9 L) none L)) o4 (N oV none L)),86⟩,[.int,.str,.bool,(.lst (.int .i64)),.int,(.lst (.st 19)),.str,(.lst (.st 18))]⟩
def q7X:Way S:=⟨.pan,⟨vK,ov,57⟩,[.int,.str,.bool,.int,(.lst (.st 19)),.str,(.lst (.st 18))]⟩
def q7Y:Way S:=⟨(.exit 0),⟨L,or,21⟩,[.str,.bool,.int,(.lst (.st 19)),.str,(.lst (.st 18))]⟩
def q7Z:LE S:=⟨q7L,q7M,[.str,.bool,.int,(.lst (.st 19)),.str,(.lst (.st 18))],[q7N,q7O,q7P,q7Q,q7R,q7S,q7T,q7U,q7V,q7W,q7X,q7Y]⟩
def q80 {T:Type} (x:tq1) (k:(tq0⊕tq0⊕(Int×ByteArray×Bool×Int×(List Zl)×ByteArray×(List Zh)×(List Int))⊕tq0⊕(Int×ByteArray×Bool×Int×(List Zl)×ByteArray×(List Zh)×(List Int))⊕tq0⊕tq0⊕(Int×ByteArray×Bool×Int×(List Int)×(List Zl)×ByteArray×(List Zh))⊕tq0⊕(Int×ByteArray×Bool×(List Int)×Int×(List Zl)×ByteArray×(List Zh))⊕tq0⊕tq1)->T):(tq8⊕tq8⊕(Int×(List Zl)×ByteArray×(List Zh)×(List Int))⊕tq8⊕(Int×(List Zl)×ByteArray×(List Zh)×(List Int))⊕tq8⊕tq8⊕(Int×(List Int)×(List Zl)×ByteArray×(List Zh))⊕tq8⊕(Int×(List Int)×(List Zl)×ByteArray×(List Zh))⊕tq8⊕((List Zl)×ByteArray×(List Zh)))->T:=Sum.elim (fun y0=>k (.inl (y0.1,x.1,x.2.1,x.u2,y0.2.1,y0.u2,y0.v3))) (Sum.elim (fun y1=>k (.inr (.inl (y1.1,x.1,x.2.1,x.u2,y1.2.1,y1.u2,y1.v3)))) (Sum.elim (fun y2=>k (.inr (.inr (.inl (y2.1,x.1,x.2.1,x.u2,y2.2.1,y2.u2,y2.u3,y2.v4))))) (Sum.elim (fun y3=>k (.inr (.inr (.inr (.inl (y3.1,x.1,x.2.1,x.u2,y3.2.1,y3.u2,y3.v3)))))) (Sum.elim (fun y4=>k (.inr (.inr (.inr (.inr (.inl (y4.1,x.1,x.2.1,x.u2,y4.2.1,y4.u2,y4.u3,y4.v4))))))) (Sum.elim (fun y5=>k (.inr (.inr (.inr (.inr (.inr (.inl (y5.1,x.1,x.2.1,x.u2,y5.2.1,y5.u2,y5.v3)))))))) (Sum.elim (fun y6=>k (.inr (.inr (.inr (.inr (.inr (.inr (.inl (y6.1,x.1,x.2.1,x.u2,y6.2.1,y6.u2,y6.v3))))))))) (Sum.elim (fun y7=>k (.inr (.inr (.inr (.inr (.inr (.inr (.inr (.inl (y7.1,x.1,x.2.1,x.u2,y7.2.1,y7.u2,y7.u3,y7.v4)))))))))) (Sum.elim (fun y8=>k (.inr (.inr (.inr (.inr (.inr (.inr (.inr (.inr (.inl (y8.1,x.1,x.2.1,x.u2,y8.2.1,y8.u2,y8.v3))))))))))) (Sum.elim (fun y9=>k (.inr (.inr (.inr (.inr (.inr (.inr (.inr (.inr (.inr (.inl (y9.1,x.1,x.2.1,y9.2.1,x.u2,y9.u2,y9.u3,y9.v4)))))))))))) (Sum.elim (fun y10=>k (.inr (.inr (.inr (.inr (.inr (.inr (.inr (.inr (.inr (.inr (.inl (y10.1,x.1,x.2.1,x.u2,y10.2.1,y10.u2,y10.v3))))))))))))) (fun y11=>k (.inr (.inr (.inr (.inr (.inr (.inr (.inr (.inr (.inr (.inr (.inr (x.1,x.2.1,x.u2,y11.1,y11.2.1,y11.v2)))))))))))))))))))))))
def q81 (x:tq1) (v:((List Zl)×ByteArray×(List Zh))):tq1:=(x.1,x.2.1,x.u2,v.1,v.2.1,v.v2)
theorem q82 (x:tq1):LE.step X q7Z q73 q1V q7J 12 x=W2 x.u3 x.u4 x.v5 (fun w=>Sum.inl (q81 x w)) (fun o=>Sum.inr (q80 x id o)):=by kernel_rfl
def q83 {R:Type}:Z1J S R:=LE.ls X q7Z (fun x k=>(Wh (x.u3,x.u4,x.v5)).bind (q80 x k)) q7J
theorem q84 {R:Type}:Z2o X (q83 (R:=R)):=ZlQ xok q74 (e:=q7Z) q1W q7K (st:=fun(x:tq1)=>Wq) (prj:=fun(x:tq1)=>(x.u3,x.u4,x.v5)) (emb:=q81) q80 (fun x=>(q82 x).trans (by unfold Wq W2;simp only[ZlD,Zlu,ZlE,Option.map_some,Option.map_none];rfl)) q7K
theorem q85 (x0:ByteArray):ZlT X q73 [.str] [(.st 20),(.int .i64)] q1V q83 12 7 (x0,())=X2q x0:=by kernel_rfl
def q86:F7 S:=⟨[.str],[(.st 20),(.int .i64)],fun xs=>X1P xs.1⟩
theorem q87:Z6c X 7 q86:=ZlP (ZlO xok q74 q1W q84 12 7) fun xs _ h=>((q85 xs.1).trans (X4d xs.1).symm).trans h
def q8c:Key:=⟨[24],24,none,[0,0,1,0,1,1,1],0,4⟩
def q8d:StT S:=⟨(N (N (N (N L vn L) none L) (some (.int .u8 0)) (N L (some (.rs 4 0)) L)) vj (N L none (N L vn L))),oU,5⟩
def q8e:Way S:=⟨(.exit 0),⟨(N (N L none (N L (some (.rs 4 0)) L)) vj (N L none (N L vn L))),oU,9⟩,[.str,.int,(.lst .str)]⟩
def q8f:LE S:=⟨q8c,q8d,[.int,.int,.str,.int,(.lst .str)],[q8e]⟩
def q8g {T:Type} (x:tq9) (k:tqh->T):tqs->T:=fun y0=>k (x.u2,y0.1,y0.2)
def q8h (x:tq9) (v:(Int×Int×(List ByteArray))):tq9:=(v.1,x.2.1,x.u2,v.2.1,v.v2)
theorem q8i (x:tq9):LE.step X q8f q2 q1V q4 12 x=X19 x.2.1 x.u2 x.1 x.u3 x.v4 (fun w=>Sum.inl (q8h x w)) (fun o=>Sum.inr (q8g x id o)):=by kernel_rfl
def q8j {R:Type}:Z1J S R:=LE.ls X q8f (fun x k=>(X23 x.2.1 x.u2 (x.1,x.u3,x.v4)).bind (q8g x k)) q4
theorem q8k {R:Type}:Z2o X (q8j (R:=R)):=ZlQ xok q3 (e:=q8f) q1W q5 (st:=fun(x:tq9)=>X13 x.2.1 x.u2) (prj:=fun(x:tq9)=>(x.1,x.u3,x.v4)) (emb:=q8h) q8g (fun x=>(q8i x).trans (by unfold X13 X19;simp only[ZlD,Zlu,ZlE,Option.map_some,Option.map_none];rfl)) q5
theorem q8l (x0:ByteArray) (x1:Int):ZlT X q2 [.str,(.int .u8)] [(.sl .str)] q1V q8j 12 24 (x0,x1,())=X29 x0 x1:=by kernel_rfl
def q8m:F7 S:=⟨[.str,(.int .u8)],[(.sl .str)],fun xs=>X36 xs.1 xs.2.1⟩
theorem q8n:Z6c X 24 q8m:=ZlP (ZlO xok q3 q1W q8k 12 24) fun xs _ h=>((q8l xs.1 xs.2.1).trans (X4D xs.1 xs.2.1).symm).trans h
def q8s:Key:=⟨[25],25,none,[0,0,1,0,1,1,1],0,17⟩
def q8t:StT S:=⟨(N (N (N L vn L) none L) vj (N (N L vn L) none L)),L,17⟩
def q8u:Way S:=⟨.ret,⟨(N L none (N L vn L)),L,32⟩,[.int]⟩
def q8v:Way S:=⟨(.exit 0),⟨vQ,L,21⟩,[.int]⟩
def q8w:LE S:=⟨q8s,q8t,[.int,.str,.int],[q8u,q8v]⟩
def q8x {T:Type} (x:tqu) (k:(Int⊕Int)->T):(Int⊕Int)->T:=Sum.elim (fun y0=>k (.inl y0)) (fun y1=>k (.inr y1))
def q8y (x:tqu) (v:(Int×Int)):tqu:=(v.1,x.2.1,v.2)
theorem q8z (x:tqu):LE.step X q8w q3o q1V q4 12 x=XY x.2.1 x.1 x.v2 (fun w=>Sum.inl (q8y x w)) (fun o=>Sum.inr (q8x x id o)):=by kernel_rfl
def q8A {R:Type}:Z1J S R:=LE.ls X q8w (fun x k=>(XG x.2.1 (x.1,x.v2)).bind (q8x x k)) q4
theorem q8B {R:Type}:Z2o X (q8A (R:=R)):=ZlQ xok q3p (e:=q8w) q1W q5 (st:=fun(x:tqu)=>XT x.2.1) (prj:=fun(x:tqu)=>(x.1,x.v2)) (emb:=q8y) q8x (fun x=>(q8z x).trans (by unfold XT XY;simp only[ZlD,Zlu,ZlE,Option.map_some,Option.map_none];rfl)) q5
theorem q8C (x0:ByteArray):ZlT X q3o [.str] [(.int .i64)] q1V q8A 12 25 (x0,())=X1a x0:=by kernel_rfl
def q8D:F7 S:=⟨[.str],[(.int .i64)],fun xs=>Xi xs.1⟩
theorem q8E:Z6c X 25 q8D:=ZlP (ZlO xok q3p q1W q8B 12 25) fun xs _ h=>((q8C xs.1).trans (X3A xs.1).symm).trans h
def q8F:List (Nat×F7 S):=[(24,q8m),(25,q8D),(16,q58),(17,q63)]
theorem q8G:Z9z X (q8F):=⟨q8n,q8E,q59,q64,trivial⟩
def q8J:Key:=⟨[8],8,none,[0,0,1,0,1,1,1,1],0,10⟩
def q8K:StT S:=⟨(N (N L none (N L vp L)) vj (N (N L (some (.ptr 5 0)) L) (some (.ptr 0 0)) (N L vn L))),oz,12⟩
def q8L:Way S:=⟨.ret,⟨(N (N (N L vn L) none L) none (N L (some (.ptr 0 0)) L)),oz,44⟩,[.int,(.lst (.st 19)),(.lst (.st 18))]⟩
def q8M:Way S:=⟨(.exit 0),⟨(N L vj (N (N L (some (.ptr 5 0)) L) (some (.ptr 0 0)) L)),oz,17⟩,[.str,(.lst (.st 19)),(.lst (.st 18))]⟩
def q8N:LE S:=⟨q8J,q8K,[(.lst .str),.str,.int,(.lst (.st 19)),(.lst (.st 18))],[q8L,q8M]⟩
def q8O {T:Type} (x:tq2) (k:((Int×(List Zl)×(List Zh))⊕(ByteArray×(List Zl)×(List Zh)))->T):((Int×(List Zl)×(List Zh))⊕((List Zl)×(List Zh)))->T:=Sum.elim (fun y0=>k (.inl (y0.1,y0.2.1,y0.v2))) (fun y1=>k (.inr (x.2.1,y1.1,y1.2)))
def q8P (x:tq2) (v:(Int×(List Zl)×(List Zh))):tq2:=(x.1,x.2.1,v.1,v.2.1,v.v2)
theorem q8Q (x:tq2):LE.step X q8N q8F q1V q4 12 x=WO x.1 x.u2 x.u3 x.v4 (fun w=>Sum.inl (q8P x w)) (fun o=>Sum.inr (q8O x id o)):=by kernel_rfl
def q8R {R:Type}:Z1J S R:=LE.ls X q8N (fun x k=>(X1f x.1 (x.u2,x.u3,x.v4)).bind (q8O x k)) q4
theorem q8S {R:Type}:Z2o X (q8R (R:=R)):=ZlQ xok q8G (e:=q8N) q1W q5 (st:=fun(x:tq2)=>X1k x.1) (prj:=fun(x:tq2)=>(x.u2,x.u3,x.v4)) (emb:=q8P) q8O (fun x=>(q8Q x).trans (by unfold X1k WO;simp only[ZlD,Zlu,ZlE,Option.map_some,Option.map_none];rfl)) q5
theorem q8T (x0:ByteArray):ZlT X q8F [.str] [(.st 20),(.int .i64)] q1V q8R 12 8 (x0,())=X1l x0:=by kernel_rfl
def q8U:F7 S:=⟨[.str],[(.st 20),(.int .i64)],fun xs=>X1U xs.1⟩
theorem q8V:Z6c X 8 q8U:=ZlP (ZlO xok q8G q1W q8S 12 8) fun xs _ h=>((q8T xs.1).trans (X3v xs.1).symm).trans h
def q90:Key:=⟨[9],9,none,[0,0,1,0,1,1],0,20⟩
def q91:StT S:=⟨(N (N (N L (some (.ptr 1 0)) L) none (N L vn L)) none (N L (some (.ptr 0 0)) L)),(N (N L o6 L) o6 L),20⟩
def q92:Way S:=⟨.ret,⟨(N L none (N (N L vo L) none L)),(N (N L o6 L) o6 L),37⟩,[.bool,(.st 20),(.st 20)]⟩
def q93:Way S:=⟨(.exit 0),⟨(N (N (N L (some (.ptr 1 0)) L) none L) none (N L (some (.ptr 0 0)) L)),(N (N L o6 L) o6 L),25⟩,[(.st 20),(.st 20)]⟩
def q94:LE S:=⟨q90,q91,[.int,(.st 20),(.st 20)],[q92,q93]⟩
def q95 {T:Type} (x:tqr) (k:((Bool×CoRecord×CoRecord)⊕(CoRecord×CoRecord))->T):(Bool⊕Unit)->T:=Sum.elim (fun y0=>k (.inl (y0,x.2.1,x.v2))) (fun y1=>k (.inr (x.2.1,x.v2)))
def q96 (x:tqr) (v:Int):tqr:=(v,x.2.1,x.v2)
theorem q97 (x:tqr):LE.step X q94 q2 q1V q4 12 x=WP x.2.1 x.v2 x.1 (fun w=>Sum.inl (q96 x w)) (fun o=>Sum.inr (q95 x id o)):=by kernel_rfl
def q98 {R:Type}:Z1J S R:=LE.ls X q94 (fun x k=>(X2x x.2.1 x.v2 x.1).bind (q95 x k)) q4
theorem q99 {R:Type}:Z2o X (q98 (R:=R)):=ZlQ xok q3 (e:=q94) q1W q5 (st:=fun(x:tqr)=>WA x.2.1 x.v2) (prj:=fun(x:tqr)=>x.1) (emb:=q96) q95 (fun x=>(q97 x).trans (by unfold WA WP;simp only[ZlD,Zlu,ZlE,Option.map_some,Option.map_none];rfl)) q5
def q9a:Key:=⟨[9],9,none,[0,0,1,0,1,1,1],2,26⟩
def q9b:StT S:=⟨(N (N (N L (some (.ptr 1 0)) L) none L) none (N L (some (.ptr 0 0)) (N L vn L))),(N (N L o6 L) o6 L),26⟩
def q9c:Way S:=⟨.ret,⟨(N L none (N (N L vo L) none L)),(N (N L o6 L) o6 L),43⟩,[.bool,(.st 20),(.st 20)]⟩
def q9d:Way S:=⟨(.exit 2),⟨L,(N (N L o6 L) o6 L),31⟩,[(.st 20),(.st 20)]⟩
def q9e:LE S:=⟨q9a,q9b,[.int,(.st 20),(.st 20)],[q9c,q9d]⟩
theorem q9h (x:tqr):LE.step X q9e q2 q1V q98 12 x=WQ x.2.1 x.v2 x.1 (fun w=>Sum.inl (q96 x w)) (fun o=>Sum.inr (q95 x id o)):=by kernel_rfl
def q9i {R:Type}:Z1J S R:=LE.ls X q9e (fun x k=>(X2y x.2.1 x.v2 x.1).bind (q95 x k)) q98
theorem q9j {R:Type}:Z2o X (q9i (R:=R)):=ZlQ xok q3 (e:=q9e) q1W q99 (st:=fun(x:tqr)=>XH x.2.1 x.v2) (prj:=fun(x:tqr)=>x.1) (emb:=q96) q95 (fun x=>(q9h x).trans (by unfold XH WQ;simp only[ZlD,Zlu,ZlE,Option.map_some,Option.map_none];rfl)) q99
theorem q9k (x0 x1:CoRecord):ZlT X q2 [(.st 20),(.st 20)] [.bool] q1V q9i 12 9 (x0,x1,())=X1V x0 x1:=by kernel_rfl
def q9l:F7 S:=⟨[(.st 20),(.st 20)],[.bool],fun xs=>X3J xs.1 xs.2.1⟩
theorem q9m:Z6c X 9 q9l:=ZlP (ZlO xok q3 q1W q9j 12 9) fun xs _ h=>((q9k xs.1 xs.2.1).trans (X4n xs.1 xs.2.1).symm).trans h
theorem q9r (x0 x1:ByteArray):ZlT X q6s [.str,.str] [.str,.bool] q1V q4 12 67 (x0,x1,())=Xe x0 x1:=by kernel_rfl
def q9s:F7 S:=⟨[.str,.str],[.str,.bool],fun xs=>W3 xs.1 xs.2.1⟩
theorem q9t:Z6c X 67 q9s:=ZlP (ZlO xok q6t q1W q5 12 67) fun xs _ h=>((q9r xs.1 xs.2.1).trans (WV xs.1 xs.2.1).symm).trans h
def q9u:List (Nat×F7 S):=[(67,q9s)]
theorem q9v:Z9z X (q9u):=⟨q9t,trivial⟩
theorem q9y (x0 x1:ByteArray):ZlT X q9u [.str,.str] [.str,.bool] q1V q4 12 26 (x0,x1,())=XZ x0 x1:=by kernel_rfl
def q9z:F7 S:=⟨[.str,.str],[.str,.bool],fun xs=>XP xs.1 xs.2.1⟩
theorem q9A:Z6c X 26 q9z:=ZlP (ZlO xok q9v q1W q5 12 26) fun xs _ h=>((q9y xs.1 xs.2.1).trans (X2Q xs.1 xs.2.1).symm).trans h
def q9F:Key:=⟨[68],68,none,[0,0,1,0,1],0,5⟩
def q9G:StT S:=⟨(N (N L (some (.int .u8 0)) (N L vn L)) vj L),L,5⟩
def q9I:Way S:=⟨(.exit 0),⟨L,L,7⟩,[]⟩
def q9J:LE S:=⟨q9F,q9G,[.int,.int,.str],[q3L,q9I]⟩
def q9K {T:Type} (x:tqv) (k:(Int⊕Unit)->T):(Int⊕Unit)->T:=Sum.elim (fun y0=>k (.inl y0)) (fun y1=>k (.inr ()))
def q9L (x:tqv) (v:Int):tqv:=(x.1,v,x.v2)
theorem q9M (x:tqv):LE.step X q9J q2 q1V q4 12 x=X3 x.1 x.v2 x.2.1 (fun w=>Sum.inl (q9L x w)) (fun o=>Sum.inr (q9K x id o)):=by kernel_rfl
def q9N {R:Type}:Z1J S R:=LE.ls X q9J (fun x k=>(X1 x.1 x.v2 x.2.1).bind (q9K x k)) q4
theorem q9O {R:Type}:Z2o X (q9N (R:=R)):=ZlQ xok q3 (e:=q9J) q1W q5 (st:=fun(x:tqv)=>X5 x.1 x.v2) (prj:=fun(x:tqv)=>x.2.1) (emb:=q9L) q9K (fun x=>(q9M x).trans (by unfold X5 X3;simp only[ZlD,Zlu,ZlE,Option.map_some,Option.map_none];rfl)) q5
theorem q9P (x0:ByteArray) (x1:Int):ZlT X q2 [.str,(.int .u8)] [(.int .i64)] q1V q9N 12 68 (x0,x1,())=X6 x0 x1:=by kernel_rfl
def q9Q:F7 S:=⟨[.str,(.int .u8)],[(.int .i64)],fun xs=>Xz xs.1 xs.2.1⟩
theorem q9R:Z6c X 68 q9Q:=ZlP (ZlO xok q3 q1W q9O 12 68) fun xs _ h=>((q9P xs.1 xs.2.1).trans (W8 xs.1 xs.2.1).symm).trans h
def q9S:List (Nat×F7 S):=[(68,q9Q)]
theorem q9T:Z9z X (q9S):=⟨q9R,trivial⟩
theorem q9W (x0:ByteArray) (x1:Int):ZlT X q9S [.str,(.int .u8)] [(.int .i64)] q1V q4 12 27 (x0,x1,())=Xy x0 x1:=by kernel_rfl
def q9X:F7 S:=⟨[.str,(.int .u8)],[(.int .i64)],fun xs=>Xs xs.1 xs.2.1⟩
theorem q9Y:Z6c X 27 q9X:=ZlP (ZlO xok q9T q1W q5 12 27) fun xs _ h=>((q9W xs.1 xs.2.1).trans (X2a xs.1 xs.2.1).symm).trans h
def q9Z:List (Nat×F7 S):=[(62,q6j),(26,q9z),(27,q9X),(28,q2k),(29,q24)]
theorem qa0:Z9z X (q9Z):=⟨q6k,q9A,q9Y,q2l,q25,trivial⟩
def qa3:Key:=⟨[61,0,10],61,none,[0,0],0,16⟩
def qa4:StT S:=⟨(N (N L (some (.ptr 11 0)) L) (some (.yld 15)) L),oq,16⟩
def qa5:Way S:=⟨.ret,⟨L,ox,62⟩,[.str,.bool,.str,.int,.int,.int,.int]⟩
def qa6:Way S:=⟨.ret,⟨L,ox,75⟩,[.str,.bool,.str,.int,.int,.int,.int]⟩
def qa7:Way S:=⟨.ret,⟨L,ox,55⟩,[.str,.bool,.str,.int,.int,.int,.int]⟩
def qa8:Way S:=⟨.ret,⟨L,ox,68⟩,[.str,.bool,.str,.int,.int,.int,.int]⟩
def qa9:Way S:=⟨(.exit 0),⟨L,oq,19⟩,[.str,.bool,.str,.int,.int,.int,.int]⟩
def qaa:LE S:=⟨qa3,qa4,[.str,.bool,.str,.int,.int,.int,.int],[qa5,qa6,qa7,qa8,qa9]⟩
def qab {T:Type} (x:tq6) (k:(tq6⊕tq6⊕tq6⊕tq6⊕tq6)->T):(tql⊕tql⊕tql⊕tql⊕tqt)->T:=Sum.elim (fun y0=>k (.inl (x.1,x.2.1,y0.1,y0.2.1,y0.u2,y0.u3,y0.v4))) (Sum.elim (fun y1=>k (.inr (.inl (x.1,x.2.1,y1.1,y1.2.1,y1.u2,y1.u3,y1.v4)))) (Sum.elim (fun y2=>k (.inr (.inr (.inl (x.1,x.2.1,y2.1,y2.2.1,y2.u2,y2.u3,y2.v4))))) (Sum.elim (fun y3=>k (.inr (.inr (.inr (.inl (x.1,x.2.1,y3.1,y3.2.1,y3.u2,y3.u3,y3.v4)))))) (fun y4=>k (.inr (.inr (.inr (.inr (x.1,x.2.1,y4.1,x.u3,y4.2.1,x.u5,y4.v2)))))))))
def qac (x:tq6) (v:tqt):tq6:=(x.1,x.2.1,v.1,x.u3,v.2.1,x.u5,v.v2)
theorem qad (x:tq6):LE.step X qaa q9Z q1V q4 12 x=XF x.u2 x.u4 x.v6 (fun w=>Sum.inl (qac x w)) (fun o=>Sum.inr (qab x id o)):=by kernel_rfl
def qae {R:Type}:Z1J S R:=LE.ls X qaa (fun x k=>(XR (x.u2,x.u4,x.v6)).bind (qab x k)) q4
theorem qaf {R:Type}:Z2o X (qae (R:=R)):=ZlQ xok qa0 (e:=qaa) q1W q5 (st:=fun(x:tq6)=>W1) (prj:=fun(x:tq6)=>(x.u2,x.u4,x.v6)) (emb:=qac) qab (fun x=>(qad x).trans (by unfold W1 XF;simp only[ZlD,Zlu,ZlE,Option.map_some,Option.map_none];rfl)) q5
theorem qag (x0:ByteArray):ZlT X q9Z [.str] [(.int .i64),(.int .i64)] q1V qae 12 10 (x0,())=Wp x0:=by kernel_rfl
def qah:F7 S:=⟨[.str],[(.int .i64),(.int .i64)],fun xs=>X1Z xs.1⟩
theorem qai:Z6c X 10 qah:=ZlP (ZlO xok qa0 q1W qaf 12 10) fun xs _ h=>((qag xs.1).trans (X2U xs.1).symm).trans h
def qaj:List (Nat×F7 S):=[(25,q8D)]
theorem qak:Z9z X (qaj):=⟨q8E,trivial⟩
def qan:Key:=⟨[30],30,none,[0,0,1,0,1,1],0,5⟩
def qao:StT S:=⟨(N (N L none (N L vn L)) vj (N L none (N L vn L))),L,5⟩
def qap:Way S:=⟨(.exit 0),⟨(N (N L none (N L vn L)) vj L),L,9⟩,[.int,.str]⟩
def qaq:LE S:=⟨qan,qao,[.int,.str,.int],[qap]⟩
def qar {T:Type} (x:tqu) (k:(Int×ByteArray)->T):Int->T:=fun y0=>k (y0,x.2.1)
theorem qat (x:tqu):LE.step X qaq qaj q1V q4 12 x=Wf x.2.1 x.1 x.v2 (fun w=>Sum.inl (q8y x w)) (fun o=>Sum.inr (qar x id o)):=by kernel_rfl
def qau {R:Type}:Z1J S R:=LE.ls X qaq (fun x k=>(X1h x.2.1 (x.1,x.v2)).bind (qar x k)) q4
theorem qav {R:Type}:Z2o X (qau (R:=R)):=ZlQ xok qak (e:=qaq) q1W q5 (st:=fun(x:tqu)=>W7 x.2.1) (prj:=fun(x:tqu)=>(x.1,x.v2)) (emb:=q8y) qar (fun x=>(qat x).trans (by unfold W7 Wf;simp only[ZlD,Zlu,ZlE,Option.map_some,Option.map_none];rfl)) q5
theorem qaw (x0:ByteArray):ZlT X qaj [.str] [(.int .i64),.str,.bool] q1V qau 12 30 (x0,())=X1m x0:=by kernel_rfl
def qax:F7 S:=⟨[.str],[(.int .i64),.str,.bool],fun xs=>X33 xs.1⟩
theorem qay:Z6c X 30 qax:=ZlP (ZlO xok qak q1W qav 12 30) fun xs _ h=>((qaw xs.1).trans (X3O xs.1).symm).trans h
def qaz:List (Nat×F7 S):=[(24,q8m),(30,qax),(31,q5v)]
theorem qaA:Z9z X (qaz):=⟨q8n,qay,q5w,trivial⟩
def qaD:Key:=⟨[11],11,none,[0,0,1,0,1,1,1,1],0,10⟩
def qaE:StT S:=⟨(N (N L none (N L vn L)) none (N (N L vp L) none (N L vn L))),L,10⟩
def qaF:Way S:=⟨.ret,⟨(N (N (N L vn L) none L) none (N L vn L)),L,28⟩,[.int,.int]⟩
def qaG:Way S:=⟨(.exit 0),⟨L,L,24⟩,[]⟩
def qaH:Way S:=⟨.ret,⟨(N (N (N L vn L) none L) none (N L vn L)),L,44⟩,[.int,.int]⟩
def qaI:Way S:=⟨(.exit 0),⟨L,L,14⟩,[]⟩
def qaJ:LE S:=⟨qaD,qaE,[.int,(.lst .str),.int],[qaF,qaG,qaH,qaI]⟩
def qaK {T:Type} (x:tqo) (k:((Int×Int)⊕Unit⊕(Int×Int)⊕Unit)->T):((Int×Int)⊕Unit⊕(Int×Int)⊕Unit)->T:=Sum.elim (fun y0=>k (.inl (y0.1,y0.2))) (Sum.elim (fun y1=>k (.inr (.inl ()))) (Sum.elim (fun y2=>k (.inr (.inr (.inl (y2.1,y2.2))))) (fun y3=>k (.inr (.inr (.inr ()))))))
def qaL (x:tqo) (v:(Int×Int)):tqo:=(v.1,x.2.1,v.2)
theorem qaM (x:tqo):LE.step X qaJ qaz q1V q4 12 x=We x.2.1 x.1 x.v2 (fun w=>Sum.inl (qaL x w)) (fun o=>Sum.inr (qaK x id o)):=by kernel_rfl
def qaN {R:Type}:Z1J S R:=LE.ls X qaJ (fun x k=>(X1g x.2.1 (x.1,x.v2)).bind (qaK x k)) q4
theorem qaO {R:Type}:Z2o X (qaN (R:=R)):=ZlQ xok qaA (e:=qaJ) q1W q5 (st:=fun(x:tqo)=>W6 x.2.1) (prj:=fun(x:tqo)=>(x.1,x.v2)) (emb:=qaL) qaK (fun x=>(qaM x).trans (by unfold W6 We;simp only[ZlD,Zlu,ZlE,Option.map_some,Option.map_none];rfl)) q5
theorem qaP (x0:ByteArray):ZlT X qaz [.str] [(.int .i64),(.int .i64)] q1V qaN 12 11 (x0,())=Wz x0:=by kernel_rfl
def qaQ:F7 S:=⟨[.str],[(.int .i64),(.int .i64)],fun xs=>X24 xs.1⟩
theorem qaR:Z6c X 11 qaQ:=ZlP (ZlO xok qaA q1W qaO 12 11) fun xs _ h=>((qaP xs.1).trans (X2W xs.1).symm).trans h
end
end Nore
