/- The code comes to the plain functions. -/
import Derived.Test.YtfiegoekphpjlaaGreatDoorY
import Derived.Test.YtfiegoekphpjlaaGreatDoorD
set_option linter.unusedSectionVars false
set_option linter.unusedVariables false
set_option linter.unusedSimpArgs false
set_option maxRecDepth 100000
open Go Go.Ab Go.Proofs Go.Proofs.YtfiegoekphpjlaaGreatDoor
open Go.Ab.Tr renaming node->N,leaf->L
namespace Prod
abbrev v2 {a b s:Type} (x:a×b×s):=x.2.2
abbrev u2 {a b r s:Type} (x:a×b×r×s):=x.2.2.1
abbrev v3 {a b c s:Type} (x:a×b×c×s):=x.2.2.2
abbrev u3 {a b c r s:Type} (x:a×b×c×r×s):=x.2.2.2.1
abbrev v4 {a b c d s:Type} (x:a×b×c×d×s):=x.2.2.2.2
abbrev u4 {a b c d r s:Type} (x:a×b×c×d×r×s):=x.2.2.2.2.1
abbrev v5 {a b c d e s:Type} (x:a×b×c×d×e×s):=x.2.2.2.2.2
abbrev u5 {a b c d e r s:Type} (x:a×b×c×d×e×r×s):=x.2.2.2.2.2.1
abbrev v6 {a b c d e f s:Type} (x:a×b×c×d×e×f×s):=x.2.2.2.2.2.2
end Prod
namespace Nore
noncomputable section
abbrev tqm:Type:=Int×Int×ByteArray
abbrev tql:Type:=Int×CoRecord×CoRecord
abbrev tqk:Type:=Int×ByteArray×Int×Int
abbrev tqj:Type:=(Int×(List Int))⊕(List Int)
abbrev tqi:Type:=Int×(List Zl)×Int×Int
abbrev tqh:Type:=ByteArray×Int×Int×Int×Int
abbrev tqg:Type:=Int×(List ByteArray)×CoRecord
abbrev tqf:Type:=Int×ByteArray×ByteArray×Nat
abbrev tqe:Type:=ByteArray×Int×(List ByteArray)
abbrev tqd:Type:=Int×(List Int)×Int×Int×Int
abbrev tqc:Type:=Int×Int×(List Y1)×Int×Int
abbrev tqb:Type:=Int×(List Zl)×Int×CoRecord
abbrev tqa:Type:=Int×(List Zh)×Int×CoRecord
abbrev tq9:Type:=Int×(List Zh)×Int×Zh
abbrev tq8:Type:=Int×Int×(List ByteArray)×CoRecord
abbrev tq7:Type:=Int×Int×(List ByteArray)×(List Int)
abbrev tq6:Type:=Int×(List Zl)×ByteArray×(List Zh)
abbrev tq5:Type:=ByteArray×Bool×ByteArray×Int×Int×Int×Int
abbrev tq4:Type:=Int×ByteArray×Int×(List Int)×Int×(List Int)
abbrev tq3:Type:=Int×Int×(List Zl)×Int×(List Int)×CoRecord
abbrev tq2:Type:=Int×(List Zh)×Int×Int×(List Int)×CoRecord
abbrev tq1:Type:=ByteArray×Bool×Int×(List Zl)×ByteArray×(List Zh)
abbrev tq0:Type:=Int×ByteArray×Bool×Int×(List Zl)×ByteArray×(List Zh)
abbrev vn:Option (TV S):=some (.sl .str [])
abbrev vm:Option (TV S):=some (.bool false)
abbrev vl:Option (TV S):=some (.int .i64 0)
abbrev vk:Option (TV S):=some (.sl (.st 19) [])
abbrev vj:Option (TV S):=some (.sl (.st 18) [])
abbrev oi:Option (Zi S):=some (.row 9 .str [] 1 0)
abbrev vh:Option (TV S):=some (.str ByteArray.empty)
abbrev og:Option (Zi S):=some (.row 50 (.st 18) [] 1 0)
abbrev of:Option (Zi S):=some (.row 54 (.st 19) [] 1 0)
abbrev ve:Option (TV S):=some (.iface 26 (.int .i64 0))
abbrev od:Option (Zi S):=some (.row 5 (.int .u8) [] 1 0)
abbrev oc:Option (Zi S):=some (.siter ByteArray.empty 0)
abbrev ob:Option (Zi S):=some (.cells 3 [(.int .i64 0)])
abbrev oa:Option (Zi S):=some (.cells 26 [(.int .i64 0)])
abbrev o9:Option (Zi S):=some (.row 3 (.int .i64) [] 1 0)
abbrev o8:Option (Zi S):=some (.cells 9 [(.str ByteArray.empty)])
abbrev o7:Option (Zi S):=some (.cells 54 [(.stc 19 (T.dflt 19))])
abbrev o6:Option (Zi S):=some (.cells 50 [(.stc 18 (T.dflt 18))])
abbrev o5:Option (Zi S):=some (.cells 25 [(.stc 20 (T.dflt 20))])
abbrev o4:Option (Zi S):=some (.cells 25 [(.rs 16 0),(.rs 17 0)])
abbrev v3:Option (TV S):=some (.tup [(.int .i64 0),(.int .i64 0)])
abbrev v2:Option (TV S):=some (.fn (.func 54) [] [(.ptr 3 0),(.ptr 2 0)])
abbrev o1:Option (Zi S):=some (.loop 7 (N (N (N L (some (.ptr 1 0)) L) none L) vh (N L (some (.ptr 0 0)) (N (N L vm L) none (N L (some (.fn (.func 61) [] [(.ptr 9 0)])) L)))) (15::[]) .skip .skip 0 .busy (0::(7::[])) (0::(1::(0::(1::(1::(1::[])))))))
abbrev o0:Option (Zi S):=some (.loop 10 (N (N (N L (some (.ptr 1 0)) L) none (N L (some (.ptr 6 0)) L)) vh (N (N L (some (.ptr 5 0)) (N L vm L)) (some (.ptr 0 0)) (N L none (N L (some (.fn (.func 61) [] [(.ptr 11 0)])) L)))) (15::[]) .skip .skip 0 .ret (0::(10::[])) (0::(1::(0::(1::(1::(1::[])))))))
abbrev oR:Tr (Zi S):=N (N (N L og L) none L) none L
abbrev oQ:Tr (Zi S):=N (N (N L o9 L) none L) none L
abbrev oP:Tr (Zi S):=N (N (N L oc L) none L) none L
abbrev vO:Tr (TV S):=N L none (N (N L vl L) none L)
abbrev vN:Tr (TV S):=N (N (N L vl L) none L) none L
abbrev oM:Tr (Zi S):=N L none (N (N (N L o6 L) o6 L) none L)
abbrev vL:Tr (TV S):=N vN none L
abbrev vK:Tr (TV S):=N (N (N L vl L) none L) none (N (N L vl L) vl L)
abbrev oJ:Tr (Zi S):=N (N L none (N (N (N L oi L) none L) none L)) o5 L
abbrev vI:Tr (TV S):=N (N L none (N L vl L)) none (N (N L vl L) none L)
abbrev vH:Tr (TV S):=N (N L none (N (N L none (N L ve L)) none L)) none L
abbrev oG:Tr (Zi S):=N (N L none (N (N L none (N L o6 L)) none L)) none L
abbrev oF:Tr (Zi S):=N L none (N L none (N (N (N L o6 L) none L) none L))
abbrev vE:Tr (TV S):=N (N L (some (.ptr 2 0)) L) none (N (N L vl L) none L)
abbrev vD:Tr (TV S):=N L none (N L none (N (N (N (N L ve L) none L) none L) none L))
abbrev vC:Tr (TV S):=N (N (N L (some (.ptr 2 0)) L) none L) vh (N L (some (.ptr 3 0)) L)
abbrev oB:Tr (Zi S):=N (N (N (N L o1 L) none L) none L) oa (N (N (N L of L) o8 L) none L)
abbrev oA:Tr (Zi S):=N (N (N L none (N oQ none L)) none L) none L
abbrev oz:Tr (Zi S):=N (N L none (N (N oQ none L) none L)) none L
abbrev oy:Tr (Zi S):=N L none (N L none (N (N L none oQ) none L))
abbrev ox:Tr (Zi S):=N L none (N (N (N L none oQ) none L) none L)
abbrev ow:Tr (Zi S):=N (N (N L ob (N L od L)) none L) o5 (N L (some (.cells 93 [(.nop 2),(.rs 11 0)])) L)
abbrev ov:Tr (Zi S):=N (N (N (N (N L o0 L) none L) none (N L o8 L)) oa (N L ob L)) ob (N L none (N L ob L))
abbrev ou:Tr (Zi S):=N (N (N L ob L) none (N (N (N L od L) none L) none L)) o5 (N L (some (.cells 93 [(.nop 2),(.rs 17 0)])) L)
abbrev ot:Tr (Zi S):=N oB o4 (N oR none L)
abbrev os:Tr (Zi S):=N (N (N oQ ob L) none L) none (N L (some (.cells 93 [(.nop 2),(.rs 30 0)])) (N L none (N L none (N L od L))))
abbrev or:Tr (Zi S):=N (N (N (N L none (N (N L od L) none L)) ob L) none L) none (N (N (N L none (N (N L o9 L) none L)) none L) (some (.cells 93 [(.nop 2),(.rs 39 0)])) L)
abbrev oq:Tr (Zi S):=N (N L none (N (N (N L (some (.row 9 .str [] 1 1)) L) none L) none L)) o5 (N (N L none (N L none (N L o6 L))) none (N L none (N (N (N L (some (.row 9 .str [] 0 0)) L) none L) none L)))
abbrev op:Tr (Zi S):=N (N (N (N (N L (some (.loop 7 (N (N (N L (some (.ptr 1 0)) L) none L) vh (N L (some (.ptr 0 0)) (N (N L vm L) none (N L (some (.fn (.func 61) [] [(.ptr 9 0)])) L)))) (15::[]) .skip .skip 0 .normal (0::(7::[])) (0::(1::(0::(1::(1::(1::[])))))))) L) none L) none L) oa (N (N (N L of L) o8 L) none L)) o4 (N oR none L)
abbrev oo:Tr (Zi S):=N (N (N (N (N L (some (.loop 10 (N (N (N L (some (.ptr 1 0)) L) none (N L (some (.ptr 6 0)) L)) vh (N (N L (some (.ptr 5 0)) (N L vm L)) (some (.ptr 0 0)) (N L none (N L (some (.fn (.func 61) [] [(.ptr 11 0)])) L)))) (15::[]) .skip .skip 0 .normal (0::(10::[])) (0::(1::(0::(1::(1::(1::[])))))))) L) none L) none (N L o8 L)) oa (N L ob L)) ob (N L none (N L ob L))
def q0 {R:Type}:Prs S R:=ZlE
theorem q1 {R:Type}:Z8I X (q0 (R:=R)):=ZlF X
def q2:List (Nat×F7 S):=[]
theorem q3:Z9z X (q2):=trivial
abbrev q4 {R:Type}:Z1J S R:=Zkn
theorem q5 {R:Type}:Z2o X (q4 (R:=R)):=Zla X
def q6:Key:=⟨[104,2,1,79,2,1,44],104,none,[0,0,1,0,1],0,17⟩
def q7:StT S:=⟨(N (N (N (N L vl L) none L) (some (.fn (.func 80) [] [(.ptr 0 0),(.ptr 1 0)])) L) (some (.sl (.int .i64) [])) vN),(N (N L ob L) ob L),17⟩
def q8:Way S:=⟨.ret,⟨vO,(N (N L ob L) ob L),38⟩,[.int,.int,.int]⟩
def q9:Way S:=⟨(.exit 0),⟨L,(N (N L ob L) ob L),18⟩,[.int,.int]⟩
def qa:LE S:=⟨q6,q7,[.int,(.lst (.int .i64)),.int,.int,.int],[q8,q9]⟩
def qb {T:Type} (x:tqd) (k:((Int×Int×Int)⊕(Int×Int))->T):(Int⊕Unit)->T:=Sum.elim (fun y0=>k (.inl (y0,x.u3,x.v4))) (fun y1=>k (.inr (x.u3,x.v4)))
def qc (x:tqd) (v:Int):tqd:=(x.1,x.2.1,v,x.u3,x.v4)
theorem qd (x:tqd):LE.step X qa q2 q0 q4 12 x=XS x.1 x.2.1 x.u3 x.v4 x.u2 (fun w=>Sum.inl (qc x w)) (fun o=>Sum.inr (qb x id o)):=by kernel_rfl
def qe {R:Type}:Z1J S R:=LE.ls X qa (fun x k=>(X2A x.1 x.2.1 x.u3 x.v4 x.u2).bind (qb x k)) q4
theorem qf {R:Type}:Z2o X (qe (R:=R)):=ZlP xok q3 (e:=qa) q1 q5 (st:=fun(x:tqd)=>XO x.1 x.2.1 x.u3 x.v4) (prj:=fun(x:tqd)=>x.u2) (emb:=qc) qb (fun x=>(qd x).trans (by unfold XO XS;simp only[ZlC,Zlt,ZlD,Option.map_some,Option.map_none];rfl)) q5
theorem qg (x0 x1:Int) (x2:List Int):ZlS X q2 [(.int .i64),(.int .i64),(.sl (.int .i64))] [.bool] q0 qe 12 44 (x0,x1,x2,())=WM x0 x1 x2:=by kernel_rfl
def qh:F7 S:=⟨[(.int .i64),(.int .i64),(.sl (.int .i64))],[.bool],fun xs=>XA xs.1 xs.2.1 xs.u2⟩
theorem qi:Z9e X 44 qh:=ZlO (ZlN xok q3 q1 qf 12 44) fun xs _ h=>((qg xs.1 xs.2.1 xs.u2).trans (X3d xs.1 xs.2.1 xs.u2).symm).trans h
def qn:Key:=⟨[47],47,none,[0,0,1,0,1,1],0,4⟩
def qo:StT S:=⟨(N (N (N (N L (some (.iter 3)) L) (some (.int .i32 0)) L) none L) vh L),oP,4⟩
def qp:Way S:=⟨.ret,⟨(N L none (N L vm L)),oP,23⟩,[.bool,.str,.nat]⟩
def qq:Way S:=⟨(.exit 0),⟨(N (N (N L (some (.int .i32 0)) L) none L) vh L),oP,6⟩,[.int,.str,.str,.nat]⟩
def qr:LE S:=⟨qn,qo,[.int,.str,.str,.nat],[qp,qq]⟩
def qs {T:Type} (x:tqf) (k:((Bool×ByteArray×Nat)⊕tqf)->T):((Bool×Nat)⊕(Int×Nat))->T:=Sum.elim (fun y0=>k (.inl (y0.1,x.u2,y0.2))) (fun y1=>k (.inr (y1.1,x.2.1,x.u2,y1.2)))
def qt (x:tqf) (v:(Int×Nat)):tqf:=(v.1,x.2.1,x.u2,v.2)
theorem qu (x:tqf):LE.step X qr q2 q0 q4 12 x=Wt x.2.1 x.u2 x.1 x.v3 (fun w=>Sum.inl (qt x w)) (fun o=>Sum.inr (qs x id o)):=by kernel_rfl
def qv {R:Type}:Z1J S R:=LE.ls X qr (fun x k=>(X33 x.2.1 x.u2 (x.1,x.v3)).bind (qs x k)) q4
theorem qw {R:Type}:Z2o X (qv (R:=R)):=ZlP xok q3 (e:=qr) q1 q5 (st:=fun(x:tqf)=>Wk x.2.1 x.u2) (prj:=fun(x:tqf)=>(x.1,x.v3)) (emb:=qt) qs (fun x=>(qu x).trans (by unfold Wk Wt;simp only[ZlC,Zlt,ZlD,Option.map_some,Option.map_none];rfl)) q5
theorem qx (x0:ByteArray):ZlS X q2 [.str] [.bool] q0 qv 12 47 (x0,())=X3j x0:=by kernel_rfl
def qy:F7 S:=⟨[.str],[.bool],fun xs=>X3j xs.1⟩
theorem qz:Z9e X 47 qy:=ZlO (ZlN xok q3 q1 qw 12 47) fun xs _ h=>(qx xs.1).trans h
def qA:List (Nat×F7 S):=[(44,qh)]
theorem qB:Z9z X (qA):=⟨qi,trivial⟩
theorem qE (x0:CoRecord) (x1:Zt):ZlS X qA [(.st 20),(.st 21)] [(.int .i64)] q0 q4 12 52 (x0,x1,())=X1s x0 x1:=by kernel_rfl
def qF:F7 S:=⟨[(.st 20),(.st 21)],[(.int .i64)],fun xs=>X3k xs.1 xs.2.1⟩
theorem qG:Z9e X 52 qF:=ZlO (ZlN xok qB q1 q5 12 52) fun xs _ h=>((qE xs.1 xs.2.1).trans (X40 xs.1 xs.2.1).symm).trans h
def qH:StT S:=⟨(N (N L (some (.fn (.func 46) [] [(.ptr 0 0)])) L) vj L),(N L o5 L),1⟩
def qI:Way S:=⟨.ret,⟨(N L v3 L),(N L o5 L),1⟩,[.int,.int,(.st 20)]⟩
def qJ:PE S:=⟨45,2,qH,[(.lst (.st 18)),(.st 20)],[qI]⟩
def qK:List (Nat×F7 S):=[(44,qh),(47,qy),(52,qF)]
theorem qL:Z9z X qK:=⟨qi,qz,qG,trivial⟩
def qO:Key:=⟨[81,2,1,48,5,3,46,3,4,45],81,none,[0,0,1,0,1],0,42⟩
def qP:StT S:=⟨(N (N (N (N L vl L) none L) (some (.fn (.func 49) [] [(.ptr 18 0)])) L) vj vN),oF,42⟩
def qQ:Way S:=⟨.ret,⟨vO,(N oG none (N L none (N (N (N L o6 L) none L) none L))),61⟩,[.int,(.st 18),(.st 18)]⟩
def qR:Way S:=⟨(.exit 0),⟨L,oF,43⟩,[(.st 18)]⟩
def qS:LE S:=⟨qO,qP,[.int,(.lst (.st 18)),.int,(.st 18)],[qQ,qR]⟩
def qT {T:Type} (x:tq9) (k:((Int×Zh×Zh)⊕Zh)->T):((Int×Zh)⊕Unit)->T:=Sum.elim (fun y0=>k (.inl (y0.1,y0.2,x.v3))) (fun y1=>k (.inr x.v3))
def qU (x:tq9) (v:Int):tq9:=(x.1,x.2.1,v,x.v3)
theorem qV (x:tq9):LE.step X qS qK q0 q4 12 x=X9 x.1 x.2.1 x.v3 x.u2 (fun w=>Sum.inl (qU x w)) (fun o=>Sum.inr (qT x id o)):=by kernel_rfl
def qW {R:Type}:Z1J S R:=LE.ls X qS (fun x k=>(Xb x.1 x.2.1 x.v3 x.u2).bind (qT x k)) q4
theorem qX {R:Type}:Z2o X (qW (R:=R)):=ZlP xok qL (e:=qS) q1 q5 (st:=fun(x:tq9)=>X7 x.1 x.2.1 x.v3) (prj:=fun(x:tq9)=>x.u2) (emb:=qU) qT (fun x=>(qV x).trans (by unfold X7 X9;simp only[ZlC,Zlt,ZlD,Option.map_some,Option.map_none];rfl)) q5
def qY:Key:=⟨[45],45,none,[0,0,1,0,1],0,6⟩
def qZ:StT S:=⟨(N (N (N L none (N L vl L)) (some (.fn (.func 46) [] [(.ptr 0 0)])) (N (N L vj L) none L)) none vO),(N L o5 L),6⟩
def q10:Way S:=⟨.ret,⟨vI,(N L o5 oM),32⟩,[.int,.int,(.st 20),(.st 18),(.st 18)]⟩
def q11:Way S:=⟨.ret,⟨vI,(N oG o5 oM),68⟩,[.int,.int,(.st 18),(.st 20),(.st 18),(.st 18)]⟩
def q12:Way S:=⟨.ret,⟨vI,(N (N (N (N oQ none L) none (N (N L none (N L o6 L)) none L)) none L) o5 oM),82⟩,[.int,.int,(.lst (.int .i64)),(.st 18),(.st 20),(.st 18),(.st 18)]⟩
def q13:Way S:=⟨.ret,⟨vI,(N (N (N (N oQ none oQ) none (N (N L none (N L o6 L)) none L)) none L) o5 oM),82⟩,[.int,.int,(.lst (.int .i64)),(.lst (.int .i64)),(.st 18),(.st 20),(.st 18),(.st 18)]⟩
def q14:Way S:=⟨.ret,⟨vI,(N L o5 (N L none (N (N (N L o6 L) o6 L) none (N L none (N (N L o9 L) none L))))),65⟩,[.int,.int,(.st 20),(.st 18),(.st 18),(.lst (.int .i64))]⟩
def q15:Way S:=⟨.ret,⟨vI,(N L o5 (N L none (N (N (N L o6 L) o6 L) none (N (N L none (N L o9 L)) none (N (N L o9 L) none L))))),65⟩,[.int,.int,(.st 20),(.st 18),(.st 18),(.lst (.int .i64)),(.lst (.int .i64))]⟩
def q16:Way S:=⟨(.exit 0),⟨L,(N L o5 L),7⟩,[(.st 20)]⟩
def q17:LE S:=⟨qY,qZ,[.int,(.lst (.st 18)),.int,(.st 20)],[q10,q11,q12,q13,q14,q15,q16]⟩
def q18 {T:Type} (x:tqa) (k:((Int×Int×CoRecord×Zh×Zh)⊕(Int×Int×Zh×CoRecord×Zh×Zh)⊕(Int×Int×(List Int)×Zh×CoRecord×Zh×Zh)⊕(Int×Int×(List Int)×(List Int)×Zh×CoRecord×Zh×Zh)⊕(Int×Int×CoRecord×Zh×Zh×(List Int))⊕(Int×Int×CoRecord×Zh×Zh×(List Int)×(List Int))⊕CoRecord)->T):((Int×Int×Zh×Zh)⊕(Int×Int×Zh×Zh×Zh)⊕(Int×Int×(List Int)×Zh×Zh×Zh)⊕(Int×Int×(List Int)×(List Int)×Zh×Zh×Zh)⊕(Int×Int×Zh×Zh×(List Int))⊕(Int×Int×Zh×Zh×(List Int)×(List Int))⊕Unit)->T:=Sum.elim (fun y0=>k (.inl (y0.1,y0.2.1,x.v3,y0.u2,y0.v3))) (Sum.elim (fun y1=>k (.inr (.inl (y1.1,y1.2.1,y1.u2,x.v3,y1.u3,y1.v4)))) (Sum.elim (fun y2=>k (.inr (.inr (.inl (y2.1,y2.2.1,y2.u2,y2.u3,x.v3,y2.u4,y2.v5))))) (Sum.elim (fun y3=>k (.inr (.inr (.inr (.inl (y3.1,y3.2.1,y3.u2,y3.u3,y3.u4,x.v3,y3.u5,y3.v6)))))) (Sum.elim (fun y4=>k (.inr (.inr (.inr (.inr (.inl (y4.1,y4.2.1,x.v3,y4.u2,y4.u3,y4.v4))))))) (Sum.elim (fun y5=>k (.inr (.inr (.inr (.inr (.inr (.inl (y5.1,y5.2.1,x.v3,y5.u2,y5.u3,y5.u4,y5.v5)))))))) (fun y6=>k (.inr (.inr (.inr (.inr (.inr (.inr x.v3))))))))))))
def q19 (x:tqa) (v:Int):tqa:=(v,x.2.1,x.u2,x.v3)
theorem q1a (x:tqa):LE.step X q17 qK q0 qW 12 x=X8 x.2.1 x.u2 x.v3 x.1 (fun w=>Sum.inl (q19 x w)) (fun o=>Sum.inr (q18 x id o)):=by kernel_rfl
def q1b {R:Type}:Z1J S R:=LE.ls X q17 (fun x k=>(XB x.2.1 x.u2 x.v3 x.1).bind (q18 x k)) qW
theorem q1c {R:Type}:Z2o X (q1b (R:=R)):=ZlP xok qL (e:=q17) q1 qX (st:=fun(x:tqa)=>Xg x.2.1 x.u2 x.v3) (prj:=fun(x:tqa)=>x.1) (emb:=q19) q18 (fun x=>(q1a x).trans (by unfold Xg X8;simp only[ZlC,Zlt,ZlD,Option.map_some,Option.map_none];rfl)) qX
theorem q1d (x:((List Zh)×CoRecord)):PE.step X qJ qK q0 q1b 12 x=Xi x.1 x.2:=by kernel_rfl
theorem q1e:ZjH X qJ Xs:=ZlQ (Zle xok qL q1 q1c 12) fun x _ h=>((q1d x).trans (WV x).symm).trans h
def q1f {R:Type}:Prs S R:=PE.ps X qJ (fun x q=>(Xs x).bind q) q0
theorem q1g {R:Type}:Z8I X (q1f (R:=R)):=ZlJ (e:=qJ) q1e q1
def q1h:StT S:=⟨(N (N L (some (.fn (.func 51) [] [(.ptr 0 0)])) L) vk L),(N L o5 L),1⟩
def q1j:PE S:=⟨50,2,q1h,[(.lst (.st 19)),(.st 20)],[qI]⟩
def q1o:Key:=⟨[50],50,none,[0,0,1,0,1],0,6⟩
def q1p:StT S:=⟨(N (N (N L none (N L vl L)) (some (.fn (.func 51) [] [(.ptr 0 0)])) (N (N L vk L) none L)) none vO),(N L o5 L),6⟩
def q1q:Way S:=⟨.ret,⟨vI,(N L o5 (N L none (N (N (N L o7 L) o7 L) none L))),30⟩,[.int,.int,(.st 20),(.st 19),(.st 19)]⟩
def q1s:LE S:=⟨q1o,q1p,[.int,(.lst (.st 19)),.int,(.st 20)],[q1q,q16]⟩
def q1t {T:Type} (x:tqb) (k:((Int×Int×CoRecord×Zl×Zl)⊕CoRecord)->T):((Int×Int×Zl×Zl)⊕Unit)->T:=Sum.elim (fun y0=>k (.inl (y0.1,y0.2.1,x.v3,y0.u2,y0.v3))) (fun y1=>k (.inr x.v3))
def q1u (x:tqb) (v:Int):tqb:=(v,x.2.1,x.u2,x.v3)
theorem q1v (x:tqb):LE.step X q1s qK q1f q4 12 x=Xc x.2.1 x.u2 x.v3 x.1 (fun w=>Sum.inl (q1u x w)) (fun o=>Sum.inr (q1t x id o)):=by kernel_rfl
def q1w {R:Type}:Z1J S R:=LE.ls X q1s (fun x k=>(XG x.2.1 x.u2 x.v3 x.1).bind (q1t x k)) q4
theorem q1x {R:Type}:Z2o X (q1w (R:=R)):=ZlP xok qL (e:=q1s) q1g q5 (st:=fun(x:tqb)=>Xh x.2.1 x.u2 x.v3) (prj:=fun(x:tqb)=>x.1) (emb:=q1u) q1t (fun x=>(q1v x).trans (by unfold Xh Xc;simp only[ZlC,Zlt,ZlD,Option.map_some,Option.map_none];rfl)) q5
theorem q1y (x:((List Zl)×CoRecord)):PE.step X q1j qK q1f q1w 12 x=Xj x.1 x.2:=by kernel_rfl
theorem q1z:ZjH X q1j Xu:=ZlQ (Zle xok qL q1g q1x 12) fun x _ h=>((q1y x).trans (X12 x).symm).trans h
def q1A {R:Type}:Prs S R:=PE.ps X q1j (fun x q=>(Xu x).bind q) q1f
theorem q1B {R:Type}:Z8I X (q1A (R:=R)):=ZlJ (e:=q1j) q1z q1g
def q1C:StT S:=⟨(N (N L (some (.fn (.func 53) [] [(.ptr 0 0)])) L) vk L),(N L ob L),1⟩
def q1D:Way S:=⟨.ret,⟨(N L v3 L),(N L ob L),1⟩,[.int,.int,.int]⟩
def q1E:PE S:=⟨50,2,q1C,[(.lst (.st 19)),.int],[q1D]⟩
def q1K:StT S:=⟨(N (N (N L none (N L vl L)) (some (.fn (.func 53) [] [(.ptr 0 0)])) (N (N L vk L) none L)) none vO),(N L ob L),6⟩
def q1L:Way S:=⟨.ret,⟨vI,(N L ob (N L none (N (N (N L o7 L) o7 L) none L))),38⟩,[.int,.int,.int,(.st 19),(.st 19)]⟩
def q1M:Way S:=⟨(.exit 0),⟨L,(N L ob L),7⟩,[.int]⟩
def q1N:LE S:=⟨q1o,q1K,[.int,(.lst (.st 19)),.int,.int],[q1L,q1M]⟩
def q1O {T:Type} (x:tqi) (k:((Int×Int×Int×Zl×Zl)⊕Int)->T):((Int×Int×Int×Zl×Zl)⊕Int)->T:=Sum.elim (fun y0=>k (.inl (y0.1,y0.2.1,y0.u2,y0.u3,y0.v4))) (fun y1=>k (.inr y1))
def q1P (x:tqi) (v:(Int×Int)):tqi:=(v.1,x.2.1,x.u2,v.2)
theorem q1Q (x:tqi):LE.step X q1N qK q1A q4 12 x=Xd x.2.1 x.u2 x.1 x.v3 (fun w=>Sum.inl (q1P x w)) (fun o=>Sum.inr (q1O x id o)):=by kernel_rfl
def q1R {R:Type}:Z1J S R:=LE.ls X q1N (fun x k=>(XH x.2.1 x.u2 (x.1,x.v3)).bind (q1O x k)) q4
theorem q1S {R:Type}:Z2o X (q1R (R:=R)):=ZlP xok qL (e:=q1N) q1B q5 (st:=fun(x:tqi)=>X4 x.2.1 x.u2) (prj:=fun(x:tqi)=>(x.1,x.v3)) (emb:=q1P) q1O (fun x=>(q1Q x).trans (by unfold X4 Xd;simp only[ZlC,Zlt,ZlD,Option.map_some,Option.map_none];rfl)) q5
theorem q1T (x:((List Zl)×Int)):PE.step X q1E qK q1A q1R 12 x=Xk x.1 x.2:=by kernel_rfl
theorem q1U:ZjH X q1E Xv:=ZlQ (Zle xok qL q1B q1S 12) fun x _ h=>((q1T x).trans (X14 x).symm).trans h
def q1V {R:Type}:Prs S R:=PE.ps X q1E (fun x q=>(Xv x).bind q) q1A
theorem q1W {R:Type}:Z8I X (q1V (R:=R)):=ZlJ (e:=q1E) q1U q1B
theorem q1Y:Z9z X (qK):=⟨qi,qz,qG,trivial⟩
theorem q21 (x0:CoRecord):ZlS X qK [(.st 20)] [(.int .i64),(.int .i64),(.int .i64)] q1V q4 12 14 (x0,())=X1c x0:=by kernel_rfl
def q22:F7 S:=⟨[(.st 20)],[(.int .i64),(.int .i64),(.int .i64)],fun xs=>WL xs.1⟩
theorem q23:Z9e X 14 q22:=ZlO (ZlN xok q1Y q1W q5 12 14) fun xs _ h=>((q21 xs.1).trans (X3v xs.1).symm).trans h
def q24:F7 S:=⟨[(.int .i64)],[.str],fun xs=>W4 xs.1⟩
theorem q25:Z9e X 29 q24:=ZlR (ZkU (X:=X) (g:=29) rfl) fun xs=>X3s xs.1
def q2a:Key:=⟨[28],28,none,[0,0,1,0,1],0,4⟩
def q2b:StT S:=⟨(N (N (N (N L vl L) none L) vh L) vl vN),L,4⟩
def q2c:Way S:=⟨(.exit 0),⟨(N L vl L),L,5⟩,[.int]⟩
def q2d:LE S:=⟨q2a,q2b,[.int,.str,.int,.int],[q2c]⟩
def q2e {T:Type} (x:tqk) (k:Int->T):Int->T:=fun y0=>k y0
def q2f (x:tqk) (v:(Int×Int)):tqk:=(x.1,x.2.1,v.1,v.2)
theorem q2g (x:tqk):LE.step X q2d q2 q1V q4 12 x=Ww x.1 x.2.1 x.u2 x.v3 (fun w=>Sum.inl (q2f x w)) (fun o=>Sum.inr (q2e x id o)):=by kernel_rfl
def q2h {R:Type}:Z1J S R:=LE.ls X q2d (fun x k=>(X29 x.1 x.2.1 (x.u2,x.v3)).bind (q2e x k)) q4
theorem q2i {R:Type}:Z2o X (q2h (R:=R)):=ZlP xok q3 (e:=q2d) q1W q5 (st:=fun(x:tqk)=>Wn x.1 x.2.1) (prj:=fun(x:tqk)=>(x.u2,x.v3)) (emb:=q2f) q2e (fun x=>(q2g x).trans (by unfold Wn Ww;simp only[ZlC,Zlt,ZlD,Option.map_some,Option.map_none];rfl)) q5
theorem q2j (x0:Int) (x1:ByteArray):ZlS X q2 [(.int .i64),.str] [(.int .i64)] q1V q2h 12 28 (x0,x1,())=X1r x0 x1:=by kernel_rfl
def q2k:F7 S:=⟨[(.int .i64),.str],[(.int .i64)],fun xs=>X1T xs.1 xs.2.1⟩
theorem q2l:Z9e X 28 q2k:=ZlO (ZlN xok q3 q1W q2i 12 28) fun xs _ h=>((q2j xs.1 xs.2.1).trans (X3Y xs.1 xs.2.1).symm).trans h
def q2m:List (Nat×F7 S):=[(29,q24),(28,q2k)]
theorem q2n:Z9z X (q2m):=⟨q25,q2l,trivial⟩
def q2q:Key:=⟨[54,9,7,15],54,none,[0,0,1,0],0,30⟩
def q2r:StT S:=⟨(N vE vh (N (N (N L (some (.rs 31 0)) L) none L) (some (.ptr 3 0)) (N (N L vl L) none L))),os,32⟩
def q2s:Way S:=⟨(.exit 0),⟨vC,os,33⟩,[.str,(.lst (.int .i64)),.int,(.lst (.int .u8))]⟩
def q2t:LE S:=⟨q2q,q2r,[.int,.str,.int,(.lst (.int .i64)),.int,(.lst (.int .u8))],[q2s]⟩
def q2u {T:Type} (x:tq4) (k:(ByteArray×(List Int)×Int×(List Int))->T):ByteArray->T:=fun y0=>k (y0,x.u3,x.u4,x.v5)
def q2v (x:tq4) (v:(ByteArray×Int)):tq4:=(x.1,v.1,v.2,x.u3,x.u4,x.v5)
theorem q2w (x:tq4):LE.step X q2t q2m q1V q4 12 x=Wy x.1 x.u3 x.2.1 x.u2 (fun w=>Sum.inl (q2v x w)) (fun o=>Sum.inr (q2u x id o)):=by kernel_rfl
def q2x {R:Type}:Z1J S R:=LE.ls X q2t (fun x k=>(WN x.1 x.u3 (x.2.1,x.u2)).bind (q2u x k)) q4
theorem q2y {R:Type}:Z2o X (q2x (R:=R)):=ZlP xok q2n (e:=q2t) q1W q5 (st:=fun(x:tq4)=>Wp x.1 x.u3) (prj:=fun(x:tq4)=>(x.2.1,x.u2)) (emb:=q2v) q2u (fun x=>(q2w x).trans (by unfold Wp Wy;simp only[ZlC,Zlt,ZlD,Option.map_some,Option.map_none];rfl)) q5
def q2z:Key:=⟨[15],15,none,[0,0,1,0,1,1,1,1],0,11⟩
def q2A:StT S:=⟨(N (N (N L (some (.ptr 2 0)) L) (some (.ptr 0 0)) (N L v2 (N L vl L))) none (N (N L none (N L vj L)) none (N L none (N L vl L)))),ow,12⟩
def q2B:Way S:=⟨(.exit 0),⟨(N (N (N L (some (.ptr 2 0)) L) (some (.ptr 0 0)) (N L v2 L)) none L),ow,13⟩,[.int,(.lst (.int .u8)),(.st 20)]⟩
def q2C:LE S:=⟨q2z,q2A,[.int,(.lst (.st 18)),.int,.int,(.lst (.int .u8)),(.st 20)],[q2B]⟩
def q2D {T:Type} (x:tq2) (k:(Int×(List Int)×CoRecord)->T):(Int×(List Int))->T:=fun y0=>k (y0.1,y0.2,x.v5)
def q2E (x:tq2) (v:(Int×Int×(List Int))):tq2:=(x.1,x.2.1,v.1,v.2.1,v.v2,x.v5)
theorem q2F (x:tq2):LE.step X q2C q2m q1V q2x 12 x=Wx x.1 x.2.1 x.u2 x.u3 x.u4 (fun w=>Sum.inl (q2E x w)) (fun o=>Sum.inr (q2D x id o)):=by kernel_rfl
def q2G {R:Type}:Z1J S R:=LE.ls X q2C (fun x k=>(X1l x.1 x.2.1 (x.u2,x.u3,x.u4)).bind (q2D x k)) q2x
theorem q2H {R:Type}:Z2o X (q2G (R:=R)):=ZlP xok q2n (e:=q2C) q1W q2y (st:=fun(x:tq2)=>Wo x.1 x.2.1) (prj:=fun(x:tq2)=>(x.u2,x.u3,x.u4)) (emb:=q2E) q2D (fun x=>(q2F x).trans (by unfold Wo Wx;simp only[ZlC,Zlt,ZlD,Option.map_some,Option.map_none];rfl)) q2y
def q2I:Key:=⟨[54,12,12,15],54,none,[0,0,1,0],0,39⟩
def q2J:StT S:=⟨(N vE vh (N (N (N L (some (.rs 40 0)) L) none L) (some (.ptr 3 0)) (N (N L vl L) none L))),or,41⟩
def q2K:Way S:=⟨(.exit 0),⟨vC,or,42⟩,[.str,(.lst (.int .u8)),.int,(.lst (.int .i64))]⟩
def q2L:LE S:=⟨q2I,q2J,[.int,.str,.int,(.lst (.int .u8)),.int,(.lst (.int .i64))],[q2K]⟩
theorem q2O (x:tq4):LE.step X q2L q2m q1V q2G 12 x=X1U x.1 x.v5 x.2.1 x.u2 (fun w=>Sum.inl (q2v x w)) (fun o=>Sum.inr (q2u x id o)):=by kernel_rfl
def q2P {R:Type}:Z1J S R:=LE.ls X q2L (fun x k=>(X2a x.1 x.v5 (x.2.1,x.u2)).bind (q2u x k)) q2G
theorem q2Q {R:Type}:Z2o X (q2P (R:=R)):=ZlP xok q2n (e:=q2L) q1W q2H (st:=fun(x:tq4)=>X2u x.1 x.v5) (prj:=fun(x:tq4)=>(x.2.1,x.u2)) (emb:=q2v) q2u (fun x=>(q2O x).trans (by unfold X2u X1U;simp only[ZlC,Zlt,ZlD,Option.map_some,Option.map_none];rfl)) q2H
def q2R:Key:=⟨[15],15,none,[0,0,1,0,1,1,1,1,1],2,17⟩
def q2S:StT S:=⟨(N (N (N vN (some (.ptr 2 0)) L) none (N L v2 L)) none (N vL none (N L none (N L none (N L vk L))))),ou,18⟩
def q2T:Way S:=⟨(.exit 2),⟨(N (N (N L (some (.ptr 2 0)) L) none L) none L),ou,19⟩,[.int,(.lst (.int .u8)),(.st 20)]⟩
def q2U:LE S:=⟨q2R,q2S,[.int,.int,(.lst (.st 19)),.int,(.lst (.int .u8)),(.st 20)],[q2T]⟩
def q2V {T:Type} (x:tq3) (k:(Int×(List Int)×CoRecord)->T):(Int×(List Int))->T:=fun y0=>k (y0.1,y0.2,x.v5)
def q2W (x:tq3) (v:(Int×Int×(List Int))):tq3:=(x.1,v.1,x.u2,v.2.1,v.v2,x.v5)
theorem q2X (x:tq3):LE.step X q2U q2m q1V q2P 12 x=Wz x.1 x.u2 x.2.1 x.u3 x.u4 (fun w=>Sum.inl (q2W x w)) (fun o=>Sum.inr (q2V x id o)):=by kernel_rfl
def q2Y {R:Type}:Z1J S R:=LE.ls X q2U (fun x k=>(X1m x.1 x.u2 (x.2.1,x.u3,x.u4)).bind (q2V x k)) q2P
theorem q2Z {R:Type}:Z2o X (q2Y (R:=R)):=ZlP xok q2n (e:=q2U) q1W q2Q (st:=fun(x:tq3)=>Wq x.1 x.u2) (prj:=fun(x:tq3)=>(x.2.1,x.u3,x.u4)) (emb:=q2W) q2V (fun x=>(q2X x).trans (by unfold Wq Wz;simp only[ZlC,Zlt,ZlD,Option.map_some,Option.map_none];rfl)) q2Q
theorem q30 (x0:CoRecord):ZlS X q2m [(.st 20)] [.str] q1V q2Y 12 15 (x0,())=X1t x0:=by kernel_rfl
def q31:F7 S:=⟨[(.st 20)],[.str],fun xs=>X18 xs.1⟩
theorem q32:Z9e X 15 q31:=ZlO (ZlN xok q2n q1W q2Z 12 15) fun xs _ h=>((q30 xs.1).trans (X42 xs.1).symm).trans h
def q33:List (Nat×F7 S):=[(14,q22),(15,q31)]
theorem q34:Z9z X (q33):=⟨q23,q32,trivial⟩
theorem q37 (x0:CoRecord):ZlS X q33 [(.st 20)] [.str,(.int .i64)] q1V q4 12 5 (x0,())=X1d x0:=by kernel_rfl
def q38:F7 S:=⟨[(.st 20)],[.str,(.int .i64)],fun xs=>X1q xs.1⟩
theorem q39:Z9e X 5 q38:=ZlO (ZlN xok q34 q1W q5 12 5) fun xs _ h=>((q37 xs.1).trans (X3x xs.1).symm).trans h
theorem q3e (x0 x1 x2:Int):ZlS X q2 [(.int .i64),(.int .i64),(.int .i64)] [.bool] q1V q4 12 57 (x0,x1,x2,())=X2n x0 x1 x2:=by kernel_rfl
def q3f:F7 S:=⟨[(.int .i64),(.int .i64),(.int .i64)],[.bool],fun xs=>X2G xs.1 xs.2.1 xs.u2⟩
theorem q3g:Z9e X 57 q3f:=ZlO (ZlN xok q3 q1W q5 12 57) fun xs _ h=>((q3e xs.1 xs.2.1 xs.u2).trans (X4J xs.1 xs.2.1 xs.u2).symm).trans h
theorem q3l (x0 x1 x2:Int):ZlS X q2 [(.int .i64),(.int .i64),(.int .i64)] [.bool] q1V q4 12 66 (x0,x1,x2,())=X2F x0 x1 x2:=by kernel_rfl
def q3m:F7 S:=⟨[(.int .i64),(.int .i64),(.int .i64)],[.bool],fun xs=>X2F xs.1 xs.2.1 xs.u2⟩
theorem q3n:Z9e X 66 q3m:=ZlO (ZlN xok q3 q1W q5 12 66) fun xs _ h=>(q3l xs.1 xs.2.1 xs.u2).trans h
def q3o:List (Nat×F7 S):=[(66,q3m)]
theorem q3p:Z9z X (q3o):=⟨q3n,trivial⟩
def q3s:Key:=⟨[83],83,none,[0,0,1,0,1,1],0,6⟩
def q3t:StT S:=⟨(N (N (N L vl L) none L) vh L),L,6⟩
def q3u:Way S:=⟨.ret,⟨(N L none (N L vm L)),L,43⟩,[.bool]⟩
def q3v:Way S:=⟨(.exit 0),⟨L,L,10⟩,[]⟩
def q3w:LE S:=⟨q3s,q3t,[.int,.str],[q3u,q3v]⟩
def q3x {T:Type} (x:(Int×ByteArray)) (k:(Bool⊕Unit)->T):(Bool⊕Unit)->T:=Sum.elim (fun y0=>k (.inl y0)) (fun y1=>k (.inr ()))
def q3y (x:(Int×ByteArray)) (v:Int):(Int×ByteArray):=(v,x.2)
theorem q3z (x:(Int×ByteArray)):LE.step X q3w q3o q1V q4 12 x=WC x.2 x.1 (fun w=>Sum.inl (q3y x w)) (fun o=>Sum.inr (q3x x id o)):=by kernel_rfl
def q3A {R:Type}:Z1J S R:=LE.ls X q3w (fun x k=>(X35 x.2 x.1).bind (q3x x k)) q4
theorem q3B {R:Type}:Z2o X (q3A (R:=R)):=ZlP xok q3p (e:=q3w) q1W q5 (st:=fun(x:(Int×ByteArray))=>Wr x.2) (prj:=fun(x:(Int×ByteArray))=>x.1) (emb:=q3y) q3x (fun x=>(q3z x).trans (by unfold Wr WC;simp only[ZlC,Zlt,ZlD,Option.map_some,Option.map_none];rfl)) q5
theorem q3C (x0:ByteArray):ZlS X q3o [.str] [.bool] q1V q3A 12 83 (x0,())=X30 x0:=by kernel_rfl
def q3D:F7 S:=⟨[.str],[.bool],fun xs=>X30 xs.1⟩
theorem q3E:Z9e X 83 q3D:=ZlO (ZlN xok q3p q1W q3B 12 83) fun xs _ h=>(q3C xs.1).trans h
def q3J:Key:=⟨[84],84,none,[0,0,1,0,1],0,2⟩
def q3K:StT S:=⟨(N (N L vh (N L vl L)) vn L),L,2⟩
def q3L:Way S:=⟨.ret,⟨vO,L,14⟩,[.int]⟩
def q3M:Way S:=⟨(.exit 0),⟨L,L,6⟩,[]⟩
def q3N:LE S:=⟨q3J,q3K,[.str,.int,(.lst .str)],[q3L,q3M]⟩
def q3O {T:Type} (x:tqe) (k:(Int⊕Unit)->T):(Int⊕Unit)->T:=Sum.elim (fun y0=>k (.inl y0)) (fun y1=>k (.inr ()))
def q3P (x:tqe) (v:Int):tqe:=(x.1,v,x.v2)
theorem q3Q (x:tqe):LE.step X q3N q2 q1V q4 12 x=Wf x.1 x.v2 x.2.1 (fun w=>Sum.inl (q3P x w)) (fun o=>Sum.inr (q3O x id o)):=by kernel_rfl
def q3R {R:Type}:Z1J S R:=LE.ls X q3N (fun x k=>(X1W x.1 x.v2 x.2.1).bind (q3O x k)) q4
theorem q3S {R:Type}:Z2o X (q3R (R:=R)):=ZlP xok q3 (e:=q3N) q1W q5 (st:=fun(x:tqe)=>XJ x.1 x.v2) (prj:=fun(x:tqe)=>x.2.1) (emb:=q3P) q3O (fun x=>(q3Q x).trans (by unfold XJ Wf;simp only[ZlC,Zlt,ZlD,Option.map_some,Option.map_none];rfl)) q5
theorem q3T (x0:List ByteArray) (x1:ByteArray):ZlS X q2 [(.sl .str),.str] [(.int .i64)] q1V q3R 12 84 (x0,x1,())=X36 x0 x1:=by kernel_rfl
def q3U:F7 S:=⟨[(.sl .str),.str],[(.int .i64)],fun xs=>X36 xs.1 xs.2.1⟩
theorem q3V:Z9e X 84 q3U:=ZlO (ZlN xok q3 q1W q3S 12 84) fun xs _ h=>(q3T xs.1 xs.2.1).trans h
def q3W:List (Nat×F7 S):=[(83,q3D),(84,q3U)]
theorem q3X:Z9z X (q3W):=⟨q3E,q3V,trivial⟩
theorem q40 (x0:ByteArray) (x1:List ByteArray):ZlS X q3W [.str,(.sl .str)] [(.int .i64)] q1V q4 12 58 (x0,x1,())=X2E x0 x1:=by kernel_rfl
def q41:F7 S:=⟨[.str,(.sl .str)],[(.int .i64)],fun xs=>X2E xs.1 xs.2.1⟩
theorem q42:Z9e X 58 q41:=ZlO (ZlN xok q3X q1W q5 12 58) fun xs _ h=>(q40 xs.1 xs.2.1).trans h
def q47:Key:=⟨[106],106,none,[0,0,1,0,1,1],0,3⟩
def q48:StT S:=⟨(N (N (N (N L vl L) none L) vl L) (some (.sl (.st 5) [])) (N (N (N L vl L) none L) vl L)),L,3⟩
def q49:Way S:=⟨.ret,⟨(N L none (N L none (N L vl L))),L,28⟩,[.int]⟩
def q4a:Way S:=⟨(.exit 0),⟨vL,L,7⟩,[.int]⟩
def q4b:LE S:=⟨q47,q48,[.int,.int,(.lst (.st 5)),.int,.int],[q49,q4a]⟩
def q4c {T:Type} (x:tqc) (k:(Int⊕Int)->T):(Int⊕Int)->T:=Sum.elim (fun y0=>k (.inl y0)) (fun y1=>k (.inr y1))
def q4d (x:tqc) (v:(Int×Int)):tqc:=(v.1,x.2.1,x.u2,v.2,x.v4)
theorem q4e (x:tqc):LE.step X q4b q3o q1V q4 12 x=W7 x.2.1 x.u2 x.v4 x.1 x.u3 (fun w=>Sum.inl (q4d x w)) (fun o=>Sum.inr (q4c x id o)):=by kernel_rfl
def q4f {R:Type}:Z1J S R:=LE.ls X q4b (fun x k=>(X2O x.2.1 x.u2 x.v4 (x.1,x.u3)).bind (q4c x k)) q4
theorem q4g {R:Type}:Z2o X (q4f (R:=R)):=ZlP xok q3p (e:=q4b) q1W q5 (st:=fun(x:tqc)=>XZ x.2.1 x.u2 x.v4) (prj:=fun(x:tqc)=>(x.1,x.u3)) (emb:=q4d) q4c (fun x=>(q4e x).trans (by unfold XZ W7;simp only[ZlC,Zlt,ZlD,Option.map_some,Option.map_none];rfl)) q5
theorem q4h (x0:List Y1) (x1 x2:Int):ZlS X q3o [(.sl (.st 5)),(.int .i64),(.int .i64)] [(.int .i64)] q1V q4f 12 106 (x0,x1,x2,())=X2f x0 x1 x2:=by kernel_rfl
def q4i:F7 S:=⟨[(.sl (.st 5)),(.int .i64),(.int .i64)],[(.int .i64)],fun xs=>X2f xs.1 xs.2.1 xs.u2⟩
theorem q4j:Z9e X 106 q4i:=ZlO (ZlN xok q3p q1W q4g 12 106) fun xs _ h=>(q4h xs.1 xs.2.1 xs.u2).trans h
def q4k:List (Nat×F7 S):=[(106,q4i)]
theorem q4l:Z9z X (q4k):=⟨q4j,trivial⟩
theorem q4o (x0:Y1) (x1 x2:Int):ZlS X q4k [(.st 5),(.int .i64),(.int .i64)] [(.int .i64)] q1V q4 12 85 (x0,x1,x2,())=X37 x0 x1 x2:=by kernel_rfl
def q4p:F7 S:=⟨[(.st 5),(.int .i64),(.int .i64)],[(.int .i64)],fun xs=>X37 xs.1 xs.2.1 xs.u2⟩
theorem q4q:Z9e X 85 q4p:=ZlO (ZlN xok q4l q1W q5 12 85) fun xs _ h=>(q4o xs.1 xs.2.1 xs.u2).trans h
def q4r:List (Nat×F7 S):=[(57,q3f),(85,q4p)]
theorem q4s:Z9z X (q4r):=⟨q3g,q4q,trivial⟩
theorem q4v (x0:CoRecord) (x1 x2:Int) (x3:Y1):ZlS X q4r [(.st 20),(.int .i64),(.int .i64),(.st 5)] [(.int .i64)] q1V q4 12 59 (x0,x1,x2,x3,())=X1y x0 x1 x2 x3:=by kernel_rfl
def q4w:F7 S:=⟨[(.st 20),(.int .i64),(.int .i64),(.st 5)],[(.int .i64)],fun xs=>X3p xs.1 xs.2.1 xs.u2 xs.u3⟩
theorem q4x:Z9e X 59 q4w:=ZlO (ZlN xok q4s q1W q5 12 59) fun xs _ h=>((q4v xs.1 xs.2.1 xs.u2 xs.u3).trans (X4b xs.1 xs.2.1 xs.u2 xs.u3).symm).trans h
def q4y:List (Nat×F7 S):=[(57,q3f),(58,q41),(59,q4w)]
theorem q4z:Z9z X (q4y):=⟨q3g,q42,q4x,trivial⟩
def q4C:Key:=⟨[16],16,none,[0,0,1,0,1,1,1],0,17⟩
def q4D:StT S:=⟨(N (N L (some (.ptr 0 0)) (N L (some (.rs 17 0)) L)) none (N L none (N L vl L))),oJ,18⟩
def q4E:Way S:=⟨.ret,⟨vK,oq,66⟩,[.int,.int,.int,(.lst .str),(.st 20),(.st 18),(.lst .str)]⟩
def q4F:Way S:=⟨.ret,⟨vK,oq,65⟩,[.int,.int,.int,(.lst .str),(.st 20),(.st 18),(.lst .str)]⟩
def q4G:Way S:=⟨(.exit 0),⟨(N (N L (some (.ptr 0 0)) L) none L),oJ,23⟩,[(.lst .str),(.st 20)]⟩
def q4H:LE S:=⟨q4C,q4D,[.int,(.lst .str),(.st 20)],[q4E,q4F,q4G]⟩
def q4I {T:Type} (x:tqg) (k:((Int×Int×Int×(List ByteArray)×CoRecord×Zh×(List ByteArray))⊕(Int×Int×Int×(List ByteArray)×CoRecord×Zh×(List ByteArray))⊕((List ByteArray)×CoRecord))->T):((Int×Int×Int×(List ByteArray)×Zh×(List ByteArray))⊕(Int×Int×Int×(List ByteArray)×Zh×(List ByteArray))⊕(List ByteArray))->T:=Sum.elim (fun y0=>k (.inl (y0.1,y0.2.1,y0.u2,y0.u3,x.v2,y0.u4,y0.v5))) (Sum.elim (fun y1=>k (.inr (.inl (y1.1,y1.2.1,y1.u2,y1.u3,x.v2,y1.u4,y1.v5)))) (fun y2=>k (.inr (.inr (y2,x.v2)))))
def q4J (x:tqg) (v:(Int×(List ByteArray))):tqg:=(v.1,v.2,x.v2)
theorem q4K (x:tqg):LE.step X q4H q4y q1V q4 12 x=Wg x.v2 x.1 x.2.1 (fun w=>Sum.inl (q4J x w)) (fun o=>Sum.inr (q4I x id o)):=by kernel_rfl
def q4L {R:Type}:Z1J S R:=LE.ls X q4H (fun x k=>(X1X x.v2 (x.1,x.2.1)).bind (q4I x k)) q4
theorem q4M {R:Type}:Z2o X (q4L (R:=R)):=ZlP xok q4z (e:=q4H) q1W q5 (st:=fun(x:tqg)=>WQ x.v2) (prj:=fun(x:tqg)=>(x.1,x.2.1)) (emb:=q4J) q4I (fun x=>(q4K x).trans (by unfold WQ Wg;simp only[ZlC,Zlt,ZlD,Option.map_some,Option.map_none];rfl)) q5
def q4N:Key:=⟨[16],16,none,[0,0,1,0,1,1,1,1],2,24⟩
def q4O:StT S:=⟨(N (N L (some (.ptr 0 0)) (N (N L vl L) none L)) none L),oJ,24⟩
def q4P:Way S:=⟨.ret,⟨vK,(N (N L none (N (N (N L oi L) none L) none L)) o5 (N L none (N (N (N (N L o7 L) none L) none L) none L))),52⟩,[.int,.int,.int,(.lst .str),(.st 20),(.st 19)]⟩
def q4Q:Way S:=⟨(.exit 2),⟨(N (N L (some (.ptr 0 0)) L) none L),oJ,29⟩,[(.lst .str),(.st 20)]⟩
def q4R:LE S:=⟨q4N,q4O,[.int,(.lst .str),(.st 20)],[q4P,q4Q]⟩
def q4S {T:Type} (x:tqg) (k:((Int×Int×Int×(List ByteArray)×CoRecord×Zl)⊕((List ByteArray)×CoRecord))->T):((Int×Int×Int×Zl)⊕Unit)->T:=Sum.elim (fun y0=>k (.inl (y0.1,y0.2.1,y0.u2,x.2.1,x.v2,y0.v3))) (fun y1=>k (.inr (x.2.1,x.v2)))
def q4T (x:tqg) (v:Int):tqg:=(v,x.2.1,x.v2)
theorem q4U (x:tqg):LE.step X q4R q4y q1V q4L 12 x=Wh x.v2 x.1 (fun w=>Sum.inl (q4T x w)) (fun o=>Sum.inr (q4S x id o)):=by kernel_rfl
def q4V {R:Type}:Z1J S R:=LE.ls X q4R (fun x k=>(X19 x.v2 x.1).bind (q4S x k)) q4L
theorem q4W {R:Type}:Z2o X (q4V (R:=R)):=ZlP xok q4z (e:=q4R) q1W q4M (st:=fun(x:tqg)=>WR x.v2) (prj:=fun(x:tqg)=>x.1) (emb:=q4T) q4S (fun x=>(q4U x).trans (by unfold WR Wh;simp only[ZlC,Zlt,ZlD,Option.map_some,Option.map_none];rfl)) q4M
def q4X:Key:=⟨[16],16,none,[0,0,1,0,1,1,1,1,1,1],4,31⟩
def q4Y:StT S:=⟨(N (N L (some (.ptr 0 0)) (N L none (N L vl L))) none (N (N L none (N L vl L)) none L)),oJ,31⟩
def q4Z:Way S:=⟨.ret,⟨vK,oJ,59⟩,[.int,.int,.int,(.lst .str),(.st 20)]⟩
def q50:Way S:=⟨(.exit 4),⟨L,oJ,36⟩,[(.lst .str),(.st 20)]⟩
def q51:LE S:=⟨q4X,q4Y,[.int,.int,(.lst .str),(.st 20)],[q4Z,q50]⟩
def q52 {T:Type} (x:tq8) (k:((Int×Int×Int×(List ByteArray)×CoRecord)⊕((List ByteArray)×CoRecord))->T):((Int×Int×Int)⊕Unit)->T:=Sum.elim (fun y0=>k (.inl (y0.1,y0.2.1,y0.v2,x.u2,x.v3))) (fun y1=>k (.inr (x.u2,x.v3)))
def q53 (x:tq8) (v:(Int×Int)):tq8:=(v.1,v.2,x.u2,x.v3)
theorem q54 (x:tq8):LE.step X q51 q4y q1V q4V 12 x=Wi x.v3 x.1 x.2.1 (fun w=>Sum.inl (q53 x w)) (fun o=>Sum.inr (q52 x id o)):=by kernel_rfl
def q55 {R:Type}:Z1J S R:=LE.ls X q51 (fun x k=>(X1a x.v3 (x.1,x.2.1)).bind (q52 x k)) q4V
theorem q56 {R:Type}:Z2o X (q55 (R:=R)):=ZlP xok q4z (e:=q51) q1W q4W (st:=fun(x:tq8)=>WS x.v3) (prj:=fun(x:tq8)=>(x.1,x.2.1)) (emb:=q53) q52 (fun x=>(q54 x).trans (by unfold WS Wi;simp only[ZlC,Zlt,ZlD,Option.map_some,Option.map_none];rfl)) q4W
theorem q57 (x0:CoRecord):ZlS X q4y [(.st 20)] [(.int .i64),(.int .i64),(.int .i64)] q1V q55 12 16 (x0,())=X1g x0:=by kernel_rfl
def q58:F7 S:=⟨[(.st 20)],[(.int .i64),(.int .i64),(.int .i64)],fun xs=>Wj xs.1⟩
theorem q59:Z9e X 16 q58:=ZlO (ZlN xok q4z q1W q56 12 16) fun xs _ h=>((q57 xs.1).trans (X3H xs.1).symm).trans h
def q5a:F7 S:=⟨[.str,(.int .u8)],[(.int .i64)],fun xs=>XY xs.1 xs.2.1⟩
theorem q5b:Z9e X 86 q5a:=ZlR (ZkF (X:=X) (g:=86) rfl) fun xs=>WJ xs.1 xs.2.1
def q5c:List (Nat×F7 S):=[(86,q5a)]
theorem q5d:Z9z X (q5c):=⟨q5b,trivial⟩
theorem q5g (x0:ByteArray) (x1:Int):ZlS X q5c [.str,(.int .u8)] [(.int .i64)] q1V q4 12 62 (x0,x1,())=XU x0 x1:=by kernel_rfl
def q5h:F7 S:=⟨[.str,(.int .u8)],[(.int .i64)],fun xs=>Wd xs.1 xs.2.1⟩
theorem q5i:Z9e X 62 q5h:=ZlO (ZlN xok q5d q1W q5 12 62) fun xs _ h=>((q5g xs.1 xs.2.1).trans (X2J xs.1 xs.2.1).symm).trans h
theorem q5n (x0 x1:ByteArray):ZlS X q2 [.str,.str] [.bool] q1V q4 12 90 (x0,x1,())=Xf x0 x1:=by kernel_rfl
def q5o:F7 S:=⟨[.str,.str],[.bool],fun xs=>Xl xs.1 xs.2.1⟩
theorem q5p:Z9e X 90 q5o:=ZlO (ZlN xok q3 q1W q5 12 90) fun xs _ h=>((q5n xs.1 xs.2.1).trans (WH xs.1 xs.2.1).symm).trans h
def q5q:List (Nat×F7 S):=[(90,q5o)]
theorem q5r:Z9z X (q5q):=⟨q5p,trivial⟩
theorem q5u (x0 x1:ByteArray):ZlS X q5q [.str,.str] [.str] q1V q4 12 64 (x0,x1,())=Xa x0 x1:=by kernel_rfl
def q5v:F7 S:=⟨[.str,.str],[.str],fun xs=>XR xs.1 xs.2.1⟩
theorem q5w:Z9e X 64 q5v:=ZlO (ZlN xok q5r q1W q5 12 64) fun xs _ h=>((q5u xs.1 xs.2.1).trans (WA xs.1 xs.2.1).symm).trans h
def q5x:List (Nat×F7 S):=[(64,q5v)]
theorem q5y:Z9z X (q5x):=⟨q5w,trivial⟩
theorem q5B (x0 x1:ByteArray):ZlS X q5x [.str,.str] [.str] q1V q4 12 21 (x0,x1,())=XM x0 x1:=by kernel_rfl
def q5C:F7 S:=⟨[.str,.str],[.str],fun xs=>XD xs.1 xs.2.1⟩
theorem q5D:Z9e X 21 q5C:=ZlO (ZlN xok q5y q1W q5 12 21) fun xs _ h=>((q5B xs.1 xs.2.1).trans (X2p xs.1 xs.2.1).symm).trans h
def q5E:F7 S:=⟨[.str,.str],[(.sl .str)],fun xs=>X1L xs.1 xs.2.1⟩
theorem q5F:Z9e X 20 q5E:=ZlR (ZkG (X:=X) (g:=20) rfl) fun xs=>X3h xs.1 xs.2.1
theorem q5K (x0:Int):ZlS X q2 [(.int .u8)] [(.int .u8)] q1V q4 12 155 (x0,())=XI x0:=by kernel_rfl
def q5L:F7 S:=⟨[(.int .u8)],[(.int .u8)],fun xs=>X2b xs.1⟩
theorem q5M:Z9e X 155 q5L:=ZlO (ZlN xok q3 q1W q5 12 155) fun xs _ h=>((q5K xs.1).trans (X32 xs.1).symm).trans h
def q5N:List (Nat×F7 S):=[(155,q5L)]
theorem q5O:Z9z X (q5N):=⟨q5M,trivial⟩
theorem q5R (x0:ByteArray):ZlS X q5N [.str] [.bool] q1V q4 12 156 (x0,())=Xn x0:=by kernel_rfl
def q5S:F7 S:=⟨[.str],[.bool],fun xs=>X16 xs.1⟩
theorem q5T:Z9e X 156 q5S:=ZlO (ZlN xok q5O q1W q5 12 156) fun xs _ h=>((q5R xs.1).trans (X2c xs.1).symm).trans h
theorem q5Y (x0:ByteArray):ZlS X q2 [.str] [.str] q1V q4 12 136 (x0,())=Xx x0:=by kernel_rfl
def q5Z:F7 S:=⟨[.str],[.str],fun xs=>X1u xs.1⟩
theorem q60:Z9e X 136 q5Z:=ZlO (ZlN xok q3 q1W q5 12 136) fun xs _ h=>((q5Y xs.1).trans (X2D xs.1).symm).trans h
def q61:List (Nat×F7 S):=[(62,q5h),(21,q5C),(20,q5E),(155,q5L),(156,q5S),(136,q5Z),(29,q24),(14,q22),(15,q31)]
theorem q62:Z9z X (q61):=⟨q5i,q5D,q5F,q5M,q5T,q60,q25,q23,q32,trivial⟩
def q65:Key:=⟨[23,2,11,15,2,6,61,0,7],23,none,[0,0,1,0,1,1],0,72⟩
def q66:StT S:=⟨(N vL none (N (N (N (N L vl L) none L) (some (.rs 72 0)) L) none (N L none (N L vn L)))),ox,73⟩
def q67:Way S:=⟨.pan,⟨vD,ox,91⟩,[.int,(.lst (.int .i64))]⟩
def q68:Way S:=⟨(.exit 0),⟨(N L none (N (N L (some (.rs 72 0)) L) none L)),ox,74⟩,[(.lst (.int .i64))]⟩
def q69:LE S:=⟨q65,q66,[.int,.int,(.lst .str),(.lst (.int .i64))],[q67,q68]⟩
def q6a {T:Type} (x:tq7) (k:tqj->T):tqj->T:=Sum.elim (fun y0=>k (.inl (y0.1,y0.2))) (fun y1=>k (.inr y1))
def q6b (x:tq7) (v:(Int×(List Int))):tq7:=(x.1,v.1,x.u2,v.2)
theorem q6c (x:tq7):LE.step X q69 q61 q1V q4 12 x=Wv x.1 x.u2 x.2.1 x.v3 (fun w=>Sum.inl (q6b x w)) (fun o=>Sum.inr (q6a x id o)):=by kernel_rfl
def q6d {R:Type}:Z1J S R:=LE.ls X q69 (fun x k=>(Xr x.1 x.u2 (x.2.1,x.v3)).bind (q6a x k)) q4
theorem q6e {R:Type}:Z2o X (q6d (R:=R)):=ZlP xok q62 (e:=q69) q1W q5 (st:=fun(x:tq7)=>Wm x.1 x.u2) (prj:=fun(x:tq7)=>(x.2.1,x.v3)) (emb:=q6b) q6a (fun x=>(q6c x).trans (by unfold Wm Wv;simp only[ZlC,Zlt,ZlD,Option.map_some,Option.map_none];rfl)) q5
def q6f:Key:=⟨[23,2,14,15,2,6,61,0,7],23,none,[0,0,1,0,1,1],0,74⟩
def q6g:StT S:=⟨(N vL none (N (N (N (N L vl L) none L) (some (.rs 74 0)) L) none (N L none (N L vn L)))),oy,75⟩
def q6h:Way S:=⟨.pan,⟨vD,oy,93⟩,[.int,(.lst (.int .i64))]⟩
def q6i:Way S:=⟨(.exit 0),⟨(N L none (N (N L (some (.rs 74 0)) L) none L)),oy,76⟩,[(.lst (.int .i64))]⟩
def q6j:LE S:=⟨q6f,q6g,[.int,.int,(.lst .str),(.lst (.int .i64))],[q6h,q6i]⟩
theorem q6m (x:tq7):LE.step X q6j q61 q1V q6d 12 x=X1Q x.1 x.u2 x.2.1 x.v3 (fun w=>Sum.inl (q6b x w)) (fun o=>Sum.inr (q6a x id o)):=by kernel_rfl
def q6n {R:Type}:Z1J S R:=LE.ls X q6j (fun x k=>(X25 x.1 x.u2 (x.2.1,x.v3)).bind (q6a x k)) q6d
theorem q6o {R:Type}:Z2o X (q6n (R:=R)):=ZlP xok q62 (e:=q6j) q1W q6e (st:=fun(x:tq7)=>X2r x.1 x.u2) (prj:=fun(x:tq7)=>(x.2.1,x.v3)) (emb:=q6b) q6a (fun x=>(q6m x).trans (by unfold X2r X1Q;simp only[ZlC,Zlt,ZlD,Option.map_some,Option.map_none];rfl)) q6e
def q6p:Key:=⟨[23,2,11,15,2,6,61,0,7],23,none,[0,0,1,0,1,1],0,65⟩
def q6q:StT S:=⟨(N vL none (N (N (N (N L vl L) none L) (some (.rs 65 0)) L) none (N L none (N L vn L)))),oz,66⟩
def q6r:Way S:=⟨.pan,⟨vD,oz,84⟩,[.int,(.lst (.int .i64))]⟩
def q6s:Way S:=⟨(.exit 0),⟨(N L none (N (N L (some (.rs 65 0)) L) none L)),oz,67⟩,[(.lst (.int .i64))]⟩
def q6t:LE S:=⟨q6p,q6q,[.int,.int,(.lst .str),(.lst (.int .i64))],[q6r,q6s]⟩
theorem q6w (x:tq7):LE.step X q6t q61 q1V q6n 12 x=X1R x.1 x.u2 x.2.1 x.v3 (fun w=>Sum.inl (q6b x w)) (fun o=>Sum.inr (q6a x id o)):=by kernel_rfl
def q6x {R:Type}:Z1J S R:=LE.ls X q6t (fun x k=>(X26 x.1 x.u2 (x.2.1,x.v3)).bind (q6a x k)) q6n
theorem q6y {R:Type}:Z2o X (q6x (R:=R)):=ZlP xok q62 (e:=q6t) q1W q6o (st:=fun(x:tq7)=>X2s x.1 x.u2) (prj:=fun(x:tq7)=>(x.2.1,x.v3)) (emb:=q6b) q6a (fun x=>(q6w x).trans (by unfold X2s X1R;simp only[ZlC,Zlt,ZlD,Option.map_some,Option.map_none];rfl)) q6o
def q6z:Key:=⟨[23,2,14,15,2,6,61,0,7],23,none,[0,0,1,0,1,1],0,67⟩
def q6A:StT S:=⟨(N vL none (N (N (N (N L vl L) none L) (some (.rs 67 0)) L) none (N L none (N L vn L)))),oA,68⟩
def q6B:Way S:=⟨.pan,⟨vD,oA,86⟩,[.int,(.lst (.int .i64))]⟩
def q6C:Way S:=⟨(.exit 0),⟨(N L none (N (N L (some (.rs 67 0)) L) none L)),oA,69⟩,[(.lst (.int .i64))]⟩
def q6D:LE S:=⟨q6z,q6A,[.int,.int,(.lst .str),(.lst (.int .i64))],[q6B,q6C]⟩
theorem q6G (x:tq7):LE.step X q6D q61 q1V q6x 12 x=X1S x.1 x.u2 x.2.1 x.v3 (fun w=>Sum.inl (q6b x w)) (fun o=>Sum.inr (q6a x id o)):=by kernel_rfl
def q6H {R:Type}:Z1J S R:=LE.ls X q6D (fun x k=>(X27 x.1 x.u2 (x.2.1,x.v3)).bind (q6a x k)) q6x
theorem q6I {R:Type}:Z2o X (q6H (R:=R)):=ZlP xok q62 (e:=q6D) q1W q6y (st:=fun(x:tq7)=>X2t x.1 x.u2) (prj:=fun(x:tq7)=>(x.2.1,x.v3)) (emb:=q6b) q6a (fun x=>(q6G x).trans (by unfold X2t X1S;simp only[ZlC,Zlt,ZlD,Option.map_some,Option.map_none];rfl)) q6y
def q6J:Key:=⟨[61,0,7],61,none,[0,0],0,16⟩
def q6K:StT S:=⟨(N (N L (some (.ptr 9 0)) L) (some (.yld 15)) L),op,18⟩
def q6L:Way S:=⟨.pan,⟨vH,ot,54⟩,[.int,.str,.bool,.int,(.lst (.st 19)),.str,(.lst (.st 18))]⟩
def q6M:Way S:=⟨.pan,⟨vH,ot,71⟩,[.int,.str,.bool,.int,(.lst (.st 19)),.str,(.lst (.st 18))]⟩
def q6N:Way S:=⟨.pan,⟨vH,(N oB o4 (N (N (N (N L og L) none oQ) none L) none L)),91⟩,[.int,.str,.bool,.int,(.lst (.st 19)),.str,(.lst (.st 18)),(.lst (.int .i64))]⟩
def q6O:Way S:=⟨.pan,⟨vH,ot,73⟩,[.int,.str,.bool,.int,(.lst (.st 19)),.str,(.lst (.st 18))]⟩
def q6P:Way S:=⟨.pan,⟨vH,(N oB o4 (N oR none (N (N L none oQ) none L))),93⟩,[.int,.str,.bool,.int,(.lst (.st 19)),.str,(.lst (.st 18)),(.lst (.int .i64))]⟩
def q6Q:Way S:=⟨.pan,⟨vH,ot,64⟩,[.int,.str,.bool,.int,(.lst (.st 19)),.str,(.lst (.st 18))]⟩
def q6R:Way S:=⟨.pan,⟨vH,ot,47⟩,[.int,.str,.bool,.int,(.lst (.st 19)),.str,(.lst (.st 18))]⟩
def q6S:Way S:=⟨.pan,⟨vH,(N (N (N (N (N L o1 L) none L) none L) oa (N (N (N (N (N L o9 L) none L) of L) o8 L) none L)) o4 (N oR none L)),84⟩,[.int,.str,.bool,.int,(.lst (.int .i64)),(.lst (.st 19)),.str,(.lst (.st 18))]⟩
def q6T:Way S:=⟨.pan,⟨vH,ot,66⟩,[.int,.str,.bool,.int,(.lst (.st 19)),.str,(.lst (.st 18))]⟩
def q6U:Way S:=⟨.pan,⟨vH,(N (N (N (N (N L o1 L) none L) none (N oQ none L)) oa (N (N (N L of L) o8 L) none L)) o4 (N oR none L)),86⟩,[.int,.str,.bool,(.lst (.int .i64)),.int,(.lst (.st 19)),.str,(.lst (.st 18))]⟩
def q6V:Way S:=⟨.pan,⟨vH,ot,57⟩,[.int,.str,.bool,.int,(.lst (.st 19)),.str,(.lst (.st 18))]⟩
def q6W:Way S:=⟨(.exit 0),⟨L,op,21⟩,[.str,.bool,.int,(.lst (.st 19)),.str,(.lst (.st 18))]⟩
def q6X:LE S:=⟨q6J,q6K,[.str,.bool,.int,(.lst (.st 19)),.str,(.lst (.st 18))],[q6L,q6M,q6N,q6O,q6P,q6Q,q6R,q6S,q6T,q6U,q6V,q6W]⟩
def q6Y {T:Type} (x:tq1) (k:(tq0⊕tq0⊕(Int×ByteArray×Bool×Int×(List Zl)×ByteArray×(List Zh)×(List Int))⊕tq0⊕(Int×ByteArray×Bool×Int×(List Zl)×ByteArray×(List Zh)×(List Int))⊕tq0⊕tq0⊕(Int×ByteArray×Bool×Int×(List Int)×(List Zl)×ByteArray×(List Zh))⊕tq0⊕(Int×ByteArray×Bool×(List Int)×Int×(List Zl)×ByteArray×(List Zh))⊕tq0⊕tq1)->T):(tq6⊕tq6⊕(Int×(List Zl)×ByteArray×(List Zh)×(List Int))⊕tq6⊕(Int×(List Zl)×ByteArray×(List Zh)×(List Int))⊕tq6⊕tq6⊕(Int×(List Int)×(List Zl)×ByteArray×(List Zh))⊕tq6⊕(Int×(List Int)×(List Zl)×ByteArray×(List Zh))⊕tq6⊕((List Zl)×ByteArray×(List Zh)))->T:=Sum.elim (fun y0=>k (.inl (y0.1,x.1,x.2.1,x.u2,y0.2.1,y0.u2,y0.v3))) (Sum.elim (fun y1=>k (.inr (.inl (y1.1,x.1,x.2.1,x.u2,y1.2.1,y1.u2,y1.v3)))) (Sum.elim (fun y2=>k (.inr (.inr (.inl (y2.1,x.1,x.2.1,x.u2,y2.2.1,y2.u2,y2.u3,y2.v4))))) (Sum.elim (fun y3=>k (.inr (.inr (.inr (.inl (y3.1,x.1,x.2.1,x.u2,y3.2.1,y3.u2,y3.v3)))))) (Sum.elim (fun y4=>k (.inr (.inr (.inr (.inr (.inl (y4.1,x.1,x.2.1,x.u2,y4.2.1,y4.u2,y4.u3,y4.v4))))))) (Sum.elim (fun y5=>k (.inr (.inr (.inr (.inr (.inr (.inl (y5.1,x.1,x.2.1,x.u2,y5.2.1,y5.u2,y5.v3)))))))) (Sum.elim (fun y6=>k (.inr (.inr (.inr (.inr (.inr (.inr (.inl (y6.1,x.1,x.2.1,x.u2,y6.2.1,y6.u2,y6.v3))))))))) (Sum.elim (fun y7=>k (.inr (.inr (.inr (.inr (.inr (.inr (.inr (.inl (y7.1,x.1,x.2.1,x.u2,y7.2.1,y7.u2,y7.u3,y7.v4)))))))))) (Sum.elim (fun y8=>k (.inr (.inr (.inr (.inr (.inr (.inr (.inr (.inr (.inl (y8.1,x.1,x.2.1,x.u2,y8.2.1,y8.u2,y8.v3))))))))))) (Sum.elim (fun y9=>k (.inr (.inr (.inr (.inr (.inr (.inr (.inr (.inr (.inr (.inl (y9.1,x.1,x.2.1,y9.2.1,x.u2,y9.u2,y9.u3,y9.v4)))))))))))) (Sum.elim (fun y10=>k (.inr (.inr (.inr (.inr (.inr (.inr (.inr (.inr (.inr (.inr (.inl (y10.1,x.1,x.2.1,x.u2,y10.2.1,y10.u2,y10.v3))))))))))))) (fun y11=>k (.inr (.inr (.inr (.inr (.inr (.inr (.inr (.inr (.inr (.inr (.inr (x.1,x.2.1,x.u2,y11.1,y11.2.1,y11.v2)))))))))))))))))))))))
def q6Z (x:tq1) (v:((List Zl)×ByteArray×(List Zh))):tq1:=(x.1,x.2.1,x.u2,v.1,v.2.1,v.v2)
theorem q70 (x:tq1):LE.step X q6X q61 q1V q6H 12 x=XW x.u3 x.u4 x.v5 (fun w=>Sum.inl (q6Z x w)) (fun o=>Sum.inr (q6Y x id o)):=by kernel_rfl
def q71 {R:Type}:Z1J S R:=LE.ls X q6X (fun x k=>(Wa (x.u3,x.u4,x.v5)).bind (q6Y x k)) q6H
theorem q72 {R:Type}:Z2o X (q71 (R:=R)):=ZlP xok q62 (e:=q6X) q1W q6I (st:=fun(x:tq1)=>Wl) (prj:=fun(x:tq1)=>(x.u3,x.u4,x.v5)) (emb:=q6Z) q6Y (fun x=>(q70 x).trans (by unfold Wl XW;simp only[ZlC,Zlt,ZlD,Option.map_some,Option.map_none];rfl)) q6I
theorem q73 (x0:ByteArray):ZlS X q61 [.str] [(.st 20),(.int .i64)] q1V q71 12 7 (x0,())=X28 x0:=by kernel_rfl
def q74:F7 S:=⟨[.str],[(.st 20),(.int .i64)],fun xs=>Wu xs.1⟩
theorem q75:Z9e X 7 q74:=ZlO (ZlN xok q62 q1W q72 12 7) fun xs _ h=>((q73 xs.1).trans (X3W xs.1).symm).trans h
def q7a:Key:=⟨[9],9,none,[0,0,1,0,1,1],0,20⟩
def q7b:StT S:=⟨(N (N (N L (some (.ptr 1 0)) L) none (N L vl L)) none (N L (some (.ptr 0 0)) L)),(N (N L o5 L) o5 L),20⟩
def q7c:Way S:=⟨.ret,⟨(N L none (N (N L vm L) none L)),(N (N L o5 L) o5 L),37⟩,[.bool,(.st 20),(.st 20)]⟩
def q7d:Way S:=⟨(.exit 0),⟨(N (N (N L (some (.ptr 1 0)) L) none L) none (N L (some (.ptr 0 0)) L)),(N (N L o5 L) o5 L),25⟩,[(.st 20),(.st 20)]⟩
def q7e:LE S:=⟨q7a,q7b,[.int,(.st 20),(.st 20)],[q7c,q7d]⟩
def q7f {T:Type} (x:tql) (k:((Bool×CoRecord×CoRecord)⊕(CoRecord×CoRecord))->T):(Bool⊕Unit)->T:=Sum.elim (fun y0=>k (.inl (y0,x.2.1,x.v2))) (fun y1=>k (.inr (x.2.1,x.v2)))
def q7g (x:tql) (v:Int):tql:=(v,x.2.1,x.v2)
theorem q7h (x:tql):LE.step X q7e q2 q1V q4 12 x=WD x.2.1 x.v2 x.1 (fun w=>Sum.inl (q7g x w)) (fun o=>Sum.inr (q7f x id o)):=by kernel_rfl
def q7i {R:Type}:Z1J S R:=LE.ls X q7e (fun x k=>(X2g x.2.1 x.v2 x.1).bind (q7f x k)) q4
theorem q7j {R:Type}:Z2o X (q7i (R:=R)):=ZlP xok q3 (e:=q7e) q1W q5 (st:=fun(x:tql)=>Ws x.2.1 x.v2) (prj:=fun(x:tql)=>x.1) (emb:=q7g) q7f (fun x=>(q7h x).trans (by unfold Ws WD;simp only[ZlC,Zlt,ZlD,Option.map_some,Option.map_none];rfl)) q5
def q7k:Key:=⟨[9],9,none,[0,0,1,0,1,1,1],2,26⟩
def q7l:StT S:=⟨(N (N (N L (some (.ptr 1 0)) L) none L) none (N L (some (.ptr 0 0)) (N L vl L))),(N (N L o5 L) o5 L),26⟩
def q7m:Way S:=⟨.ret,⟨(N L none (N (N L vm L) none L)),(N (N L o5 L) o5 L),43⟩,[.bool,(.st 20),(.st 20)]⟩
def q7n:Way S:=⟨(.exit 2),⟨L,(N (N L o5 L) o5 L),31⟩,[(.st 20),(.st 20)]⟩
def q7o:LE S:=⟨q7k,q7l,[.int,(.st 20),(.st 20)],[q7m,q7n]⟩
theorem q7r (x:tql):LE.step X q7o q2 q1V q7i 12 x=WE x.2.1 x.v2 x.1 (fun w=>Sum.inl (q7g x w)) (fun o=>Sum.inr (q7f x id o)):=by kernel_rfl
def q7s {R:Type}:Z1J S R:=LE.ls X q7o (fun x k=>(X2h x.2.1 x.v2 x.1).bind (q7f x k)) q7i
theorem q7t {R:Type}:Z2o X (q7s (R:=R)):=ZlP xok q3 (e:=q7o) q1W q7j (st:=fun(x:tql)=>XF x.2.1 x.v2) (prj:=fun(x:tql)=>x.1) (emb:=q7g) q7f (fun x=>(q7r x).trans (by unfold XF WE;simp only[ZlC,Zlt,ZlD,Option.map_some,Option.map_none];rfl)) q7j
theorem q7u (x0 x1:CoRecord):ZlS X q2 [(.st 20),(.st 20)] [.bool] q1V q7s 12 9 (x0,x1,())=X1w x0 x1:=by kernel_rfl
def q7v:F7 S:=⟨[(.st 20),(.st 20)],[.bool],fun xs=>X3o xs.1 xs.2.1⟩
theorem q7w:Z9e X 9 q7v:=ZlO (ZlN xok q3 q1W q7t 12 9) fun xs _ h=>((q7u xs.1 xs.2.1).trans (X47 xs.1 xs.2.1).symm).trans h
theorem q7B (x0 x1:ByteArray):ZlS X q5q [.str,.str] [.str,.bool] q1V q4 12 67 (x0,x1,())=Xe x0 x1:=by kernel_rfl
def q7C:F7 S:=⟨[.str,.str],[.str,.bool],fun xs=>XX xs.1 xs.2.1⟩
theorem q7D:Z9e X 67 q7C:=ZlO (ZlN xok q5r q1W q5 12 67) fun xs _ h=>((q7B xs.1 xs.2.1).trans (WF xs.1 xs.2.1).symm).trans h
def q7E:List (Nat×F7 S):=[(67,q7C)]
theorem q7F:Z9z X (q7E):=⟨q7D,trivial⟩
theorem q7I (x0 x1:ByteArray):ZlS X q7E [.str,.str] [.str,.bool] q1V q4 12 26 (x0,x1,())=XT x0 x1:=by kernel_rfl
def q7J:F7 S:=⟨[.str,.str],[.str,.bool],fun xs=>XK xs.1 xs.2.1⟩
theorem q7K:Z9e X 26 q7J:=ZlO (ZlN xok q7F q1W q5 12 26) fun xs _ h=>((q7I xs.1 xs.2.1).trans (X2H xs.1 xs.2.1).symm).trans h
def q7P:Key:=⟨[68],68,none,[0,0,1,0,1],0,5⟩
def q7Q:StT S:=⟨(N (N L (some (.int .u8 0)) (N L vl L)) vh L),L,5⟩
def q7S:Way S:=⟨(.exit 0),⟨L,L,7⟩,[]⟩
def q7T:LE S:=⟨q7P,q7Q,[.int,.int,.str],[q3L,q7S]⟩
def q7U {T:Type} (x:tqm) (k:(Int⊕Unit)->T):(Int⊕Unit)->T:=Sum.elim (fun y0=>k (.inl y0)) (fun y1=>k (.inr ()))
def q7V (x:tqm) (v:Int):tqm:=(x.1,v,x.v2)
theorem q7W (x:tqm):LE.step X q7T q2 q1V q4 12 x=X3 x.1 x.v2 x.2.1 (fun w=>Sum.inl (q7V x w)) (fun o=>Sum.inr (q7U x id o)):=by kernel_rfl
def q7X {R:Type}:Z1J S R:=LE.ls X q7T (fun x k=>(X0 x.1 x.v2 x.2.1).bind (q7U x k)) q4
theorem q7Y {R:Type}:Z2o X (q7X (R:=R)):=ZlP xok q3 (e:=q7T) q1W q5 (st:=fun(x:tqm)=>X5 x.1 x.v2) (prj:=fun(x:tqm)=>x.2.1) (emb:=q7V) q7U (fun x=>(q7W x).trans (by unfold X5 X3;simp only[ZlC,Zlt,ZlD,Option.map_some,Option.map_none];rfl)) q5
theorem q7Z (x0:ByteArray) (x1:Int):ZlS X q2 [.str,(.int .u8)] [(.int .i64)] q1V q7X 12 68 (x0,x1,())=X6 x0 x1:=by kernel_rfl
def q80:F7 S:=⟨[.str,(.int .u8)],[(.int .i64)],fun xs=>Xz xs.1 xs.2.1⟩
theorem q81:Z9e X 68 q80:=ZlO (ZlN xok q3 q1W q7Y 12 68) fun xs _ h=>((q7Z xs.1 xs.2.1).trans (W0 xs.1 xs.2.1).symm).trans h
def q82:List (Nat×F7 S):=[(68,q80)]
theorem q83:Z9z X (q82):=⟨q81,trivial⟩
theorem q86 (x0:ByteArray) (x1:Int):ZlS X q82 [.str,(.int .u8)] [(.int .i64)] q1V q4 12 27 (x0,x1,())=Xy x0 x1:=by kernel_rfl
def q87:F7 S:=⟨[.str,(.int .u8)],[(.int .i64)],fun xs=>Xq xs.1 xs.2.1⟩
theorem q88:Z9e X 27 q87:=ZlO (ZlN xok q83 q1W q5 12 27) fun xs _ h=>((q86 xs.1 xs.2.1).trans (X1J xs.1 xs.2.1).symm).trans h
def q89:List (Nat×F7 S):=[(62,q5h),(26,q7J),(27,q87),(28,q2k),(29,q24)]
theorem q8a:Z9z X (q89):=⟨q5i,q7K,q88,q2l,q25,trivial⟩
def q8d:Key:=⟨[61,0,10],61,none,[0,0],0,16⟩
def q8e:StT S:=⟨(N (N L (some (.ptr 11 0)) L) (some (.yld 15)) L),oo,16⟩
def q8f:Way S:=⟨.ret,⟨L,ov,62⟩,[.str,.bool,.str,.int,.int,.int,.int]⟩
def q8g:Way S:=⟨.ret,⟨L,ov,75⟩,[.str,.bool,.str,.int,.int,.int,.int]⟩
def q8h:Way S:=⟨.ret,⟨L,ov,55⟩,[.str,.bool,.str,.int,.int,.int,.int]⟩
def q8i:Way S:=⟨.ret,⟨L,ov,68⟩,[.str,.bool,.str,.int,.int,.int,.int]⟩
def q8j:Way S:=⟨(.exit 0),⟨L,oo,19⟩,[.str,.bool,.str,.int,.int,.int,.int]⟩
def q8k:LE S:=⟨q8d,q8e,[.str,.bool,.str,.int,.int,.int,.int],[q8f,q8g,q8h,q8i,q8j]⟩
def q8l {T:Type} (x:tq5) (k:(tq5⊕tq5⊕tq5⊕tq5⊕tq5)->T):(tqh⊕tqh⊕tqh⊕tqh⊕(ByteArray×Int×Int))->T:=Sum.elim (fun y0=>k (.inl (x.1,x.2.1,y0.1,y0.2.1,y0.u2,y0.u3,y0.v4))) (Sum.elim (fun y1=>k (.inr (.inl (x.1,x.2.1,y1.1,y1.2.1,y1.u2,y1.u3,y1.v4)))) (Sum.elim (fun y2=>k (.inr (.inr (.inl (x.1,x.2.1,y2.1,y2.2.1,y2.u2,y2.u3,y2.v4))))) (Sum.elim (fun y3=>k (.inr (.inr (.inr (.inl (x.1,x.2.1,y3.1,y3.2.1,y3.u2,y3.u3,y3.v4)))))) (fun y4=>k (.inr (.inr (.inr (.inr (x.1,x.2.1,y4.1,x.u3,y4.2.1,x.u5,y4.v2)))))))))
def q8m (x:tq5) (v:(ByteArray×Int×Int)):tq5:=(x.1,x.2.1,v.1,x.u3,v.2.1,x.u5,v.v2)
theorem q8n (x:tq5):LE.step X q8k q89 q1V q4 12 x=XE x.u2 x.u4 x.v6 (fun w=>Sum.inl (q8m x w)) (fun o=>Sum.inr (q8l x id o)):=by kernel_rfl
def q8o {R:Type}:Z1J S R:=LE.ls X q8k (fun x k=>(XN (x.u2,x.u4,x.v6)).bind (q8l x k)) q4
theorem q8p {R:Type}:Z2o X (q8o (R:=R)):=ZlP xok q8a (e:=q8k) q1W q5 (st:=fun(x:tq5)=>XV) (prj:=fun(x:tq5)=>(x.u2,x.u4,x.v6)) (emb:=q8m) q8l (fun x=>(q8n x).trans (by unfold XV XE;simp only[ZlC,Zlt,ZlD,Option.map_some,Option.map_none];rfl)) q5
theorem q8q (x0:ByteArray):ZlS X q89 [.str] [(.int .i64),(.int .i64)] q1V q8o 12 10 (x0,())=WU x0:=by kernel_rfl
def q8r:F7 S:=⟨[.str],[(.int .i64),(.int .i64)],fun xs=>X2P xs.1⟩
theorem q8s:Z9e X 10 q8r:=ZlO (ZlN xok q8a q1W q8p 12 10) fun xs _ h=>((q8q xs.1).trans (X3q xs.1).symm).trans h
def q8t:List (Nat×F7 S):=[(16,q58)]
theorem q8u:Z9z X (q8t):=⟨q59,trivial⟩
theorem q8x (x0:CoRecord):ZlS X q8t [(.st 20)] [.bool] q1V q4 12 13 (x0,())=X1e x0:=by kernel_rfl
def q8y:F7 S:=⟨[(.st 20)],[.bool],fun xs=>X3C xs.1⟩
theorem q8z:Z9e X 13 q8y:=ZlO (ZlN xok q8u q1W q5 12 13) fun xs _ h=>((q8x xs.1).trans (X3D xs.1).symm).trans h
end
end Nore
