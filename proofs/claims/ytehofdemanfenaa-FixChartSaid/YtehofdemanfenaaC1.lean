/- The code comes to the plain functions. -/
import Derived.Test.YtehofdemanfenaaY
import Derived.Test.YtehofdemanfenaaD
import Derived.Test.YtehofdemanfenaaK6
set_option linter.unusedSectionVars false
set_option linter.unusedVariables false
set_option linter.unusedSimpArgs false
set_option maxRecDepth 100000
open Go Go.Ab Go.Proofs Go.Proofs.Ytehofdemanfenaa
open Go.Ab.Tr renaming node→N,leaf→L
namespace Nore
abbrev t16:Type:=List (Zh×Int)
abbrev t15:Type:=Int×(List Int)×Int
abbrev t14:Type:=List (ByteArray×Int)
abbrev t13:Type:=Int×(List Zt)×Int
abbrev t12:Type:=Int×(List Zu)×Zu
abbrev t11:Type:=(Int×Int×Zt)⊕Unit
abbrev t10:Type:=Int×(List Zu)×Int×Int
abbrev tZ:Type:=Int×(List ByteArray)×ZJ
abbrev tY:Type:=Int×Int×(List Zu)×Int
abbrev tX:Type:=(Int×Int×Int)⊕(Int×Int)
abbrev tW:Type:=Int×(List ByteArray)×Zl
abbrev tV:Type:=Int×Zl×(List ByteArray)
abbrev tU:Type:=Int×(List Zt)×Int×Zu
abbrev tT:Type:=(Nat→Zu)×Int×Int×Zu
abbrev tS:Type:=Int×ByteArray×ByteArray×Nat
abbrev tR:Type:=Int×(List Int)×Int×Int×Int
abbrev tQ:Type:=ByteArray×Int×(List ByteArray)
abbrev tP:Type:=Int×Int×(List ZE)×Int×Int
abbrev tO:Type:=Int×(List Z5)×Int×ZJ
abbrev tN:Type:=Int×Int×Int×(List Zk)×(List Int)
abbrev tM:Type:=Int×(List Z5)×Int×Z5
abbrev tL:Type:=(Int×Z5×Z5)⊕Z5
abbrev tK:Type:=Int×Int×Int×t14×CtSand
abbrev tJ:Type:=(Int×(List Int)×Zu×(List Int)×Zt)⊕Zu
abbrev tI:Type:=(Int×Int×Z5×Z5×ZJ)⊕ZJ
abbrev tH:Type:=ZJ×(List Zm)×(Nat→Nat)×t16
abbrev tG:Type:=Int×(List CtSand)×Int×Zl×t14
abbrev tF:Type:=Int×Int×(List Zw)×Zl×t14
abbrev tE:Type:=(Bool×ByteArray×Nat)⊕tS
abbrev tD:Type:=Int×Int×Int×(List ByteArray)×Zw×(List ByteArray)
abbrev tC:Type:=Int×ZJ×(List Zm)×(Nat→Nat)×t16
abbrev tB:Type:=(Int×Int×Int×(List ByteArray)×ZJ)⊕((List ByteArray)×ZJ)
abbrev tA:Type:=(Nat→Int)×ZJ×(List Zm)×(Nat→Nat)×t16
abbrev tz:Type:=(List Zu)×ZJ×(List Zm)×(Nat→Nat)×t16
abbrev ty:Type:=(Int×Bool×ZJ×(List Zm)×(Nat→Nat)×Int×t16)
abbrev tx:Type:=Int×(List Zu)×ZJ×(List Zm)×(Nat→Nat)×t16
abbrev tw:Type:=Int×ZJ×(List Zm)×(Nat→Nat)×t16×(List Zu)
abbrev tv:Type:=Int×Int×Int×ZJ×(List Zm)×(Nat→Nat)×Int×t16
abbrev tu:Type:=(List Zm)×ZJ×ZJ×(List Zm)×(Nat→Nat)×t16
abbrev tt:Type:=tv
abbrev ts:Type:=Int×Z8×Bool×Int×Bool×Z8×Bool×Int×Z8×Z6
abbrev tr:Type:=Int×Int×ZJ×(List Zm)×(Nat→Nat)×t16×(List Zu)
abbrev tq:Type:=Int×(List Zm)×Int×ZJ×(List Zm)×(Nat→Nat)×t16
abbrev tp:Type:=Int×Int×ZJ×(List Zm)×(Nat→Nat)×t16×Bool×Int×Int
abbrev to:Type:=Int×Int×Int×(List Zm)×ZJ×(List Zm)×(Nat→Nat)×t16
abbrev tn:Type:=Int×Int×(Nat→ZE)×ZJ×(List Zm)×(Nat→Nat)×t16×Zu
abbrev tm:Type:=Int×Int×Int×ZJ×(List Zm)×(Nat→Nat)×t16×Bool×Int×Int
abbrev tl:Type:=Int×Int×(List Zu)×Int×Int×(Nat→Int)×ZJ×(List Zm)×(Nat→Nat)×t16
abbrev tk:Type:=Int×Int×(List Zu)×Int×Z8×Bool×Int×Bool×Z8×Bool×Int×Z8×Z6
abbrev tj:Type:=Int×Int×(List Zu)×Z8×Bool×Int×Bool×Z8×Bool×Int×Z8×(List Int)×Zu
abbrev ti:Type:=(List Z5)×(List Zm)×Int×Int×ZJ×ZJ×(List Zm)×(Nat→Nat)×t16
abbrev th:Type:=Int×Int×(List Zm)×Int×Int×(Nat→ZE)×ZJ×(List Zm)×(Nat→Nat)×t16×Zu
abbrev tg:Type:=Int×Int×Int×Zl×(List Int)×Bool×Int×Bool×Zl×Int×Bool×(List Int)×Int×(List Zk)×Zw
abbrev tf:Type:=Int×Int×Int×Int×(List Z5)×(Nat→ZE)×ZJ×(List Zm)×(Nat→Nat)×t16×Zu
abbrev te:Type:=Int×Int×(List Zu)×Int×Int×(Nat→Int)×ZJ×(List Zm)×(Nat→Nat)×t16×(Nat→ZE)×Zu
abbrev td:Type:=Int×Int×Int×(List Zu)×Int×Int×Int×Int×(Nat→Int)×ZJ×(List Zm)×(Nat→Nat)×t16×(Nat→ZE)×Zu
abbrev tc:Type:=(Int×Bool×ZJ×(List Zm)×(Nat→Nat)×Int×t16)⊕(ZJ×(List Zm)×(Nat→Nat)×Int×t16)
abbrev tb:Type:=(Int×Int×ZJ×(List Zm)×(Nat→Nat)×Zm×Zm×t16)⊕tH
abbrev ta:Type:=(Int×Int×Int×(List ByteArray)×(List ByteArray)×Zl)⊕(Int×Int×Int×(List ByteArray)×(List ByteArray)×Zl)⊕((List ByteArray)×Zl)
abbrev t9:Type:=(Int×(List Int)×(List Int)×Zk)⊕(Int×(List Int)×(List Int)×(List Int)×Zk)⊕(Int×(List Int)×(List Int)×(List Int)×Zk)⊕(List Int)
abbrev t8:Type:=(Int×Int×Int×(List ByteArray)×ZJ×(List ByteArray)×Z5)⊕(Int×Int×Int×(List ByteArray)×ZJ×(List ByteArray)×Z5)⊕((List ByteArray)×ZJ)
abbrev t7:Type:=(Int×ZJ×(List Zm)×(Nat→Nat)×(Nat→ZE)×Zu×t16×Bool×Int×Int)⊕(Int×ZJ×(List Zm)×(Nat→Nat)×t16×Bool×Int×Int)
abbrev t6:Type:=(Z8×Bool×Int×Bool×Z8×Bool×Int×Z8×Zu×Z6×(List Int)×Zu)⊕(Z8×Bool×Int×Bool×Z8×Bool×Int×Z8×(List Int)×Zu)
abbrev t5:Type:=(Int×ZJ×(List Zm)×(Nat→Nat)×(Nat→ZE)×Zu×t16×Bool×Int×Int)⊕tp
abbrev t4:Type:=(Int×Int×Int×Zl×t14×CtSand)⊕(Int×Int×Int×Zl×t14×CtSand)⊕(Int×Int×Int×Zl×t14×CtSand)⊕(Zl×t14)
abbrev t3:Type:=(Zk×Int×Int×Zl×(List Int)×Bool×Int×Bool×Zl×Int×Bool×(List Int)×Int×(List Zk)×Zw)⊕(Int×Int×Zl×(List Int)×Bool×Int×Bool×Zl×Int×Bool×(List Int)×Int×(List Zk)×Zw)
abbrev t2:Type:=(Int×Int×Int×(List ByteArray)×Zw×Zl×(List ByteArray))⊕(Int×Int×Int×(List ByteArray)×Zw×Zl×(List ByteArray))⊕(Int×Int×Int×(List ByteArray)×Zw×Zl×(List ByteArray))⊕(Zl×(List ByteArray))
abbrev t1:Type:=(Bool×(Nat→ZE)×ZJ×(List Zm)×(Nat→Nat)×ZE×t16×Zu×Zm)⊕(Bool×(Nat→ZE)×ZJ×(List Zm)×(Nat→Nat)×ZE×t16×Zu×Zm)⊕((Nat→ZE)×ZJ×(List Zm)×(Nat→Nat)×t16×Zu)
abbrev t0:Type:=(Int×Int×Int×Zw×Zl×t14)⊕(Int×Int×Int×Zw×Zl×t14)⊕(Int×Int×Int×Zw×Zl×t14×(List Zu))⊕(Int×Int×Int×Zw×Zl×t14×(List Zu))⊕(Zl×t14)
abbrev vL:Option (TV S):=some (.bool false)
abbrev vK:Option (TV S):=some (.int .i64 0)
abbrev vJ:Option (TV S):=some (.sl (.st 2) [])
abbrev vI:Option (TV S):=some (.sl (.st 21) [])
abbrev vH:Option (TV S):=some (.sl (.st 18) [])
abbrev oG:Option (Zi S):=some (.row 9 .str [] 1 1)
abbrev oF:Option (Zi S):=some (.row 9 .str [] 0 0)
abbrev oE:Option (Zi S):=some (.row 9 .str [] 1 0)
abbrev vD:Option (TV S):=some (.str ByteArray.empty)
abbrev oC:Option (Zi S):=some (.cells 181 [(.map 4)])
abbrev oB:Option (Zi S):=some (.cells 94 [(.ptr 3 0)])
abbrev oA:Option (Zi S):=some (.cells 94 [(.ptr 1 0)])
abbrev oz:Option (Zi S):=some (.row 43 (.st 2) [] 1 0)
abbrev oy:Option (Zi S):=some (.cells 94 [(.ptr 20 0)])
abbrev ox:Option (Zi S):=some (.cells 4 [(.bool false)])
abbrev ow:Option (Zi S):=some (.map .str (.int .i64) [])
abbrev ov:Option (Zi S):=some (.cells 3 [(.int .i64 0)])
abbrev ou:Option (Zi S):=some (.siter ByteArray.empty 0)
abbrev ot:Option (Zi S):=some (.cells 23 [(.int .i64 0)])
abbrev os:Option (Zi S):=some (.row 3 (.int .i64) [] 1 0)
abbrev vr:Option (TV S):=some (.agg [(.stc 2 (T.dflt 2))])
abbrev vq:Option (TV S):=some (.agg [(.stc 8 (T.dflt 8))])
abbrev vp:Option (TV S):=some (.agg [(.stc 21 (T.dflt 21))])
abbrev oo:Option (Zi S):=some (.map (.st 23) (.int .i64) [])
abbrev on:Option (Zi S):=some (.cells 70 [(.sl (.st 3) [])])
abbrev vm:Option (TV S):=some (.agg [(.stc 15 (T.dflt 15))])
abbrev vl:Option (TV S):=some (.fn (.func 101) [] [(.ptr 5 0)])
abbrev ok:Option (Zi S):=some (.cells 99 [(.stc 3 (T.dflt 3))])
abbrev oj:Option (Zi S):=some (.cells 43 [(.stc 2 (T.dflt 2))])
abbrev oi:Option (Zi S):=some (.cells 72 [(.stc 4 (T.dflt 4))])
abbrev oh:Option (Zi S):=some (.cells 29 [(.stc 8 (T.dflt 8))])
abbrev og:Option (Zi S):=some (.cells 88 [(.stc 7 (T.dflt 7))])
abbrev vf:Option (TV S):=some (.fn (.func 105) [] [(.ptr 36 0)])
abbrev ve:Option (TV S):=some (.fn (.func 113) [] [(.ptr 23 0)])
abbrev od:Option (Zi S):=some (.cells 36 [(.stc 21 (T.dflt 21))])
abbrev oc:Option (Zi S):=some (.cells 84 [(.stc 19 (T.dflt 19))])
abbrev ob:Option (Zi S):=some (.cells 74 [(.stc 18 (T.dflt 18))])
abbrev oa:Option (Zi S):=some (.cells 33 [(.stc 20 (T.dflt 20))])
abbrev o9:Option (Zi S):=some (.cells 194 [(.stc 17 (T.dflt 17))])
abbrev o8:Option (Zi S):=some (.cells 184 [(.stc 15 (T.dflt 15))])
abbrev o7:Option (Zi S):=some (.cells 102 [(.arr (.st 5) 4 (fun _=>tdf T (.st 5)))])
abbrev o6:Option (Zi S):=some (.cells 141 [(.arr (.int .i64) 32 (fun _=>tdf T (.int .i64)))])
abbrev o5:Option (Zi S):=some (.cells 108 [(.fn (.func 47) [] [(.ptr 4 0),(.ptr 1 0),(.ptr 0 0)])])
abbrev o4:Option (Zi S):=some (.cells 119 [(.stc 20 (T.dflt 20)),(.sl (.st 21) []),(.earr [112,135] 3 4 (fun _=>0)),(.map 2)])
abbrev o3:Option (Zi S):=some (.cells 119 [(.stc 20 (T.dflt 20)),(.sl (.st 21) []),(.earr [112,135] 1 4 (fun _=>0)),(.map 0)])
abbrev o2:Option (Zi S):=some (.cells 119 [(.stc 20 (T.dflt 20)),(.sl (.st 21) []),(.earr [112,135] 20 4 (fun _=>0)),(.map 18)])
abbrev o1:Option (Zi S):=some (.loop 40 (N (N (N (N L (some (.fn (.func 80) [] [(.ptr 6 0)])) L) none L) (some (.ptr 2 0)) L) (some (.ptr 1 0)) (N L (some (.ptr 3 0)) L)) (8::[]) .skip .skip 0 .normal (0::(40::[])) (0::(1::(0::(1::[])))))
abbrev o0:Option (Zi S):=some (.loop 48 (N (N (N L (some (.ptr 3 0)) (N (N L (some (.fn (.func 80) [] [(.ptr 18 0)])) L) none L)) vK (N L (some (.ptr 14 0)) L)) (some (.ptr 1 0)) (N (N L (some (.ptr 4 0)) L) (some (.ptr 2 0)) L)) (20::[]) .skip .skip 0 .normal (0::(48::[])) (0::(1::(0::(1::(1::[]))))))
abbrev v1r:Tr (TV S):=N (N L none (N L vK L)) none L
abbrev o1q:Tr (Zi S):=N (N (N L oj L) none L) none L
abbrev o1p:Tr (Zi S):=N (N (N L os L) none L) none L
abbrev o1o:Tr (Zi S):=N (N (N L ou L) none L) none L
abbrev o1n:Tr (Zi S):=N L none (N (N L oE L) none L)
abbrev v1m:Tr (TV S):=N (N (N L vK L) none L) none L
abbrev v1l:Tr (TV S):=N L none (N (N L vK L) none L)
abbrev v1k:Tr (TV S):=N (N L (some (.ptr 3 0)) L) none L
abbrev o1j:Tr (Zi S):=N (N (N L o7 L) o3 L) oo (N L oj L)
abbrev v1i:Tr (TV S):=N (N L (some (.ptr 0 0)) L) none (N L vK L)
abbrev o1h:Tr (Zi S):=N (N (N L o4 L) ov L) o5 (N (N L oB L) oo L)
abbrev o1g:Tr (Zi S):=N (N L none (N L oC L)) oh (N (N L ow L) none L)
abbrev v1f:Tr (TV S):=N (N (N L vK L) none L) none (N (N L vK L) vK L)
abbrev v1e:Tr (TV S):=N (N L none (N L vK L)) none (N (N L vK L) none L)
abbrev v1d:Tr (TV S):=N (N L vI L) (some (.agg [(.stc 20 (T.dflt 20))])) L
abbrev o1c:Tr (Zi S):=N L none (N (N (N (N L ob L) none L) none L) none L)
abbrev v1b:Tr (TV S):=N (N (N L vK L) (some (.ptr 6 0)) L) (some (.yld 11)) L
abbrev v1a:Tr (TV S):=N (N (N L vK L) (some (.ptr 18 0)) L) (some (.yld 22)) L
abbrev o19:Tr (Zi S):=N (N (N o1n none L) none L) oa L
abbrev v18:Tr (TV S):=N L (some (.tup [(.agg [(.stc 5 (T.dflt 5))]),(.bool false)])) L
abbrev o17:Tr (Zi S):=N (N (N L o6 L) o3 L) oo (N L none (N (N (N L o7 L) oj L) none L))
abbrev o16:Tr (Zi S):=N (N L none (N L oC (N (N L oi L) none L))) oh (N (N L ow L) none L)
abbrev o15:Tr (Zi S):=N (N L none (N L oC L)) oh (N (N L ow L) none (N L none (N L none (N L og L))))
abbrev v14:Tr (TV S):=N (N L none (N (N L vL L) none L)) none (N v1k none L)
abbrev o13:Tr (Zi S):=N L none (N (N (N (N L (some (.cells 48 [(.stc 5 (T.dflt 5))])) L) none L) none L) none L)
abbrev o12:Tr (Zi S):=N (N L oy L) oa (N (N L none (N (N L o2 L) none L)) none (N (N (N L oo L) none L) none L))
abbrev o11:Tr (Zi S):=N (N (N L (some (.cells 22 [(.rs 19 0)])) (N (N L oz L) o1 L)) o3 L) oo (N L oA (N L oA L))
abbrev o10:Tr (Zi S):=N (N L oy L) none (N (N L none (N (N L o2 L) none L)) none (N (N (N L oo L) none L) none L))
abbrev oZ:Tr (Zi S):=N (N (N L none (N L none (N (N L oF L) none L))) none (N L none (N (N L oG L) none L))) oh L
abbrev oY:Tr (Zi S):=N (N (N L ov L) o3 L) oo (N (N L ox L) oA (N (N (N L oA L) none L) none (N (N L o0 L) ov L)))
abbrev vX:Tr (TV S):=N (N (N (N L vK L) none L) (some (.fn (.func 107) [] [(.ptr 0 0)])) L) vH v1m
abbrev oW:Tr (Zi S):=N (N L none (N L oC (N (N L oi L) none L))) oh (N (N L ow L) none (N (N (N L none (N L oz L)) none L) none L))
abbrev oV:Tr (Zi S):=N (N (N L os L) none (N L none (N (N L os L) none L))) none (N (N (N (N L os L) none L) none (N L ok L)) none L)
abbrev oU:Tr (Zi S):=N (N (N L (some (.cells 22 [(.rs 34 0)])) (N L o1 L)) o3 L) oo (N L oA (N (N (N (N L oz L) none L) none L) oA L))
abbrev oT:Tr (Zi S):=N (N (N (N (N (N L oF L) none L) none L) none L) none (N L none (N (N L oi L) none L))) oh (N L none (N (N L oG L) none L))
abbrev vS:Tr (TV S):=N (N (N L none (N L vK L)) (some (.fn (.func 96) [] [])) (N (N L (some (.sl (.st 19) [])) L) none L)) none v1l
abbrev oR:Tr (Zi S):=N (N (N (N L none (N (N L oG L) none L)) none L) none L) oa (N (N L none (N L none (N L none (N L oF L)))) none (N (N (N L none (N L ob L)) none L) none L))
abbrev vQ:Tr (TV S):=N (N (N L vK L) none (N (N (N L vK L) (some (.ptr 3 0)) L) none L)) (some (.ptr 1 0)) (N (N (N (N L vJ L) none L) none L) vK v1m)
abbrev oP:Tr (Zi S):=N (N (N (N L none (N L o8 L)) none (N L none (N L (some (.loop 104 (N (N (N (N (N L vL L) none L) vK L) (some (.ptr 0 0)) (N (N L none (N L vL L)) none L)) vm (N (N (N L vL L) none (N L none (N L ve L))) (some (.ptr 1 0)) L)) (29::[]) .skip .skip 1 .normal (1::(104::[])) (0::(1::(0::(1::(1::(1::[])))))))) L))) ot L) o8 (N L none (N L os o1q))
abbrev oO:Tr (Zi S):=N (N (N (N L none (N L o8 L)) none (N L none (N L (some (.loop 104 (N (N (N (N (N L vL L) none L) vK L) (some (.ptr 0 0)) (N (N L none (N L vL L)) none L)) vm (N (N (N L vL L) none (N L none (N L ve L))) (some (.ptr 1 0)) L)) (29::[]) .skip .skip 1 .busy (1::(104::[])) (0::(1::(0::(1::(1::(1::[])))))))) L))) ot L) o8 (N L none (N (N L none (N L none (N L o9 L))) none L))
abbrev oN:Tr (Zi S):=N (N (N L ov L) ov L) oh (N (N (N (N L os L) none (N (N L (some (.loop 70 (N (N (N (N L (some (.ptr 3 0)) L) (some (.ptr 0 0)) (N L none (N (N L vf L) vL L))) vK (N (N (N L vL L) none L) none L)) vq (N (N (N L (some (.ptr 4 0)) L) (some (.ptr 1 0)) L) vK (N L (some (.ptr 2 0)) (N (N L vL L) none L)))) (44::(45::[])) .skip .skip 1 .normal (1::(70::[])) (0::(1::(0::(1::(1::(1::(1::[]))))))))) L) os L)) ot (N (N (N L on L) none L) none L)) oi L)
abbrev oM:Tr (Zi S):=N (N (N L ov L) o3 (N (N L none (N L none (N (N L o7 L) none L))) none (N o1q none L))) oo (N (N L ox L) oA (N (N (N L oA L) none L) none (N (N L (some (.loop 48 (N (N (N L (some (.ptr 3 0)) (N (N L (some (.fn (.func 80) [] [(.ptr 18 0)])) L) none L)) vK (N L (some (.ptr 14 0)) L)) (some (.ptr 1 0)) (N (N L (some (.ptr 4 0)) L) (some (.ptr 2 0)) L)) (20::[]) .skip .skip 0 .ret (0::(48::[])) (0::(1::(0::(1::(1::[]))))))) L) ov L)))
noncomputable def q0 {R:Type}:Prs S R:=Zhf
theorem q1 {R:Type}:Z7R X (q0 (R:=R)):=Zhg X
noncomputable def q2:List (Nat×F7 S):=[]
theorem q3:Z9n X (q2):=trivial
abbrev q4 {R:Type}:Z27 S R:=Zgi
theorem q5 {R:Type}:Z3J X (q4 (R:=R)):=ZgQ X
theorem q6 (x0:Int) (x1:Int) (x2:Int):Zhs X q2 [(.int .i64),(.int .i64),(.int .i64)] [.bool] q0 q4 12 98 (x0,x1,x2,())=X1b x0 x1 x2:=by kernel_rfl
noncomputable def q7:F7 S:=⟨[(.int .i64),(.int .i64),(.int .i64)],[.bool],fun xs=>X1b xs.1 xs.2.1 xs.2.2.1⟩
theorem q8:Z7Q X 98 q7:=Zho (Zhn xok q3 q1 q5 12 98) fun xs _ h=>(q6 xs.1 xs.2.1 xs.2.2.1).trans h
noncomputable def q9:List (Nat×F7 S):=[(98,q7)]
theorem qa:Z9n X (q9):=⟨q8,trivial⟩
abbrev qb {R:Type}:Z27 S R:=Zgi
theorem qc {R:Type}:Z3J X (qb (R:=R)):=ZgQ X
def qd:Key:=⟨[85],85,none,[0,0,1,0,1,1],0,6⟩
def qe:StT S:=⟨(N (N (N L vK L) none L) vD L),L,6⟩
def qf:Way S:=⟨.ret,⟨(N L none (N L vL L)),L,43⟩,[.bool]⟩
def qg:Way S:=⟨(.exit 0),⟨L,L,10⟩,[]⟩
def qh:LE S:=⟨qd,qe,[.int,.str],[qf,qg]⟩
def qi (x:(Int×ByteArray)):(Bool⊕Unit)→(Bool⊕Unit):=Sum.elim (fun y0=>(.inl y0)) (fun y1=>(.inr ()))
noncomputable def qj {R:Type} (x:(Int×ByteArray)) (k:(Bool⊕Unit)→Option R):Option R:=(X3x x.2 x.1).bind (Sum.elim (fun y0=>k (.inl y0)) (fun y1=>k (.inr ())))
def qk (x:(Int×ByteArray)) (v:Int):(Int×ByteArray):=(v,x.2)
theorem ql (x:(Int×ByteArray)):LE.step X qh q9 q0 qb 12 x=WB x.2 x.1 (fun w0=>(Sum.inl (w0,x.2))) (fun p0=>(Sum.inr (.inl p0))) (Sum.inr (.inr ())):=by kernel_rfl
theorem qn {R:Type} (x:(Int×ByteArray)) (k:(Bool⊕Unit)→Option R) (r:R) (h:qj x k=some r):∃ o,Z5s (LE.step X qh q9 q0 qb 12) x o∧k o=some r:=by
 obtain ⟨o,h1,h2⟩:=Z0 h
 exact ⟨qi x o,Zhl (st:=fun (x:(Int×ByteArray))=>Ws x.2) (prj:=fun x=>x.1) (emb:=qk) (embO:=qi) (fun x=>(ql x).trans (by unfold Ws WB;simp only [Zhd,Zh8,Zhe,Option.map_some,Option.map_none];rfl)) (fun _ _=>rfl) (fun _ _=>rfl) (fun _ _ _=>rfl) (fun _ _ _=>rfl) (fun _=>rfl) (Z1S.1 h1),by
  first
  | exact h2
  | (rcases o with o|o<;>exact h2)⟩
noncomputable def qo {R:Type}:Z27 S R:=LE.ls X qh qj qb
theorem qp {R:Type}:Z3J X (qo (R:=R)):=Zhq xok qa (e:=qh) q1 qc qn qc
theorem qq (x0:ByteArray):Zhs X q9 [.str] [.bool] q0 qo 12 85 (x0,())=X3h x0:=by kernel_rfl
noncomputable def qr:F7 S:=⟨[.str],[.bool],fun xs=>X3h xs.1⟩
theorem qs:Z7Q X 85 qr:=Zho (Zhn xok qa q1 qp 12 85) fun xs _ h=>(qq xs.1).trans h
noncomputable def qt:List (Nat×F7 S):=[]
theorem qu:Z9n X (qt):=trivial
abbrev qv {R:Type}:Z27 S R:=Zgi
theorem qw {R:Type}:Z3J X (qv (R:=R)):=ZgQ X
def qx:Key:=⟨[86],86,none,[0,0,1,0,1],0,2⟩
def qy:StT S:=⟨(N (N L vD (N L vK L)) (some (.sl .str [])) L),L,2⟩
def qz:Way S:=⟨.ret,⟨v1l,L,14⟩,[.int]⟩
def qA:Way S:=⟨(.exit 0),⟨L,L,6⟩,[]⟩
def qB:LE S:=⟨qx,qy,[.str,.int,(.lst .str)],[qz,qA]⟩
def qC (x:tQ):(Int⊕Unit)→(Int⊕Unit):=Sum.elim (fun y0=>(.inl y0)) (fun y1=>(.inr ()))
noncomputable def qD {R:Type} (x:tQ) (k:(Int⊕Unit)→Option R):Option R:=(X23 x.1 x.2.2 x.2.1).bind (Sum.elim (fun y0=>k (.inl y0)) (fun y1=>k (.inr ())))
def qE (x:tQ) (v:Int):tQ:=(x.1,v,x.2.2)
theorem qF (x:tQ):LE.step X qB qt q0 qv 12 x=Wi x.1 x.2.2 x.2.1 (fun w0=>(Sum.inl (x.1,w0,x.2.2))) (fun p0=>(Sum.inr (.inl p0))) (Sum.inr (.inr ())):=by kernel_rfl
theorem qH {R:Type} (x:tQ) (k:(Int⊕Unit)→Option R) (r:R) (h:qD x k=some r):∃ o,Z5s (LE.step X qB qt q0 qv 12) x o∧k o=some r:=by
 obtain ⟨o,h1,h2⟩:=Z0 h
 exact ⟨qC x o,Zhl (st:=fun (x:tQ)=>Xz x.1 x.2.2) (prj:=fun x=>x.2.1) (emb:=qE) (embO:=qC) (fun x=>(qF x).trans (by unfold Xz Wi;simp only [Zhd,Zh8,Zhe,Option.map_some,Option.map_none];rfl)) (fun _ _=>rfl) (fun _ _=>rfl) (fun _ _ _=>rfl) (fun _ _ _=>rfl) (fun _=>rfl) (Z1S.1 h1),by
  first
  | exact h2
  | (rcases o with o|o<;>exact h2)⟩
noncomputable def qI {R:Type}:Z27 S R:=LE.ls X qB qD qv
theorem qJ {R:Type}:Z3J X (qI (R:=R)):=Zhq xok qu (e:=qB) q1 qw qH qw
theorem qK (x0:List ByteArray) (x1:ByteArray):Zhs X qt [(.sl .str),.str] [(.int .i64)] q0 qI 12 86 (x0,x1,())=X3y x0 x1:=by kernel_rfl
noncomputable def qL:F7 S:=⟨[(.sl .str),.str],[(.int .i64)],fun xs=>X3y xs.1 xs.2.1⟩
theorem qM:Z7Q X 86 qL:=Zho (Zhn xok qu q1 qJ 12 86) fun xs _ h=>(qK xs.1 xs.2.1).trans h
noncomputable def qN:List (Nat×F7 S):=[(85,qr),(86,qL)]
theorem qO:Z9n X (qN):=⟨qs,qM,trivial⟩
abbrev qP {R:Type}:Z27 S R:=Zgi
theorem qQ {R:Type}:Z3J X (qP (R:=R)):=ZgQ X
theorem qR (x0:ByteArray) (x1:List ByteArray):Zhs X qN [.str,(.sl .str)] [(.int .i64)] q0 qP 12 66 (x0,x1,())=X1F x0 x1:=by kernel_rfl
noncomputable def qS:F7 S:=⟨[.str,(.sl .str)],[(.int .i64)],fun xs=>X1F xs.1 xs.2.1⟩
theorem qT:Z7Q X 66 qS:=Zho (Zhn xok qO q1 qQ 12 66) fun xs _ h=>(qR xs.1 xs.2.1).trans h
noncomputable def qU:List (Nat×F7 S):=[(98,q7)]
theorem qV:Z9n X (qU):=⟨q8,trivial⟩
abbrev qW {R:Type}:Z27 S R:=Zgi
theorem qX {R:Type}:Z3J X (qW (R:=R)):=ZgQ X
theorem qY (x0:Zu) (x1:Int):Zhs X qU [(.st 2),(.int .i64)] [.bool] q0 qW 12 82 (x0,x1,())=X1L x0 x1:=by kernel_rfl
noncomputable def qZ:F7 S:=⟨[(.st 2),(.int .i64)],[.bool],fun xs=>X1L xs.1 xs.2.1⟩
theorem q10:Z7Q X 82 qZ:=Zho (Zhn xok qV q1 qX 12 82) fun xs _ h=>(qY xs.1 xs.2.1).trans h
noncomputable def q11:List (Nat×F7 S):=[(98,q7)]
theorem q12:Z9n X (q11):=⟨q8,trivial⟩
abbrev q13 {R:Type}:Z27 S R:=Zgi
theorem q14 {R:Type}:Z3J X (q13 (R:=R)):=ZgQ X
def q15:Key:=⟨[83],83,none,[0,0,1,0,1,1],0,6⟩
def q16:StT S:=⟨(N (N (N L vK L) none L) (some (.sl (.st 3) [])) L),L,6⟩
def q17:Way S:=⟨.ret,⟨(N L none (N L vK L)),L,27⟩,[.int]⟩
def q18:Way S:=⟨.ret,⟨(N L none (N L vK L)),L,43⟩,[.int]⟩
def q19:Way S:=⟨(.exit 0),⟨L,L,10⟩,[]⟩
def q1a:LE S:=⟨q15,q16,[.int,(.lst (.st 3))],[q17,q18,q19]⟩
def q1b (x:(Int×(List Zk))):(Int⊕Int⊕Unit)→(Int⊕Int⊕Unit):=Sum.elim (fun y0=>(.inl y0)) (Sum.elim (fun y1=>(.inr (.inl y1))) (fun y2=>(.inr (.inr ()))))
noncomputable def q1c {R:Type} (x:(Int×(List Zk))) (k:(Int⊕Int⊕Unit)→Option R):Option R:=(X31 x.2 x.1).bind (Sum.elim (fun y0=>k (.inl y0)) (Sum.elim (fun y1=>k (.inr (.inl y1))) (fun y2=>k (.inr (.inr ())))))
def q1d (x:(Int×(List Zk))) (v:Int):(Int×(List Zk)):=(v,x.2)
theorem q1e (x:(Int×(List Zk))):LE.step X q1a q11 q0 q13 12 x=XQ x.2 x.1 (fun w0=>(Sum.inl (w0,x.2))) (fun p0=>(Sum.inr (.inl p0))) (fun p0=>(Sum.inr (.inr (.inl p0)))) (Sum.inr (.inr (.inr ()))):=by kernel_rfl
theorem q1g {R:Type} (x:(Int×(List Zk))) (k:(Int⊕Int⊕Unit)→Option R) (r:R) (h:q1c x k=some r):∃ o,Z5s (LE.step X q1a q11 q0 q13 12) x o∧k o=some r:=by
 obtain ⟨o,h1,h2⟩:=Z0 h
 exact ⟨q1b x o,Zhl (st:=fun (x:(Int×(List Zk)))=>XH x.2) (prj:=fun x=>x.1) (emb:=q1d) (embO:=q1b) (fun x=>(q1e x).trans (by unfold XH XQ;simp only [Zhd,Zh8,Zhe,Option.map_some,Option.map_none];rfl)) (fun _ _=>rfl) (fun _ _=>rfl) (fun _ _ _=>rfl) (fun _ _ _=>rfl) (fun _=>rfl) (Z1S.1 h1),by
  first
  | exact h2
  | (rcases o with o|o|o<;>exact h2)⟩
noncomputable def q1h {R:Type}:Z27 S R:=LE.ls X q1a q1c q13
theorem q1i {R:Type}:Z3J X (q1h (R:=R)):=Zhq xok q12 (e:=q1a) q1 q14 q1g q14
theorem q1j (x0:List Zk):Zhs X q11 [(.sl (.st 3))] [(.int .i64)] q0 q1h 12 83 (x0,())=X1M x0:=by kernel_rfl
noncomputable def q1k:F7 S:=⟨[(.sl (.st 3))],[(.int .i64)],fun xs=>X1M xs.1⟩
theorem q1l:Z7Q X 83 q1k:=Zho (Zhn xok q12 q1 q1i 12 83) fun xs _ h=>(q1j xs.1).trans h
noncomputable def q1m:List (Nat×F7 S):=[(98,q7)]
theorem q1n:Z9n X (q1m):=⟨q8,trivial⟩
abbrev q1o {R:Type}:Z27 S R:=Zgi
theorem q1p {R:Type}:Z3J X (q1o (R:=R)):=ZgQ X
def q1q:Key:=⟨[87],87,none,[0,0,1,0,1,1],0,3⟩
def q1r:StT S:=⟨(N (N (N (N L vK L) none L) vK L) (some (.sl (.st 5) [])) (N (N (N L vK L) none L) vK L)),L,3⟩
def q1s:Way S:=⟨.ret,⟨(N L none (N L none (N L vK L))),L,28⟩,[.int]⟩
def q1t:Way S:=⟨(.exit 0),⟨(N v1m none L),L,7⟩,[.int]⟩
def q1u:LE S:=⟨q1q,q1r,[.int,.int,(.lst (.st 5)),.int,.int],[q1s,q1t]⟩
def q1v (x:tP):(Int⊕Int)→(Int⊕Int):=Sum.elim (fun y0=>(.inl y0)) (fun y1=>(.inr y1))
noncomputable def q1w {R:Type} (x:tP) (k:(Int⊕Int)→Option R):Option R:=(X30 x.2.1 x.2.2.1 x.2.2.2.2 (x.1,x.2.2.2.1)).bind (Sum.elim (fun y0=>k (.inl y0)) (fun y1=>k (.inr y1)))
def q1x (x:tP) (v:(Int×Int)):tP:=(v.1,x.2.1,x.2.2.1,v.2,x.2.2.2.2)
theorem q1y (x:tP):LE.step X q1u q1m q0 q1o 12 x=XP x.2.1 x.2.2.1 x.2.2.2.2 x.1 x.2.2.2.1 (fun w0 w1=>(Sum.inl (w0,x.2.1,x.2.2.1,w1,x.2.2.2.2))) (fun p0=>(Sum.inr (.inl p0))) (fun p0=>(Sum.inr (.inr p0))):=by kernel_rfl
theorem q1A {R:Type} (x:tP) (k:(Int⊕Int)→Option R) (r:R) (h:q1w x k=some r):∃ o,Z5s (LE.step X q1u q1m q0 q1o 12) x o∧k o=some r:=by
 obtain ⟨o,h1,h2⟩:=Z0 h
 exact ⟨q1v x o,Zhl (st:=fun (x:tP)=>XG x.2.1 x.2.2.1 x.2.2.2.2) (prj:=fun x=>(x.1,x.2.2.2.1)) (emb:=q1x) (embO:=q1v) (fun x=>(q1y x).trans (by unfold XG XP;simp only [Zhd,Zh8,Zhe,Option.map_some,Option.map_none];rfl)) (fun _ _=>rfl) (fun _ _=>rfl) (fun _ _ _=>rfl) (fun _ _ _=>rfl) (fun _=>rfl) (Z1S.1 h1),by
  first
  | exact h2
  | (rcases o with o|o<;>exact h2)⟩
noncomputable def q1B {R:Type}:Z27 S R:=LE.ls X q1u q1w q1o
theorem q1C {R:Type}:Z3J X (q1B (R:=R)):=Zhq xok q1n (e:=q1u) q1 q1p q1A q1p
theorem q1D (x0:List ZE) (x1:Int) (x2:Int):Zhs X q1m [(.sl (.st 5)),(.int .i64),(.int .i64)] [(.int .i64)] q0 q1B 12 87 (x0,x1,x2,())=X1j x0 x1 x2:=by kernel_rfl
noncomputable def q1E:F7 S:=⟨[(.sl (.st 5)),(.int .i64),(.int .i64)],[(.int .i64)],fun xs=>X1j xs.1 xs.2.1 xs.2.2.1⟩
theorem q1F:Z7Q X 87 q1E:=Zho (Zhn xok q1n q1 q1C 12 87) fun xs _ h=>(q1D xs.1 xs.2.1 xs.2.2.1).trans h
noncomputable def q1G:List (Nat×F7 S):=[(87,q1E)]
theorem q1H:Z9n X (q1G):=⟨q1F,trivial⟩
abbrev q1I {R:Type}:Z27 S R:=Zgi
theorem q1J {R:Type}:Z3J X (q1I (R:=R)):=ZgQ X
theorem q1K (x0:ZB) (x1:Int) (x2:Int):Zhs X q1G [(.st 6),(.int .i64),(.int .i64)] [(.int .i64)] q0 q1I 12 99 (x0,x1,x2,())=X3M x0 x1 x2:=by kernel_rfl
noncomputable def q1L:F7 S:=⟨[(.st 6),(.int .i64),(.int .i64)],[(.int .i64)],fun xs=>X3M xs.1 xs.2.1 xs.2.2.1⟩
theorem q1M:Z7Q X 99 q1L:=Zho (Zhn xok q1H q1 q1J 12 99) fun xs _ h=>(q1K xs.1 xs.2.1 xs.2.2.1).trans h
noncomputable def q1N:List (Nat×F7 S):=[]
theorem q1O:Z9n X (q1N):=trivial
abbrev q1P {R:Type}:Z27 S R:=Zgi
theorem q1Q {R:Type}:Z3J X (q1P (R:=R)):=ZgQ X
theorem q1R (x0:Zu) (x1:Zu):Zhs X q1N [(.st 2),(.st 2)] [(.st 2)] q0 q1P 12 109 (x0,x1,())=X5x x0 x1:=by kernel_rfl
noncomputable def q1S:F7 S:=⟨[(.st 2),(.st 2)],[(.st 2)],fun xs=>X5x xs.1 xs.2.1⟩
theorem q1T:Z7Q X 109 q1S:=Zho (Zhn xok q1O q1 q1Q 12 109) fun xs _ h=>(q1R xs.1 xs.2.1).trans h
noncomputable def q1U:List (Nat×F7 S):=[]
theorem q1V:Z9n X (q1U):=trivial
abbrev q1W {R:Type}:Z27 S R:=Zgi
theorem q1X {R:Type}:Z3J X (q1W (R:=R)):=ZgQ X
theorem q1Y (x0:Zu) (x1:Zu):Zhs X q1U [(.st 2),(.st 2)] [(.int .i64)] q0 q1W 12 108 (x0,x1,())=X5w x0 x1:=by kernel_rfl
noncomputable def q1Z:F7 S:=⟨[(.st 2),(.st 2)],[(.int .i64)],fun xs=>X5w xs.1 xs.2.1⟩
theorem q20:Z7Q X 108 q1Z:=Zho (Zhn xok q1V q1 q1X 12 108) fun xs _ h=>(q1Y xs.1 xs.2.1).trans h
noncomputable def q21:List (Nat×F7 S):=[(109,q1S),(108,q1Z)]
theorem q22:Z9n X (q21):=⟨q1T,q20,trivial⟩
abbrev q23 {R:Type}:Z27 S R:=Zgi
theorem q24 {R:Type}:Z3J X (q23 (R:=R)):=ZgQ X
def q25:Key:=⟨[100],100,none,[0,0,1,1,0,0,1,0,0,1,0,1],2,13⟩
def q26:StT S:=⟨(N (N (N L vK L) none (N L vK L)) vJ (N (N L vK L) none L)),L,13⟩
def q27:Way S:=⟨.ret,⟨(N L none (N L vL L)),L,48⟩,[.bool]⟩
def q28:Way S:=⟨(.exit 2),⟨(N (N (N L vK L) none L) vJ L),L,17⟩,[.int,(.lst (.st 2))]⟩
def q29:LE S:=⟨q25,q26,[.int,.int,(.lst (.st 2)),.int],[q27,q28]⟩
def q2a (x:tY):(Bool⊕Unit)→(Bool⊕(Int×(List Zu))):=Sum.elim (fun y0=>(.inl y0)) (fun y1=>(.inr (x.1,x.2.2.1)))
noncomputable def q2b {R:Type} (x:tY) (k:(Bool⊕(Int×(List Zu)))→Option R):Option R:=(X1k x.1 x.2.2.1 x.2.2.2 x.2.1).bind (Sum.elim (fun y0=>k (.inl y0)) (fun y1=>k (.inr (x.1,x.2.2.1))))
def q2c (x:tY) (v:Int):tY:=(x.1,v,x.2.2.1,x.2.2.2)
theorem q2d (x:tY):LE.step X q29 q21 q0 q23 12 x=Wk x.1 x.2.2.1 x.2.2.2 x.2.1 (fun w0=>(Sum.inl (x.1,w0,x.2.2.1,x.2.2.2))) (fun p0=>(Sum.inr (.inl p0))) (Sum.inr (.inr (x.1,x.2.2.1))):=by kernel_rfl
theorem q2f {R:Type} (x:tY) (k:(Bool⊕(Int×(List Zu)))→Option R) (r:R) (h:q2b x k=some r):∃ o,Z5s (LE.step X q29 q21 q0 q23 12) x o∧k o=some r:=by
 obtain ⟨o,h1,h2⟩:=Z0 h
 exact ⟨q2a x o,Zhl (st:=fun (x:tY)=>W3 x.1 x.2.2.1 x.2.2.2) (prj:=fun x=>x.2.1) (emb:=q2c) (embO:=q2a) (fun x=>(q2d x).trans (by unfold W3 Wk;simp only [Zhd,Zh8,Zhe,Option.map_some,Option.map_none];rfl)) (fun _ _=>rfl) (fun _ _=>rfl) (fun _ _ _=>rfl) (fun _ _ _=>rfl) (fun _=>rfl) (Z1S.1 h1),by
  first
  | exact h2
  | (rcases o with o|o<;>exact h2)⟩
noncomputable def q2g {R:Type}:Z27 S R:=LE.ls X q29 q2b q23
theorem q2h {R:Type}:Z3J X (q2g (R:=R)):=Zhq xok q22 (e:=q29) q1 q24 q2f q24
def q2i:Key:=⟨[100],100,none,[0,0,1,0,1],0,2⟩
def q2j:StT S:=⟨(N (N (N L vK L) none L) vJ L),L,2⟩
def q2k:Way S:=⟨.ret,⟨(N L none (N L vL L)),L,48⟩,[.bool]⟩
def q2l:Way S:=⟨(.exit 0),⟨L,L,6⟩,[]⟩
def q2m:LE S:=⟨q2i,q2j,[.int,(.lst (.st 2))],[q2k,q2l]⟩
def q2n (x:(Int×(List Zu))):(Bool⊕Unit)→(Bool⊕Unit):=Sum.elim (fun y0=>(.inl y0)) (fun y1=>(.inr ()))
noncomputable def q2o {R:Type} (x:(Int×(List Zu))) (k:(Bool⊕Unit)→Option R):Option R:=(X3i x.2 x.1).bind (Sum.elim (fun y0=>k (.inl y0)) (fun y1=>k (.inr ())))
def q2p (x:(Int×(List Zu))) (v:Int):(Int×(List Zu)):=(v,x.2)
theorem q2q (x:(Int×(List Zu))):LE.step X q2m q21 q0 q2g 12 x=Wj x.2 x.1 (fun w0=>(Sum.inl (w0,x.2))) (fun p0=>(Sum.inr (.inl p0))) (Sum.inr (.inr ())):=by kernel_rfl
theorem q2s {R:Type} (x:(Int×(List Zu))) (k:(Bool⊕Unit)→Option R) (r:R) (h:q2o x k=some r):∃ o,Z5s (LE.step X q2m q21 q0 q2g 12) x o∧k o=some r:=by
 obtain ⟨o,h1,h2⟩:=Z0 h
 exact ⟨q2n x o,Zhl (st:=fun (x:(Int×(List Zu)))=>W2 x.2) (prj:=fun x=>x.1) (emb:=q2p) (embO:=q2n) (fun x=>(q2q x).trans (by unfold W2 Wj;simp only [Zhd,Zh8,Zhe,Option.map_some,Option.map_none];rfl)) (fun _ _=>rfl) (fun _ _=>rfl) (fun _ _ _=>rfl) (fun _ _ _=>rfl) (fun _=>rfl) (Z1S.1 h1),by
  first
  | exact h2
  | (rcases o with o|o<;>exact h2)⟩
noncomputable def q2t {R:Type}:Z27 S R:=LE.ls X q2m q2o q2g
theorem q2u {R:Type}:Z3J X (q2t (R:=R)):=Zhq xok q22 (e:=q2m) q1 q2h q2s q2h
theorem q2v (x0:List Zu):Zhs X q21 [(.sl (.st 2))] [.bool] q0 q2t 12 100 (x0,())=X2R x0:=by kernel_rfl
noncomputable def q2w:F7 S:=⟨[(.sl (.st 2))],[.bool],fun xs=>X2R xs.1⟩
theorem q2x:Z7Q X 100 q2w:=Zho (Zhn xok q22 q1 q2u 12 100) fun xs _ h=>(q2v xs.1).trans h
noncomputable def q2y:List (Nat×F7 S):=[(98,q7),(82,qZ),(99,q1L),(100,q2w)]
theorem q2z:Z9n X (q2y):=⟨q8,q10,q1M,q2x,trivial⟩
abbrev q2A {R:Type}:Z27 S R:=Zgi
theorem q2B {R:Type}:Z3J X (q2A (R:=R)):=ZgQ X
def q2C:Key:=⟨[84],84,none,[0,0,1,0,1,1],0,8⟩
def q2D:StT S:=⟨(N (N (N L vK L) (some (.ptr 0 0)) L) none L),(N L og L),8⟩
def q2E:Way S:=⟨.ret,⟨(N L none (N L vK L)),(N L og L),21⟩,[.int,(.st 7)]⟩
def q2F:Way S:=⟨(.exit 0),⟨(N (N L (some (.ptr 0 0)) L) none L),(N L og L),13⟩,[(.st 7)]⟩
def q2G:LE S:=⟨q2C,q2D,[.int,(.st 7)],[q2E,q2F]⟩
def q2H (x:(Int×CtSand)):(Int⊕Unit)→((Int×CtSand)⊕CtSand):=Sum.elim (fun y0=>(.inl (y0,x.2))) (fun y1=>(.inr x.2))
noncomputable def q2I {R:Type} (x:(Int×CtSand)) (k:((Int×CtSand)⊕CtSand)→Option R):Option R:=(X2A x.2 x.1).bind (Sum.elim (fun y0=>k (.inl (y0,x.2))) (fun y1=>k (.inr x.2)))
def q2J (x:(Int×CtSand)) (v:Int):(Int×CtSand):=(v,x.2)
theorem q2K (x:(Int×CtSand)):LE.step X q2G q2y q0 q2A 12 x=WC x.2 x.1 (fun w0=>(Sum.inl (w0,x.2))) (fun p0=>(Sum.inr (.inl (p0,x.2)))) (Sum.inr (.inr x.2)):=by kernel_rfl
theorem q2M {R:Type} (x:(Int×CtSand)) (k:((Int×CtSand)⊕CtSand)→Option R) (r:R) (h:q2I x k=some r):∃ o,Z5s (LE.step X q2G q2y q0 q2A 12) x o∧k o=some r:=by
 obtain ⟨o,h1,h2⟩:=Z0 h
 exact ⟨q2H x o,Zhl (st:=fun (x:(Int×CtSand))=>XI x.2) (prj:=fun x=>x.1) (emb:=q2J) (embO:=q2H) (fun x=>(q2K x).trans (by unfold XI WC;simp only [Zhd,Zh8,Zhe,Option.map_some,Option.map_none];rfl)) (fun _ _=>rfl) (fun _ _=>rfl) (fun _ _ _=>rfl) (fun _ _ _=>rfl) (fun _=>rfl) (Z1S.1 h1),by
  first
  | exact h2
  | (rcases o with o|o<;>exact h2)⟩
noncomputable def q2N {R:Type}:Z27 S R:=LE.ls X q2G q2I q2A
theorem q2O {R:Type}:Z3J X (q2N (R:=R)):=Zhq xok q2z (e:=q2G) q1 q2B q2M q2B
theorem q2P (x0:CtSand):Zhs X q2y [(.st 7)] [(.int .i64)] q0 q2N 12 84 (x0,())=X3j x0:=by kernel_rfl
noncomputable def q2Q:F7 S:=⟨[(.st 7)],[(.int .i64)],fun xs=>X3j xs.1⟩
theorem q2R:Z7Q X 84 q2Q:=Zho (Zhn xok q2z q1 q2O 12 84) fun xs _ h=>(q2P xs.1).trans h
noncomputable def q2S:List (Nat×F7 S):=[(66,qS),(82,qZ),(83,q1k),(84,q2Q)]
theorem q2T:Z9n X (q2S):=⟨qT,q10,q1l,q2R,trivial⟩
abbrev q2U {R:Type}:Z27 S R:=Zgi
theorem q2V {R:Type}:Z3J X (q2U (R:=R)):=ZgQ X
def q2W:Key:=⟨[64],64,none,[0,0,1,0,1,1,1],0,10⟩
def q2X:StT S:=⟨(N (N L (some (.ptr 0 0)) (N L (some (.rs 10 0)) L)) none (N L none (N L vK L))),(N L oh o1n),11⟩
def q2Y:Way S:=⟨.ret,⟨v1f,oT,52⟩,[.int,.int,.int,(.lst .str),(.st 4),(.st 8),(.lst .str)]⟩
def q2Z:Way S:=⟨.ret,⟨v1f,oT,55⟩,[.int,.int,.int,(.lst .str),(.st 4),(.st 8),(.lst .str)]⟩
def q30:Way S:=⟨.ret,⟨v1f,oT,51⟩,[.int,.int,.int,(.lst .str),(.st 4),(.st 8),(.lst .str)]⟩
def q31:Way S:=⟨(.exit 0),⟨(N (N L (some (.ptr 0 0)) (N L (some (.rs 10 0)) L)) none L),(N L oh o1n),16⟩,[(.st 8),(.lst .str)]⟩
def q32:LE S:=⟨q2W,q2X,[.int,(.st 8),(.lst .str)],[q2Y,q2Z,q30,q31]⟩
def q33 (x:tV):(tD⊕tD⊕tD⊕(List ByteArray))→t2:=Sum.elim (fun y0=>(.inl (y0.1,y0.2.1,y0.2.2.1,y0.2.2.2.1,y0.2.2.2.2.1,x.2.1,y0.2.2.2.2.2))) (Sum.elim (fun y1=>(.inr (.inl (y1.1,y1.2.1,y1.2.2.1,y1.2.2.2.1,y1.2.2.2.2.1,x.2.1,y1.2.2.2.2.2)))) (Sum.elim (fun y2=>(.inr (.inr (.inl (y2.1,y2.2.1,y2.2.2.1,y2.2.2.2.1,y2.2.2.2.2.1,x.2.1,y2.2.2.2.2.2))))) (fun y3=>(.inr (.inr (.inr (x.2.1,y3)))))))
noncomputable def q34 {R:Type} (x:tV) (k:t2→Option R):Option R:=(X3f x.2.1 (x.1,x.2.2)).bind (Sum.elim (fun y0=>k (.inl (y0.1,y0.2.1,y0.2.2.1,y0.2.2.2.1,y0.2.2.2.2.1,x.2.1,y0.2.2.2.2.2))) (Sum.elim (fun y1=>k (.inr (.inl (y1.1,y1.2.1,y1.2.2.1,y1.2.2.2.1,y1.2.2.2.2.1,x.2.1,y1.2.2.2.2.2)))) (Sum.elim (fun y2=>k (.inr (.inr (.inl (y2.1,y2.2.1,y2.2.2.1,y2.2.2.2.1,y2.2.2.2.2.1,x.2.1,y2.2.2.2.2.2))))) (fun y3=>k (.inr (.inr (.inr (x.2.1,y3))))))))
def q35 (x:tV) (v:(Int×(List ByteArray))):tV:=(v.1,x.2.1,v.2)
theorem q36 (x:tV):LE.step X q32 q2S q0 q2U 12 x=Wg x.2.1 x.1 x.2.2 (fun w0 w1=>(Sum.inl (w0,x.2.1,w1))) (fun p0 p1 p2 p3 p4 p5=>(Sum.inr (.inl (p0,p1,p2,p3,p4,x.2.1,p5)))) (fun p0 p1 p2 p3 p4 p5=>(Sum.inr (.inr (.inl (p0,p1,p2,p3,p4,x.2.1,p5))))) (fun p0 p1 p2 p3 p4 p5=>(Sum.inr (.inr (.inr (.inl (p0,p1,p2,p3,p4,x.2.1,p5)))))) (fun p0=>(Sum.inr (.inr (.inr (.inr (x.2.1,p0)))))):=by kernel_rfl
theorem q38 {R:Type} (x:tV) (k:t2→Option R) (r:R) (h:q34 x k=some r):∃ o,Z5s (LE.step X q32 q2S q0 q2U 12) x o∧k o=some r:=by
 obtain ⟨o,h1,h2⟩:=Z0 h
 exact ⟨q33 x o,Zhl (st:=fun (x:tV)=>W0 x.2.1) (prj:=fun x=>(x.1,x.2.2)) (emb:=q35) (embO:=q33) (fun x=>(q36 x).trans (by unfold W0 Wg;simp only [Zhd,Zh8,Zhe,Option.map_some,Option.map_none];rfl)) (fun _ _=>rfl) (fun _ _=>rfl) (fun _ _ _=>rfl) (fun _ _ _=>rfl) (fun _=>rfl) (Z1S.1 h1),by
  first
  | exact h2
  | (rcases o with o|o|o|o<;>exact h2)⟩
noncomputable def q39 {R:Type}:Z27 S R:=LE.ls X q32 q34 q2U
theorem q3a {R:Type}:Z3J X (q39 (R:=R)):=Zhq xok q2T (e:=q32) q1 q2V q38 q2V
def q3b:Key:=⟨[64],64,none,[0,0,1,0,1,1,1,1,1],2,21⟩
def q3c:StT S:=⟨(N (N L (some (.ptr 0 0)) (N (N L vK L) (some (.rs 21 0)) L)) none L),(N (N L none o1n) oh L),22⟩
def q3d:Way S:=⟨.ret,⟨v1f,oZ,62⟩,[.int,.int,.int,(.lst .str),(.lst .str),(.st 8)]⟩
def q3e:Way S:=⟨.ret,⟨v1f,oZ,55⟩,[.int,.int,.int,(.lst .str),(.lst .str),(.st 8)]⟩
def q3f:Way S:=⟨(.exit 2),⟨L,(N (N L none o1n) oh L),27⟩,[(.lst .str),(.st 8)]⟩
def q3g:LE S:=⟨q3b,q3c,[.int,(.lst .str),(.st 8)],[q3d,q3e,q3f]⟩
def q3h (x:tW):((Int×Int×Int×(List ByteArray)×(List ByteArray))⊕(Int×Int×Int×(List ByteArray)×(List ByteArray))⊕(List ByteArray))→ta:=Sum.elim (fun y0=>(.inl (y0.1,y0.2.1,y0.2.2.1,y0.2.2.2.1,y0.2.2.2.2,x.2.2))) (Sum.elim (fun y1=>(.inr (.inl (y1.1,y1.2.1,y1.2.2.1,y1.2.2.2.1,y1.2.2.2.2,x.2.2)))) (fun y2=>(.inr (.inr (y2,x.2.2)))))
noncomputable def q3i {R:Type} (x:tW) (k:ta→Option R):Option R:=(X1i x.2.2 (x.1,x.2.1)).bind (Sum.elim (fun y0=>k (.inl (y0.1,y0.2.1,y0.2.2.1,y0.2.2.2.1,y0.2.2.2.2,x.2.2))) (Sum.elim (fun y1=>k (.inr (.inl (y1.1,y1.2.1,y1.2.2.1,y1.2.2.2.1,y1.2.2.2.2,x.2.2)))) (fun y2=>k (.inr (.inr (y2,x.2.2))))))
def q3j (x:tW) (v:(Int×(List ByteArray))):tW:=(v.1,v.2,x.2.2)
theorem q3k (x:tW):LE.step X q3g q2S q0 q39 12 x=Wh x.2.2 x.1 x.2.1 (fun w0 w1=>(Sum.inl (w0,w1,x.2.2))) (fun p0 p1 p2 p3 p4=>(Sum.inr (.inl (p0,p1,p2,p3,p4,x.2.2)))) (fun p0 p1 p2 p3 p4=>(Sum.inr (.inr (.inl (p0,p1,p2,p3,p4,x.2.2))))) (fun p0=>(Sum.inr (.inr (.inr (p0,x.2.2))))):=by kernel_rfl
theorem q3m {R:Type} (x:tW) (k:ta→Option R) (r:R) (h:q3i x k=some r):∃ o,Z5s (LE.step X q3g q2S q0 q39 12) x o∧k o=some r:=by
 obtain ⟨o,h1,h2⟩:=Z0 h
 exact ⟨q3h x o,Zhl (st:=fun (x:tW)=>W1 x.2.2) (prj:=fun x=>(x.1,x.2.1)) (emb:=q3j) (embO:=q3h) (fun x=>(q3k x).trans (by unfold W1 Wh;simp only [Zhd,Zh8,Zhe,Option.map_some,Option.map_none];rfl)) (fun _ _=>rfl) (fun _ _=>rfl) (fun _ _ _=>rfl) (fun _ _ _=>rfl) (fun _=>rfl) (Z1S.1 h1),by
  first
  | exact h2
  | (rcases o with o|o|o<;>exact h2)⟩
noncomputable def q3n {R:Type}:Z27 S R:=LE.ls X q3g q3i q39
theorem q3o {R:Type}:Z3J X (q3n (R:=R)):=Zhq xok q2T (e:=q3g) q1 q3a q3m q3a
theorem q3p (x0:Zl):Zhs X q2S [(.st 8)] [(.int .i64),(.int .i64),(.int .i64)] q0 q3n 12 64 (x0,())=X2Q x0:=by kernel_rfl
noncomputable def q3q:F7 S:=⟨[(.st 8)],[(.int .i64),(.int .i64),(.int .i64)],fun xs=>X2Q xs.1⟩
theorem q3r:Z7Q X 64 q3q:=Zho (Zhn xok q2T q1 q3o 12 64) fun xs _ h=>(q3p xs.1).trans h
noncomputable def q3s:List (Nat×F7 S):=[]
theorem q3t:Z9n X (q3s):=trivial
abbrev q3u {R:Type}:Z27 S R:=Zgi
theorem q3v {R:Type}:Z3J X (q3u (R:=R)):=ZgQ X
theorem q3w (x0:Int) (x1:Int) (x2:Int):Zhs X q3s [(.int .i64),(.int .i64),(.int .i64)] [.bool] q0 q3u 12 65 (x0,x1,x2,())=X2B x0 x1 x2:=by kernel_rfl
noncomputable def q3x:F7 S:=⟨[(.int .i64),(.int .i64),(.int .i64)],[.bool],fun xs=>X2S xs.1 xs.2.1 xs.2.2.1⟩
theorem q3y:Z7Q X 65 q3x:=Zho (Zhn xok q3t q1 q3v 12 65) fun xs _ h=>((q3w xs.1 xs.2.1 xs.2.2.1).trans (X5f xs.1 xs.2.1 xs.2.2.1).symm).trans h
noncomputable def q3z:List (Nat×F7 S):=[]
theorem q3A:Z9n X (q3z):=trivial
abbrev q3B {R:Type}:Z27 S R:=Zgi
theorem q3C {R:Type}:Z3J X (q3B (R:=R)):=ZgQ X
theorem q3D (x0:Z5):Zhs X q3z [(.st 18)] [(.int .i64)] q0 q3B 12 68 (x0,())=X1X x0:=by kernel_rfl
noncomputable def q3E:F7 S:=⟨[(.st 18)],[(.int .i64)],fun xs=>X3N xs.1⟩
theorem q3F:Z7Q X 68 q3E:=Zho (Zhn xok q3A q1 q3C 12 68) fun xs _ h=>((q3D xs.1).trans (X4X xs.1).symm).trans h
noncomputable def q3G:List (Nat×F7 S):=[(87,q1E)]
theorem q3H:Z9n X (q3G):=⟨q1F,trivial⟩
abbrev q3I {R:Type}:Z27 S R:=Zgi
theorem q3J {R:Type}:Z3J X (q3I (R:=R)):=ZgQ X
theorem q3K (x0:ZE) (x1:Int) (x2:Int):Zhs X q3G [(.st 5),(.int .i64),(.int .i64)] [(.int .i64)] q0 q3I 12 67 (x0,x1,x2,())=X2c x0 x1 x2:=by kernel_rfl
noncomputable def q3L:F7 S:=⟨[(.st 5),(.int .i64),(.int .i64)],[(.int .i64)],fun xs=>X2c xs.1 xs.2.1 xs.2.2.1⟩
theorem q3M:Z7Q X 67 q3L:=Zho (Zhn xok q3H q1 q3J 12 67) fun xs _ h=>(q3K xs.1 xs.2.1 xs.2.2.1).trans h
noncomputable def q3N:List (Nat×F7 S):=[(87,q1E),(67,q3L),(65,q3x)]
theorem q3O:Z9n X (q3N):=⟨q1F,q3M,q3y,trivial⟩
abbrev q3P {R:Type}:Z27 S R:=Zgi
theorem q3Q {R:Type}:Z3J X (q3P (R:=R)):=ZgQ X
theorem q3R (x0:Zt):Zhs X q3N [(.st 19)] [(.int .i64)] q0 q3P 12 69 (x0,())=X1G x0:=by kernel_rfl
noncomputable def q3S:F7 S:=⟨[(.st 19)],[(.int .i64)],fun xs=>X3W xs.1⟩
theorem q3T:Z7Q X 69 q3S:=Zho (Zhn xok q3O q1 q3Q 12 69) fun xs _ h=>((q3R xs.1).trans (X4E xs.1).symm).trans h
noncomputable def q3U:List (Nat×F7 S):=[(64,q3q),(65,q3x),(66,qS),(68,q3E),(67,q3L),(69,q3S)]
theorem q3V:Z9n X (q3U):=⟨q3r,q3y,qT,q3F,q3M,q3T,trivial⟩
abbrev q3W {R:Type}:Z27 S R:=Zgi
theorem q3X {R:Type}:Z3J X (q3W (R:=R)):=ZgQ X
def q3Y:Key:=⟨[51],51,none,[0,0,1,0,1,1,1,1,1,1],0,39⟩
def q3Z:StT S:=⟨(N (N L (some (.ptr 0 0)) (N (N L vK L) none L)) none (N (N (N L (some (.rs 39 0)) L) none L) none L)),o19,40⟩
def q40:Way S:=⟨.ret,⟨v1f,oR,81⟩,[.int,.int,.int,(.lst .str),(.st 20),(.lst .str),(.st 18)]⟩
def q41:Way S:=⟨.ret,⟨v1f,oR,72⟩,[.int,.int,.int,(.lst .str),(.st 20),(.lst .str),(.st 18)]⟩
def q42:Way S:=⟨(.exit 0),⟨(N (N L (some (.ptr 0 0)) L) none L),o19,45⟩,[(.lst .str),(.st 20)]⟩
def q43:LE S:=⟨q3Y,q3Z,[.int,(.lst .str),(.st 20)],[q40,q41,q42]⟩
def q44 (x:tZ):((Int×Int×Int×(List ByteArray)×(List ByteArray)×Z5)⊕(Int×Int×Int×(List ByteArray)×(List ByteArray)×Z5)⊕(List ByteArray))→t8:=Sum.elim (fun y0=>(.inl (y0.1,y0.2.1,y0.2.2.1,y0.2.2.2.1,x.2.2,y0.2.2.2.2.1,y0.2.2.2.2.2))) (Sum.elim (fun y1=>(.inr (.inl (y1.1,y1.2.1,y1.2.2.1,y1.2.2.2.1,x.2.2,y1.2.2.2.2.1,y1.2.2.2.2.2)))) (fun y2=>(.inr (.inr (y2,x.2.2)))))
noncomputable def q45 {R:Type} (x:tZ) (k:t8→Option R):Option R:=(X24 x.2.2 (x.1,x.2.1)).bind (Sum.elim (fun y0=>k (.inl (y0.1,y0.2.1,y0.2.2.1,y0.2.2.2.1,x.2.2,y0.2.2.2.2.1,y0.2.2.2.2.2))) (Sum.elim (fun y1=>k (.inr (.inl (y1.1,y1.2.1,y1.2.2.1,y1.2.2.2.1,x.2.2,y1.2.2.2.2.1,y1.2.2.2.2.2)))) (fun y2=>k (.inr (.inr (y2,x.2.2))))))
def q46 (x:tZ) (v:(Int×(List ByteArray))):tZ:=(v.1,v.2,x.2.2)
theorem q47 (x:tZ):LE.step X q43 q3U q0 q3W 12 x=Wl x.2.2 x.1 x.2.1 (fun w0 w1=>(Sum.inl (w0,w1,x.2.2))) (fun p0 p1 p2 p3 p4 p5=>(Sum.inr (.inl (p0,p1,p2,p3,x.2.2,p4,p5)))) (fun p0 p1 p2 p3 p4 p5=>(Sum.inr (.inr (.inl (p0,p1,p2,p3,x.2.2,p4,p5))))) (fun p0=>(Sum.inr (.inr (.inr (p0,x.2.2))))):=by kernel_rfl
theorem q49 {R:Type} (x:tZ) (k:t8→Option R) (r:R) (h:q45 x k=some r):∃ o,Z5s (LE.step X q43 q3U q0 q3W 12) x o∧k o=some r:=by
 obtain ⟨o,h1,h2⟩:=Z0 h
 exact ⟨q44 x o,Zhl (st:=fun (x:tZ)=>W4 x.2.2) (prj:=fun x=>(x.1,x.2.1)) (emb:=q46) (embO:=q44) (fun x=>(q47 x).trans (by unfold W4 Wl;simp only [Zhd,Zh8,Zhe,Option.map_some,Option.map_none];rfl)) (fun _ _=>rfl) (fun _ _=>rfl) (fun _ _ _=>rfl) (fun _ _ _=>rfl) (fun _=>rfl) (Z1S.1 h1),by
  first
  | exact h2
  | (rcases o with o|o|o<;>exact h2)⟩
noncomputable def q4a {R:Type}:Z27 S R:=LE.ls X q43 q45 q3W
theorem q4b {R:Type}:Z3J X (q4a (R:=R)):=Zhq xok q3V (e:=q43) q1 q3X q49 q3X
def q4c:Key:=⟨[51],51,none,[0,0,1,0,1,1,1,1,1,1,1,1],2,50⟩
def q4d:StT S:=⟨(N (N (N L none (N L vK L)) (some (.ptr 0 0)) L) none L),o19,50⟩
def q4e:Way S:=⟨.ret,⟨v1f,o19,69⟩,[.int,.int,.int,(.lst .str),(.st 20)]⟩
def q4f:Way S:=⟨(.exit 2),⟨L,o19,55⟩,[(.lst .str),(.st 20)]⟩
def q4g:LE S:=⟨q4c,q4d,[.int,(.lst .str),(.st 20)],[q4e,q4f]⟩
def q4h (x:tZ):((Int×Int×Int)⊕Unit)→tB:=Sum.elim (fun y0=>(.inl (y0.1,y0.2.1,y0.2.2,x.2.1,x.2.2))) (fun y1=>(.inr (x.2.1,x.2.2)))
noncomputable def q4i {R:Type} (x:tZ) (k:tB→Option R):Option R:=(X25 x.2.2 x.1).bind (Sum.elim (fun y0=>k (.inl (y0.1,y0.2.1,y0.2.2,x.2.1,x.2.2))) (fun y1=>k (.inr (x.2.1,x.2.2))))
def q4j (x:tZ) (v:Int):tZ:=(v,x.2.1,x.2.2)
theorem q4k (x:tZ):LE.step X q4g q3U q0 q4a 12 x=Wm x.2.2 x.1 (fun w0=>(Sum.inl (w0,x.2.1,x.2.2))) (fun p0 p1 p2=>(Sum.inr (.inl (p0,p1,p2,x.2.1,x.2.2)))) (Sum.inr (.inr (x.2.1,x.2.2))):=by kernel_rfl
theorem q4m {R:Type} (x:tZ) (k:tB→Option R) (r:R) (h:q4i x k=some r):∃ o,Z5s (LE.step X q4g q3U q0 q4a 12) x o∧k o=some r:=by
 obtain ⟨o,h1,h2⟩:=Z0 h
 exact ⟨q4h x o,Zhl (st:=fun (x:tZ)=>W5 x.2.2) (prj:=fun x=>x.1) (emb:=q4j) (embO:=q4h) (fun x=>(q4k x).trans (by unfold W5 Wm;simp only [Zhd,Zh8,Zhe,Option.map_some,Option.map_none];rfl)) (fun _ _=>rfl) (fun _ _=>rfl) (fun _ _ _=>rfl) (fun _ _ _=>rfl) (fun _=>rfl) (Z1S.1 h1),by
  first
  | exact h2
  | (rcases o with o|o<;>exact h2)⟩
noncomputable def q4n {R:Type}:Z27 S R:=LE.ls X q4g q4i q4a
theorem q4o {R:Type}:Z3J X (q4n (R:=R)):=Zhq xok q3V (e:=q4g) q1 q4b q4m q4b
theorem q4p (x0:ZJ):Zhs X q3U [(.st 20)] [(.int .i64),(.int .i64),(.int .i64)] q0 q4n 12 51 (x0,())=X1r x0:=by kernel_rfl
noncomputable def q4q:F7 S:=⟨[(.st 20)],[(.int .i64),(.int .i64),(.int .i64)],fun xs=>X3z xs.1⟩
theorem q4r:Z7Q X 51 q4q:=Zho (Zhn xok q3V q1 q4o 12 51) fun xs _ h=>((q4p xs.1).trans (X4p xs.1).symm).trans h
noncomputable def q4s:List (Nat×F7 S):=[]
theorem q4t:Z9n X (q4s):=trivial
abbrev q4u {R:Type}:Z27 S R:=Zgi
theorem q4v {R:Type}:Z3J X (q4u (R:=R)):=ZgQ X
def q4w:Key:=⟨[102],102,none,[0,0,1,0,1,1],0,4⟩
def q4x:StT S:=⟨(N (N (N (N L (some (.iter 3)) L) (some (.int .i32 0)) L) none L) vD L),o1o,4⟩
def q4y:Way S:=⟨.ret,⟨(N L none (N L vL L)),o1o,23⟩,[.bool,.str,.nat]⟩
def q4z:Way S:=⟨(.exit 0),⟨(N (N (N L (some (.int .i32 0)) L) none L) vD L),o1o,6⟩,[.int,.str,.str,.nat]⟩
def q4A:LE S:=⟨q4w,q4x,[.int,.str,.str,.nat],[q4y,q4z]⟩
def q4B (x:tS):((Bool×Nat)⊕(Int×Nat))→tE:=Sum.elim (fun y0=>(.inl (y0.1,x.2.2.1,y0.2))) (fun y1=>(.inr (y1.1,x.2.1,x.2.2.1,y1.2)))
noncomputable def q4C {R:Type} (x:tS) (k:tE→Option R):Option R:=(X3l x.2.1 x.2.2.1 (x.1,x.2.2.2)).bind (Sum.elim (fun y0=>k (.inl (y0.1,x.2.2.1,y0.2))) (fun y1=>k (.inr (y1.1,x.2.1,x.2.2.1,y1.2))))
def q4D (x:tS) (v:(Int×Nat)):tS:=(v.1,x.2.1,x.2.2.1,v.2)
theorem q4E (x:tS):LE.step X q4A q4s q0 q4u 12 x=Wt x.2.1 x.2.2.1 x.1 x.2.2.2 (fun w0 w1=>(Sum.inl (w0,x.2.1,x.2.2.1,w1))) (fun p0 p1=>(Sum.inr (.inl (p0,x.2.2.1,p1)))) (fun p0 p1=>(Sum.inr (.inr (p0,x.2.1,x.2.2.1,p1)))):=by kernel_rfl
theorem q4G {R:Type} (x:tS) (k:tE→Option R) (r:R) (h:q4C x k=some r):∃ o,Z5s (LE.step X q4A q4s q0 q4u 12) x o∧k o=some r:=by
 obtain ⟨o,h1,h2⟩:=Z0 h
 exact ⟨q4B x o,Zhl (st:=fun (x:tS)=>Wr x.2.1 x.2.2.1) (prj:=fun x=>(x.1,x.2.2.2)) (emb:=q4D) (embO:=q4B) (fun x=>(q4E x).trans (by unfold Wr Wt;simp only [Zhd,Zh8,Zhe,Option.map_some,Option.map_none];rfl)) (fun _ _=>rfl) (fun _ _=>rfl) (fun _ _ _=>rfl) (fun _ _ _=>rfl) (fun _=>rfl) (Z1S.1 h1),by
  first
  | exact h2
  | (rcases o with o|o<;>exact h2)⟩
noncomputable def q4H {R:Type}:Z27 S R:=LE.ls X q4A q4C q4u
theorem q4I {R:Type}:Z3J X (q4H (R:=R)):=Zhq xok q4t (e:=q4A) q1 q4v q4G q4v
theorem q4J (x0:ByteArray):Zhs X q4s [.str] [.bool] q0 q4H 12 102 (x0,())=X20 x0:=by kernel_rfl
noncomputable def q4K:F7 S:=⟨[.str],[.bool],fun xs=>X20 xs.1⟩
theorem q4L:Z7Q X 102 q4K:=Zho (Zhn xok q4t q1 q4I 12 102) fun xs _ h=>(q4J xs.1).trans h
noncomputable def q4M:List (Nat×F7 S):=[]
theorem q4N:Z9n X (q4M):=trivial
abbrev q4O {R:Type}:Z27 S R:=Zgi
theorem q4P {R:Type}:Z3J X (q4O (R:=R)):=ZgQ X
def q4Q:Key:=⟨[81,2,1,58,2,1,73],81,none,[0,0,1,0,1],0,17⟩
def q4R:StT S:=⟨(N (N (N (N L vK L) none L) (some (.fn (.func 91) [] [(.ptr 0 0),(.ptr 1 0)])) L) (some (.sl (.int .i64) [])) v1m),(N (N L ov L) ov L),17⟩
def q4S:Way S:=⟨.ret,⟨v1l,(N (N L ov L) ov L),38⟩,[.int,.int,.int]⟩
def q4T:Way S:=⟨(.exit 0),⟨L,(N (N L ov L) ov L),18⟩,[.int,.int]⟩
def q4U:LE S:=⟨q4Q,q4R,[.int,(.lst (.int .i64)),.int,.int,.int],[q4S,q4T]⟩
def q4V (x:tR):(Int⊕Unit)→tX:=Sum.elim (fun y0=>(.inl (y0,x.2.2.2.1,x.2.2.2.2))) (fun y1=>(.inr (x.2.2.2.1,x.2.2.2.2)))
noncomputable def q4W {R:Type} (x:tR) (k:tX→Option R):Option R:=(X3I x.1 x.2.1 x.2.2.2.1 x.2.2.2.2 x.2.2.1).bind (Sum.elim (fun y0=>k (.inl (y0,x.2.2.2.1,x.2.2.2.2))) (fun y1=>k (.inr (x.2.2.2.1,x.2.2.2.2))))
def q4X (x:tR) (v:Int):tR:=(x.1,x.2.1,v,x.2.2.2.1,x.2.2.2.2)
theorem q4Y (x:tR):LE.step X q4U q4M q0 q4O 12 x=WR x.1 x.2.1 x.2.2.2.1 x.2.2.2.2 x.2.2.1 (fun w0=>(Sum.inl (x.1,x.2.1,w0,x.2.2.2.1,x.2.2.2.2))) (fun p0=>(Sum.inr (.inl (p0,x.2.2.2.1,x.2.2.2.2)))) (Sum.inr (.inr (x.2.2.2.1,x.2.2.2.2))):=by kernel_rfl
theorem q50 {R:Type} (x:tR) (k:tX→Option R) (r:R) (h:q4W x k=some r):∃ o,Z5s (LE.step X q4U q4M q0 q4O 12) x o∧k o=some r:=by
 obtain ⟨o,h1,h2⟩:=Z0 h
 exact ⟨q4V x o,Zhl (st:=fun (x:tR)=>WM x.1 x.2.1 x.2.2.2.1 x.2.2.2.2) (prj:=fun x=>x.2.2.1) (emb:=q4X) (embO:=q4V) (fun x=>(q4Y x).trans (by unfold WM WR;simp only [Zhd,Zh8,Zhe,Option.map_some,Option.map_none];rfl)) (fun _ _=>rfl) (fun _ _=>rfl) (fun _ _ _=>rfl) (fun _ _ _=>rfl) (fun _=>rfl) (Z1S.1 h1),by
  first
  | exact h2
  | (rcases o with o|o<;>exact h2)⟩
noncomputable def q51 {R:Type}:Z27 S R:=LE.ls X q4U q4W q4O
theorem q52 {R:Type}:Z3J X (q51 (R:=R)):=Zhq xok q4N (e:=q4U) q1 q4P q50 q4P
theorem q53 (x0:Int) (x1:Int) (x2:List Int):Zhs X q4M [(.int .i64),(.int .i64),(.sl (.int .i64))] [.bool] q0 q51 12 73 (x0,x1,x2,())=WL x0 x1 x2:=by kernel_rfl
noncomputable def q54:F7 S:=⟨[(.int .i64),(.int .i64),(.sl (.int .i64))],[.bool],fun xs=>WL xs.1 xs.2.1 xs.2.2.1⟩
theorem q55:Z7Q X 73 q54:=Zho (Zhn xok q4N q1 q52 12 73) fun xs _ h=>(q53 xs.1 xs.2.1 xs.2.2.1).trans h
noncomputable def q56:List (Nat×F7 S):=[(73,q54)]
theorem q57:Z9n X (q56):=⟨q55,trivial⟩
abbrev q58 {R:Type}:Z27 S R:=Zgi
theorem q59 {R:Type}:Z3J X (q58 (R:=R)):=ZgQ X
def q5a:Key:=⟨[90,2,1,71,2,1,53],90,none,[0,0,1,0,1],0,16⟩
def q5b:StT S:=⟨(N (N (N (N L vK L) none L) (some (.fn (.func 72) [] [(.ptr 0 0)])) L) vJ v1m),(N L ov L),16⟩
def q5c:Way S:=⟨.ret,⟨v1l,(N (N L none (N (N L none (N L oj L)) none L)) ov (N L none (N o1p none L))),39⟩,[.int,(.st 2),.int,(.lst (.int .i64))]⟩
def q5d:Way S:=⟨(.exit 0),⟨L,(N L ov L),17⟩,[.int]⟩
def q5e:LE S:=⟨q5a,q5b,[.int,(.lst (.st 2)),.int,.int],[q5c,q5d]⟩
def q5f (x:t10):((Int×Zu×(List Int))⊕Unit)→((Int×Zu×Int×(List Int))⊕Int):=Sum.elim (fun y0=>(.inl (y0.1,y0.2.1,x.2.2.2,y0.2.2))) (fun y1=>(.inr x.2.2.2))
noncomputable def q5g {R:Type} (x:t10) (k:((Int×Zu×Int×(List Int))⊕Int)→Option R):Option R:=(X3G x.1 x.2.1 x.2.2.2 x.2.2.1).bind (Sum.elim (fun y0=>k (.inl (y0.1,y0.2.1,x.2.2.2,y0.2.2))) (fun y1=>k (.inr x.2.2.2)))
def q5h (x:t10) (v:Int):t10:=(x.1,x.2.1,v,x.2.2.2)
theorem q5i (x:t10):LE.step X q5e q56 q0 q58 12 x=WQ x.1 x.2.1 x.2.2.2 x.2.2.1 (fun w0=>(Sum.inl (x.1,x.2.1,w0,x.2.2.2))) (fun p0 p1 p2=>(Sum.inr (.inl (p0,p1,x.2.2.2,p2)))) (Sum.inr (.inr x.2.2.2)):=by kernel_rfl
theorem q5k {R:Type} (x:t10) (k:((Int×Zu×Int×(List Int))⊕Int)→Option R) (r:R) (h:q5g x k=some r):∃ o,Z5s (LE.step X q5e q56 q0 q58 12) x o∧k o=some r:=by
 obtain ⟨o,h1,h2⟩:=Z0 h
 exact ⟨q5f x o,Zhl (st:=fun (x:t10)=>WK x.1 x.2.1 x.2.2.2) (prj:=fun x=>x.2.2.1) (emb:=q5h) (embO:=q5f) (fun x=>(q5i x).trans (by unfold WK WQ;simp only [Zhd,Zh8,Zhe,Option.map_some,Option.map_none];rfl)) (fun _ _=>rfl) (fun _ _=>rfl) (fun _ _ _=>rfl) (fun _ _ _=>rfl) (fun _=>rfl) (Z1S.1 h1),by
  first
  | exact h2
  | (rcases o with o|o<;>exact h2)⟩
noncomputable def q5l {R:Type}:Z27 S R:=LE.ls X q5e q5g q58
theorem q5m {R:Type}:Z3J X (q5l (R:=R)):=Zhq xok q57 (e:=q5e) q1 q59 q5k q59
theorem q5n (x0:Int) (x1:List Zu):Zhs X q56 [(.int .i64),(.sl (.st 2))] [.bool] q0 q5l 12 53 (x0,x1,())=X33 x0 x1:=by kernel_rfl
noncomputable def q5o:F7 S:=⟨[(.int .i64),(.sl (.st 2))],[.bool],fun xs=>X33 xs.1 xs.2.1⟩
theorem q5p:Z7Q X 53 q5o:=Zho (Zhn xok q57 q1 q5m 12 53) fun xs _ h=>(q5n xs.1 xs.2.1).trans h
noncomputable def q5q:List (Nat×F7 S):=[(73,q54)]
theorem q5r:Z9n X (q5q):=⟨q55,trivial⟩
abbrev q5s {R:Type}:Z27 S R:=Zgi
theorem q5t {R:Type}:Z3J X (q5s (R:=R)):=ZgQ X
def q5u:Key:=⟨[103],103,none,[0,0,1,0,1,1,1],0,9⟩
def q5v:StT S:=⟨(N (N (N L vK (N L vK L)) none L) none (N (N L none (N L vK L)) none (N (N L (some (.sl (.st 3) [])) L) none L))),o1p,9⟩
def q5w:Way S:=⟨.ret,⟨(N L none (N L vK L)),(N (N (N L os L) none L) none (N (N (N (N L os L) none L) none (N L ok L)) none L)),26⟩,[.int,(.lst (.int .i64)),(.lst (.int .i64)),(.st 3)]⟩
def q5x:Way S:=⟨.ret,⟨(N L none (N L vK L)),oV,26⟩,[.int,(.lst (.int .i64)),(.lst (.int .i64)),(.lst (.int .i64)),(.st 3)]⟩
def q5y:Way S:=⟨.ret,⟨(N L none (N L vK L)),oV,31⟩,[.int,(.lst (.int .i64)),(.lst (.int .i64)),(.lst (.int .i64)),(.st 3)]⟩
def q5z:Way S:=⟨(.exit 0),⟨L,o1p,10⟩,[(.lst (.int .i64))]⟩
def q5A:LE S:=⟨q5u,q5v,[.int,.int,.int,(.lst (.st 3)),(.lst (.int .i64))],[q5w,q5x,q5y,q5z]⟩
def q5B (x:tN):((Int×(List Int)×Zk)⊕(Int×(List Int)×(List Int)×Zk)⊕(Int×(List Int)×(List Int)×Zk)⊕Unit)→t9:=Sum.elim (fun y0=>(.inl (y0.1,x.2.2.2.2,y0.2.1,y0.2.2))) (Sum.elim (fun y1=>(.inr (.inl (y1.1,x.2.2.2.2,y1.2.1,y1.2.2.1,y1.2.2.2)))) (Sum.elim (fun y2=>(.inr (.inr (.inl (y2.1,x.2.2.2.2,y2.2.1,y2.2.2.1,y2.2.2.2))))) (fun y3=>(.inr (.inr (.inr x.2.2.2.2))))))
noncomputable def q5C {R:Type} (x:tN) (k:t9→Option R):Option R:=(X2X x.2.1 x.2.2.2.1 x.2.2.2.2 (x.1,x.2.2.1)).bind (Sum.elim (fun y0=>k (.inl (y0.1,x.2.2.2.2,y0.2.1,y0.2.2))) (Sum.elim (fun y1=>k (.inr (.inl (y1.1,x.2.2.2.2,y1.2.1,y1.2.2.1,y1.2.2.2)))) (Sum.elim (fun y2=>k (.inr (.inr (.inl (y2.1,x.2.2.2.2,y2.2.1,y2.2.2.1,y2.2.2.2))))) (fun y3=>k (.inr (.inr (.inr x.2.2.2.2)))))))
def q5D (x:tN) (v:(Int×Int)):tN:=(v.1,x.2.1,v.2,x.2.2.2.1,x.2.2.2.2)
theorem q5E (x:tN):LE.step X q5A q5q q0 q5s 12 x=XM x.2.1 x.2.2.2.1 x.2.2.2.2 x.1 x.2.2.1 (fun w0 w1=>(Sum.inl (w0,x.2.1,w1,x.2.2.2.1,x.2.2.2.2))) (fun p0 p1 p2=>(Sum.inr (.inl (p0,x.2.2.2.2,p1,p2)))) (fun p0 p1 p2 p3=>(Sum.inr (.inr (.inl (p0,x.2.2.2.2,p1,p2,p3))))) (fun p0 p1 p2 p3=>(Sum.inr (.inr (.inr (.inl (p0,x.2.2.2.2,p1,p2,p3)))))) (Sum.inr (.inr (.inr (.inr x.2.2.2.2)))):=by kernel_rfl
theorem q5G {R:Type} (x:tN) (k:t9→Option R) (r:R) (h:q5C x k=some r):∃ o,Z5s (LE.step X q5A q5q q0 q5s 12) x o∧k o=some r:=by
 obtain ⟨o,h1,h2⟩:=Z0 h
 exact ⟨q5B x o,Zhl (st:=fun (x:tN)=>XD x.2.1 x.2.2.2.1 x.2.2.2.2) (prj:=fun x=>(x.1,x.2.2.1)) (emb:=q5D) (embO:=q5B) (fun x=>(q5E x).trans (by unfold XD XM;simp only [Zhd,Zh8,Zhe,Option.map_some,Option.map_none];rfl)) (fun _ _=>rfl) (fun _ _=>rfl) (fun _ _ _=>rfl) (fun _ _ _=>rfl) (fun _=>rfl) (Z1S.1 h1),by
  first
  | exact h2
  | (rcases o with o|o|o|o<;>exact h2)⟩
noncomputable def q5H {R:Type}:Z27 S R:=LE.ls X q5A q5C q5s
theorem q5I {R:Type}:Z3J X (q5H (R:=R)):=Zhq xok q5r (e:=q5A) q1 q5t q5G q5t
theorem q5J (x0:List Zk):Zhs X q5q [(.sl (.st 3))] [(.int .i64)] q0 q5H 12 103 (x0,())=X2g x0:=by kernel_rfl
noncomputable def q5K:F7 S:=⟨[(.sl (.st 3))],[(.int .i64)],fun xs=>X2g xs.1⟩
theorem q5L:Z7Q X 103 q5K:=Zho (Zhn xok q5r q1 q5I 12 103) fun xs _ h=>(q5J xs.1).trans h
noncomputable def q5M:List (Nat×F7 S):=[(73,q54)]
theorem q5N:Z9n X (q5M):=⟨q55,trivial⟩
abbrev q5O {R:Type}:Z27 S R:=Zgi
theorem q5P {R:Type}:Z3J X (q5O (R:=R)):=ZgQ X
theorem q5Q (x0:ZB) (x1:Int):Zhs X q5M [(.st 6),(.int .i64)] [(.int .i64)] q0 q5O 12 110 (x0,x1,())=X3F x0 x1:=by kernel_rfl
noncomputable def q5R:F7 S:=⟨[(.st 6),(.int .i64)],[(.int .i64)],fun xs=>X3F xs.1 xs.2.1⟩
theorem q5S:Z7Q X 110 q5R:=Zho (Zhn xok q5N q1 q5P 12 110) fun xs _ h=>(q5Q xs.1 xs.2.1).trans h
noncomputable def q5T:List (Nat×F7 S):=[]
theorem q5U:Z9n X (q5T):=trivial
abbrev q5V {R:Type}:Z27 S R:=Zgi
theorem q5W {R:Type}:Z3J X (q5V (R:=R)):=ZgQ X
theorem q5X (x0:Zu) (x1:Zu):Zhs X q5T [(.st 2),(.st 2)] [(.st 2)] q0 q5V 12 55 (x0,x1,())=X5p x0 x1:=by kernel_rfl
noncomputable def q5Y:F7 S:=⟨[(.st 2),(.st 2)],[(.st 2)],fun xs=>X5p xs.1 xs.2.1⟩
theorem q5Z:Z7Q X 55 q5Y:=Zho (Zhn xok q5U q1 q5W 12 55) fun xs _ h=>(q5X xs.1 xs.2.1).trans h
noncomputable def q60:List (Nat×F7 S):=[]
theorem q61:Z9n X (q60):=trivial
abbrev q62 {R:Type}:Z27 S R:=Zgi
theorem q63 {R:Type}:Z3J X (q62 (R:=R)):=ZgQ X
theorem q64 (x0:Zu) (x1:Zu):Zhs X q60 [(.st 2),(.st 2)] [(.int .i64)] q0 q62 12 75 (x0,x1,())=X5q x0 x1:=by kernel_rfl
noncomputable def q65:F7 S:=⟨[(.st 2),(.st 2)],[(.int .i64)],fun xs=>X5q xs.1 xs.2.1⟩
theorem q66:Z7Q X 75 q65:=Zho (Zhn xok q61 q1 q63 12 75) fun xs _ h=>(q64 xs.1 xs.2.1).trans h
noncomputable def q67:List (Nat×F7 S):=[(73,q54),(53,q5o),(110,q5R),(55,q5Y),(75,q65)]
theorem q68:Z9n X (q67):=⟨q55,q5p,q5S,q5Z,q66,trivial⟩
abbrev q69 {R:Type}:Z27 S R:=Zgi
theorem q6a {R:Type}:Z3J X (q69 (R:=R)):=ZgQ X
def q6b:Key:=⟨[27,6,4,113,1,104],104,(some 27),[0,0,1,0,1,0,1,0,1,0,1,1,1],3,66⟩
def q6c:StT S:=⟨(N (N L none (N v1m vK L)) none (N (N (N (N (N L vJ L) none L) none L) (some (.ptr 58 0)) L) (some (.ptr 1 0)) (N v1m none L))),oO,66⟩
def q6d:Way S:=⟨(.exit 3),⟨(N (N L none (N L vK L)) none (N (N L (some (.ptr 58 0)) L) (some (.ptr 1 0)) L)),oO,67⟩,[.int,(.st 15),.bool,.int,.bool,(.st 15),.bool,.int,(.st 15),(.st 17)]⟩
def q6e:LE S:=⟨q6b,q6c,[.int,.int,(.lst (.st 2)),.int,(.st 15),.bool,.int,.bool,(.st 15),.bool,.int,(.st 15),(.st 17)],[q6d]⟩
def q6f (x:tk):Int→ts:=fun y0=>(y0,x.2.2.2.2.1,x.2.2.2.2.2.1,x.2.2.2.2.2.2.1,x.2.2.2.2.2.2.2.1,x.2.2.2.2.2.2.2.2.1,x.2.2.2.2.2.2.2.2.2.1,x.2.2.2.2.2.2.2.2.2.2.1,x.2.2.2.2.2.2.2.2.2.2.2.1,x.2.2.2.2.2.2.2.2.2.2.2.2)
noncomputable def q6g {R:Type} (x:tk) (k:ts→Option R):Option R:=(XT x.1 x.2.2.1 x.2.2.2.2.1 x.2.2.2.2.2.1 x.2.2.2.2.2.2.1 x.2.2.2.2.2.2.2.1 x.2.2.2.2.2.2.2.2.1 x.2.2.2.2.2.2.2.2.2.1 x.2.2.2.2.2.2.2.2.2.2.1 x.2.2.2.2.2.2.2.2.2.2.2.1 x.2.2.2.2.2.2.2.2.2.2.2.2 (x.2.1,x.2.2.2.1)).bind (fun y0=>k (y0,x.2.2.2.2.1,x.2.2.2.2.2.1,x.2.2.2.2.2.2.1,x.2.2.2.2.2.2.2.1,x.2.2.2.2.2.2.2.2.1,x.2.2.2.2.2.2.2.2.2.1,x.2.2.2.2.2.2.2.2.2.2.1,x.2.2.2.2.2.2.2.2.2.2.2.1,x.2.2.2.2.2.2.2.2.2.2.2.2))
def q6h (x:tk) (v:(Int×Int)):tk:=(x.1,v.1,x.2.2.1,v.2,x.2.2.2.2.1,x.2.2.2.2.2.1,x.2.2.2.2.2.2.1,x.2.2.2.2.2.2.2.1,x.2.2.2.2.2.2.2.2.1,x.2.2.2.2.2.2.2.2.2.1,x.2.2.2.2.2.2.2.2.2.2.1,x.2.2.2.2.2.2.2.2.2.2.2.1,x.2.2.2.2.2.2.2.2.2.2.2.2)
theorem q6i (x:tk):LE.step X q6e q67 q0 q69 12 x=Xi x.1 x.2.2.1 x.2.2.2.2.1 x.2.2.2.2.2.1 x.2.2.2.2.2.2.1 x.2.2.2.2.2.2.2.1 x.2.2.2.2.2.2.2.2.1 x.2.2.2.2.2.2.2.2.2.1 x.2.2.2.2.2.2.2.2.2.2.1 x.2.2.2.2.2.2.2.2.2.2.2.1 x.2.2.2.2.2.2.2.2.2.2.2.2 x.2.1 x.2.2.2.1 (fun w0 w1=>(Sum.inl (x.1,w0,x.2.2.1,w1,x.2.2.2.2.1,x.2.2.2.2.2.1,x.2.2.2.2.2.2.1,x.2.2.2.2.2.2.2.1,x.2.2.2.2.2.2.2.2.1,x.2.2.2.2.2.2.2.2.2.1,x.2.2.2.2.2.2.2.2.2.2.1,x.2.2.2.2.2.2.2.2.2.2.2.1,x.2.2.2.2.2.2.2.2.2.2.2.2))) (fun p0=>(Sum.inr (p0,x.2.2.2.2.1,x.2.2.2.2.2.1,x.2.2.2.2.2.2.1,x.2.2.2.2.2.2.2.1,x.2.2.2.2.2.2.2.2.1,x.2.2.2.2.2.2.2.2.2.1,x.2.2.2.2.2.2.2.2.2.2.1,x.2.2.2.2.2.2.2.2.2.2.2.1,x.2.2.2.2.2.2.2.2.2.2.2.2))):=by kernel_rfl
theorem q6k {R:Type} (x:tk) (k:ts→Option R) (r:R) (h:q6g x k=some r):∃ o,Z5s (LE.step X q6e q67 q0 q69 12) x o∧k o=some r:=by
 obtain ⟨o,h1,h2⟩:=Z0 h
 exact ⟨q6f x o,Zhl (st:=fun (x:tk)=>Xc x.1 x.2.2.1 x.2.2.2.2.1 x.2.2.2.2.2.1 x.2.2.2.2.2.2.1 x.2.2.2.2.2.2.2.1 x.2.2.2.2.2.2.2.2.1 x.2.2.2.2.2.2.2.2.2.1 x.2.2.2.2.2.2.2.2.2.2.1 x.2.2.2.2.2.2.2.2.2.2.2.1 x.2.2.2.2.2.2.2.2.2.2.2.2) (prj:=fun x=>(x.2.1,x.2.2.2.1)) (emb:=q6h) (embO:=q6f) (fun x=>(q6i x).trans (by unfold Xc Xi;simp only [Zhd,Zh8,Zhe,Option.map_some,Option.map_none];rfl)) (fun _ _=>rfl) (fun _ _=>rfl) (fun _ _ _=>rfl) (fun _ _ _=>rfl) (fun _=>rfl) (Z1S.1 h1),by
  first
  | exact h2
  | (rcases o with o<;>exact h2)⟩
noncomputable def q6l {R:Type}:Z27 S R:=LE.ls X q6e q6g q69
theorem q6m {R:Type}:Z3J X (q6l (R:=R)):=Zhq xok q68 (e:=q6e) q1 q6a q6k q6a
def q6n:Key:=⟨[113,1,104],113,none,[0,0,1,1],0,45⟩
def q6o:StT S:=⟨(N (N (N L (some (.ptr 38 0)) (N (N L vK L) none L)) none L) (some (.yld 27)) (N v1l none (N (N (N L vJ L) none L) none L))),oP,45⟩
def q6p:Way S:=⟨.ret,⟨L,(N (N (N (N L none (N L o8 L)) none (N L none (N L (some (.loop 104 (N (N (N (N (N L vL L) none L) vK L) (some (.ptr 0 0)) (N (N L none (N L vL L)) none L)) vm (N (N (N L vL L) none (N L none (N L ve L))) (some (.ptr 1 0)) L)) (29::[]) .skip .skip 1 .ret (1::(104::[])) (0::(1::(0::(1::(1::(1::[])))))))) L))) ot L) o8 (N (N (N (N L none (N L oj L)) none L) none L) none (N (N L none (N L none (N L o9 L))) os o1q))),76⟩,[(.st 15),.bool,.int,.bool,(.st 15),.bool,.int,(.st 15),(.st 2),(.st 17),(.lst (.int .i64)),(.st 2)]⟩
def q6q:Way S:=⟨(.exit 0),⟨L,oP,46⟩,[(.st 15),.bool,.int,.bool,(.st 15),.bool,.int,(.st 15),(.lst (.int .i64)),(.st 2)]⟩
def q6r:LE S:=⟨q6n,q6o,[.int,.int,(.lst (.st 2)),(.st 15),.bool,.int,.bool,(.st 15),.bool,.int,(.st 15),(.lst (.int .i64)),(.st 2)],[q6p,q6q]⟩
def q6s (x:tj):((Int×Zu×Z6×Zu)⊕Zu)→t6:=Sum.elim (fun y0=>(.inl (x.2.2.2.1,x.2.2.2.2.1,x.2.2.2.2.2.1,x.2.2.2.2.2.2.1,x.2.2.2.2.2.2.2.1,x.2.2.2.2.2.2.2.2.1,y0.1,x.2.2.2.2.2.2.2.2.2.2.1,y0.2.1,y0.2.2.1,x.2.2.2.2.2.2.2.2.2.2.2.1,y0.2.2.2))) (fun y1=>(.inr (x.2.2.2.1,x.2.2.2.2.1,x.2.2.2.2.2.1,x.2.2.2.2.2.2.1,x.2.2.2.2.2.2.2.1,x.2.2.2.2.2.2.2.2.1,x.2.2.2.2.2.2.2.2.2.1,x.2.2.2.2.2.2.2.2.2.2.1,x.2.2.2.2.2.2.2.2.2.2.2.1,y1)))
noncomputable def q6t {R:Type} (x:tj) (k:t6→Option R):Option R:=(X29 x.1 x.2.2.1 x.2.2.2.1 x.2.2.2.2.1 x.2.2.2.2.2.1 x.2.2.2.2.2.2.1 x.2.2.2.2.2.2.2.1 x.2.2.2.2.2.2.2.2.1 x.2.2.2.2.2.2.2.2.2.1 x.2.2.2.2.2.2.2.2.2.2.1 x.2.2.2.2.2.2.2.2.2.2.2.1 (x.2.1,x.2.2.2.2.2.2.2.2.2.2.2.2)).bind (Sum.elim (fun y0=>k (.inl (x.2.2.2.1,x.2.2.2.2.1,x.2.2.2.2.2.1,x.2.2.2.2.2.2.1,x.2.2.2.2.2.2.2.1,x.2.2.2.2.2.2.2.2.1,y0.1,x.2.2.2.2.2.2.2.2.2.2.1,y0.2.1,y0.2.2.1,x.2.2.2.2.2.2.2.2.2.2.2.1,y0.2.2.2))) (fun y1=>k (.inr (x.2.2.2.1,x.2.2.2.2.1,x.2.2.2.2.2.1,x.2.2.2.2.2.2.1,x.2.2.2.2.2.2.2.1,x.2.2.2.2.2.2.2.2.1,x.2.2.2.2.2.2.2.2.2.1,x.2.2.2.2.2.2.2.2.2.2.1,x.2.2.2.2.2.2.2.2.2.2.2.1,y1))))
def q6u (x:tj) (v:(Int×Zu)):tj:=(x.1,v.1,x.2.2.1,x.2.2.2.1,x.2.2.2.2.1,x.2.2.2.2.2.1,x.2.2.2.2.2.2.1,x.2.2.2.2.2.2.2.1,x.2.2.2.2.2.2.2.2.1,x.2.2.2.2.2.2.2.2.2.1,x.2.2.2.2.2.2.2.2.2.2.1,x.2.2.2.2.2.2.2.2.2.2.2.1,v.2)
theorem q6v (x:tj):LE.step X q6r q67 q0 q6l 12 x=Xh x.1 x.2.2.1 x.2.2.2.1 x.2.2.2.2.1 x.2.2.2.2.2.1 x.2.2.2.2.2.2.1 x.2.2.2.2.2.2.2.1 x.2.2.2.2.2.2.2.2.1 x.2.2.2.2.2.2.2.2.2.1 x.2.2.2.2.2.2.2.2.2.2.1 x.2.2.2.2.2.2.2.2.2.2.2.1 x.2.1 x.2.2.2.2.2.2.2.2.2.2.2.2 (fun w0 w1=>(Sum.inl (x.1,w0,x.2.2.1,x.2.2.2.1,x.2.2.2.2.1,x.2.2.2.2.2.1,x.2.2.2.2.2.2.1,x.2.2.2.2.2.2.2.1,x.2.2.2.2.2.2.2.2.1,x.2.2.2.2.2.2.2.2.2.1,x.2.2.2.2.2.2.2.2.2.2.1,x.2.2.2.2.2.2.2.2.2.2.2.1,w1))) (fun p0 p1 p2 p3=>(Sum.inr (.inl (x.2.2.2.1,x.2.2.2.2.1,x.2.2.2.2.2.1,x.2.2.2.2.2.2.1,x.2.2.2.2.2.2.2.1,x.2.2.2.2.2.2.2.2.1,p0,x.2.2.2.2.2.2.2.2.2.2.1,p1,p2,x.2.2.2.2.2.2.2.2.2.2.2.1,p3)))) (fun p0=>(Sum.inr (.inr (x.2.2.2.1,x.2.2.2.2.1,x.2.2.2.2.2.1,x.2.2.2.2.2.2.1,x.2.2.2.2.2.2.2.1,x.2.2.2.2.2.2.2.2.1,x.2.2.2.2.2.2.2.2.2.1,x.2.2.2.2.2.2.2.2.2.2.1,x.2.2.2.2.2.2.2.2.2.2.2.1,p0)))):=by kernel_rfl
theorem q6x {R:Type} (x:tj) (k:t6→Option R) (r:R) (h:q6t x k=some r):∃ o,Z5s (LE.step X q6r q67 q0 q6l 12) x o∧k o=some r:=by
 obtain ⟨o,h1,h2⟩:=Z0 h
 exact ⟨q6s x o,Zhl (st:=fun (x:tj)=>Xb x.1 x.2.2.1 x.2.2.2.1 x.2.2.2.2.1 x.2.2.2.2.2.1 x.2.2.2.2.2.2.1 x.2.2.2.2.2.2.2.1 x.2.2.2.2.2.2.2.2.1 x.2.2.2.2.2.2.2.2.2.1 x.2.2.2.2.2.2.2.2.2.2.1 x.2.2.2.2.2.2.2.2.2.2.2.1) (prj:=fun x=>(x.2.1,x.2.2.2.2.2.2.2.2.2.2.2.2)) (emb:=q6u) (embO:=q6s) (fun x=>(q6v x).trans (by unfold Xb Xh;simp only [Zhd,Zh8,Zhe,Option.map_some,Option.map_none];rfl)) (fun _ _=>rfl) (fun _ _=>rfl) (fun _ _ _=>rfl) (fun _ _ _=>rfl) (fun _=>rfl) (Z1S.1 h1),by
  first
  | exact h2
  | (rcases o with o|o<;>exact h2)⟩
noncomputable def q6y {R:Type}:Z27 S R:=LE.ls X q6r q6t q6l
theorem q6z {R:Type}:Z3J X (q6y (R:=R)):=Zhq xok q68 (e:=q6r) q1 q6m q6x q6m
theorem q6A (x0:Z8):Zhs X q67 [(.st 15)] [(.int .i64)] q0 q6y 12 104 (x0,())=X15 x0:=by kernel_rfl
noncomputable def q6B:F7 S:=⟨[(.st 15)],[(.int .i64)],fun xs=>X15 xs.1⟩
theorem q6C:Z7Q X 104 q6B:=Zho (Zhn xok q68 q1 q6z 12 104) fun xs _ h=>(q6A xs.1).trans h
noncomputable def q6D:List (Nat×F7 S):=[(102,q4K),(53,q5o),(103,q5K),(104,q6B)]
theorem q6E:Z9n X (q6D):=⟨q4L,q5p,q5L,q6C,trivial⟩
abbrev q6F {R:Type}:Z27 S R:=Zgi
theorem q6G {R:Type}:Z3J X (q6F (R:=R)):=ZgQ X
def q6H:Key:=⟨[88],88,none,[0,0,1,0,1,1,1,1],0,17⟩
def q6I:StT S:=⟨(N (N v1l (some (.ptr 0 0)) L) none (N v1l none (N (N (N L (some (.sl (.st 4) [])) L) none L) vl L))),o1g,17⟩
def q6J:Way S:=⟨.ret,⟨v1f,o16,57⟩,[.int,.int,.int,(.st 4),(.st 8),(.mp .str (.int .i64))]⟩
def q6K:Way S:=⟨.ret,⟨v1f,o16,62⟩,[.int,.int,.int,(.st 4),(.st 8),(.mp .str (.int .i64))]⟩
def q6L:Way S:=⟨.ret,⟨v1f,oW,63⟩,[.int,.int,.int,(.st 4),(.st 8),(.mp .str (.int .i64)),(.lst (.st 2))]⟩
def q6M:Way S:=⟨.ret,⟨v1f,oW,66⟩,[.int,.int,.int,(.st 4),(.st 8),(.mp .str (.int .i64)),(.lst (.st 2))]⟩
def q6N:Way S:=⟨(.exit 0),⟨(N (N L (some (.ptr 0 0)) L) none (N L none (N L vl L))),o1g,18⟩,[(.st 8),(.mp .str (.int .i64))]⟩
def q6O:LE S:=⟨q6H,q6I,[.int,.int,(.lst (.st 4)),(.st 8),(.mp .str (.int .i64))],[q6J,q6K,q6L,q6M,q6N]⟩
def q6P (x:tF):((Int×Int×Int×Zw×t14)⊕(Int×Int×Int×Zw×t14)⊕(Int×Int×Int×Zw×t14×(List Zu))⊕(Int×Int×Int×Zw×t14×(List Zu))⊕t14)→t0:=Sum.elim (fun y0=>(.inl (y0.1,y0.2.1,y0.2.2.1,y0.2.2.2.1,x.2.2.2.1,y0.2.2.2.2))) (Sum.elim (fun y1=>(.inr (.inl (y1.1,y1.2.1,y1.2.2.1,y1.2.2.2.1,x.2.2.2.1,y1.2.2.2.2)))) (Sum.elim (fun y2=>(.inr (.inr (.inl (y2.1,y2.2.1,y2.2.2.1,y2.2.2.2.1,x.2.2.2.1,y2.2.2.2.2.1,y2.2.2.2.2.2))))) (Sum.elim (fun y3=>(.inr (.inr (.inr (.inl (y3.1,y3.2.1,y3.2.2.1,y3.2.2.2.1,x.2.2.2.1,y3.2.2.2.2.1,y3.2.2.2.2.2)))))) (fun y4=>(.inr (.inr (.inr (.inr (x.2.2.2.1,y4)))))))))
noncomputable def q6Q {R:Type} (x:tF) (k:t0→Option R):Option R:=(X35 x.1 x.2.2.1 x.2.2.2.1 (x.2.1,x.2.2.2.2)).bind (Sum.elim (fun y0=>k (.inl (y0.1,y0.2.1,y0.2.2.1,y0.2.2.2.1,x.2.2.2.1,y0.2.2.2.2))) (Sum.elim (fun y1=>k (.inr (.inl (y1.1,y1.2.1,y1.2.2.1,y1.2.2.2.1,x.2.2.2.1,y1.2.2.2.2)))) (Sum.elim (fun y2=>k (.inr (.inr (.inl (y2.1,y2.2.1,y2.2.2.1,y2.2.2.2.1,x.2.2.2.1,y2.2.2.2.2.1,y2.2.2.2.2.2))))) (Sum.elim (fun y3=>k (.inr (.inr (.inr (.inl (y3.1,y3.2.1,y3.2.2.1,y3.2.2.2.1,x.2.2.2.1,y3.2.2.2.2.1,y3.2.2.2.2.2)))))) (fun y4=>k (.inr (.inr (.inr (.inr (x.2.2.2.1,y4))))))))))
def q6R (x:tF) (v:(Int×t14)):tF:=(x.1,v.1,x.2.2.1,x.2.2.2.1,v.2)
theorem q6S (x:tF):LE.step X q6O q6D q0 q6F 12 x=W9 x.1 x.2.2.1 x.2.2.2.1 x.2.1 x.2.2.2.2 (fun w0 w1=>(Sum.inl (x.1,w0,x.2.2.1,x.2.2.2.1,w1))) (fun p0 p1 p2 p3 p4=>(Sum.inr (.inl (p0,p1,p2,p3,x.2.2.2.1,p4)))) (fun p0 p1 p2 p3 p4=>(Sum.inr (.inr (.inl (p0,p1,p2,p3,x.2.2.2.1,p4))))) (fun p0 p1 p2 p3 p4 p5=>(Sum.inr (.inr (.inr (.inl (p0,p1,p2,p3,x.2.2.2.1,p4,p5)))))) (fun p0 p1 p2 p3 p4 p5=>(Sum.inr (.inr (.inr (.inr (.inl (p0,p1,p2,p3,x.2.2.2.1,p4,p5))))))) (fun p0=>(Sum.inr (.inr (.inr (.inr (.inr (x.2.2.2.1,p0))))))):=by kernel_rfl
theorem q6U {R:Type} (x:tF) (k:t0→Option R) (r:R) (h:q6Q x k=some r):∃ o,Z5s (LE.step X q6O q6D q0 q6F 12) x o∧k o=some r:=by
 obtain ⟨o,h1,h2⟩:=Z0 h
 exact ⟨q6P x o,Zhl (st:=fun (x:tF)=>XR x.1 x.2.2.1 x.2.2.2.1) (prj:=fun x=>(x.2.1,x.2.2.2.2)) (emb:=q6R) (embO:=q6P) (fun x=>(q6S x).trans (by unfold XR W9;simp only [Zhd,Zh8,Zhe,Option.map_some,Option.map_none];rfl)) (fun _ _=>rfl) (fun _ _=>rfl) (fun _ _ _=>rfl) (fun _ _ _=>rfl) (fun _=>rfl) (Z1S.1 h1),by
  first
  | exact h2
  | (rcases o with o|o|o|o|o<;>exact h2)⟩
noncomputable def q6V {R:Type}:Z27 S R:=LE.ls X q6O q6Q q6F
theorem q6W {R:Type}:Z3J X (q6V (R:=R)):=Zhq xok q6E (e:=q6O) q1 q6G q6U q6G
def q6X:Key:=⟨[88],88,none,[0,0,1,0,1,1,1,1,1,1],2,26⟩
def q6Y:StT S:=⟨(N (N L none (N L none v1r)) none (N (N L none (N (N L none (N L (some (.sl (.st 7) [])) L)) none L)) none (N L vl v1r))),o1g,26⟩
def q6Z:Way S:=⟨.ret,⟨v1f,o15,58⟩,[.int,.int,.int,(.st 8),(.mp .str (.int .i64)),(.st 7)]⟩
def q70:Way S:=⟨.ret,⟨v1f,o15,63⟩,[.int,.int,.int,(.st 8),(.mp .str (.int .i64)),(.st 7)]⟩
def q71:Way S:=⟨.ret,⟨v1f,o15,67⟩,[.int,.int,.int,(.st 8),(.mp .str (.int .i64)),(.st 7)]⟩
def q72:Way S:=⟨(.exit 2),⟨L,o1g,27⟩,[(.st 8),(.mp .str (.int .i64))]⟩
def q73:LE S:=⟨q6X,q6Y,[.int,(.lst (.st 7)),.int,(.st 8),(.mp .str (.int .i64))],[q6Z,q70,q71,q72]⟩
def q74 (x:tG):(tK⊕tK⊕tK⊕t14)→t4:=Sum.elim (fun y0=>(.inl (y0.1,y0.2.1,y0.2.2.1,x.2.2.2.1,y0.2.2.2.1,y0.2.2.2.2))) (Sum.elim (fun y1=>(.inr (.inl (y1.1,y1.2.1,y1.2.2.1,x.2.2.2.1,y1.2.2.2.1,y1.2.2.2.2)))) (Sum.elim (fun y2=>(.inr (.inr (.inl (y2.1,y2.2.1,y2.2.2.1,x.2.2.2.1,y2.2.2.2.1,y2.2.2.2.2))))) (fun y3=>(.inr (.inr (.inr (x.2.2.2.1,y3)))))))
noncomputable def q75 {R:Type} (x:tG) (k:t4→Option R):Option R:=(X1e x.1 x.2.1 x.2.2.2.1 (x.2.2.1,x.2.2.2.2)).bind (Sum.elim (fun y0=>k (.inl (y0.1,y0.2.1,y0.2.2.1,x.2.2.2.1,y0.2.2.2.1,y0.2.2.2.2))) (Sum.elim (fun y1=>k (.inr (.inl (y1.1,y1.2.1,y1.2.2.1,x.2.2.2.1,y1.2.2.2.1,y1.2.2.2.2)))) (Sum.elim (fun y2=>k (.inr (.inr (.inl (y2.1,y2.2.1,y2.2.2.1,x.2.2.2.1,y2.2.2.2.1,y2.2.2.2.2))))) (fun y3=>k (.inr (.inr (.inr (x.2.2.2.1,y3))))))))
def q76 (x:tG) (v:(Int×t14)):tG:=(x.1,x.2.1,v.1,x.2.2.2.1,v.2)
theorem q77 (x:tG):LE.step X q73 q6D q0 q6V 12 x=Wa x.1 x.2.1 x.2.2.2.1 x.2.2.1 x.2.2.2.2 (fun w0 w1=>(Sum.inl (x.1,x.2.1,w0,x.2.2.2.1,w1))) (fun p0 p1 p2 p3 p4=>(Sum.inr (.inl (p0,p1,p2,x.2.2.2.1,p3,p4)))) (fun p0 p1 p2 p3 p4=>(Sum.inr (.inr (.inl (p0,p1,p2,x.2.2.2.1,p3,p4))))) (fun p0 p1 p2 p3 p4=>(Sum.inr (.inr (.inr (.inl (p0,p1,p2,x.2.2.2.1,p3,p4)))))) (fun p0=>(Sum.inr (.inr (.inr (.inr (x.2.2.2.1,p0)))))):=by kernel_rfl
theorem q79 {R:Type} (x:tG) (k:t4→Option R) (r:R) (h:q75 x k=some r):∃ o,Z5s (LE.step X q73 q6D q0 q6V 12) x o∧k o=some r:=by
 obtain ⟨o,h1,h2⟩:=Z0 h
 exact ⟨q74 x o,Zhl (st:=fun (x:tG)=>XS x.1 x.2.1 x.2.2.2.1) (prj:=fun x=>(x.2.2.1,x.2.2.2.2)) (emb:=q76) (embO:=q74) (fun x=>(q77 x).trans (by unfold XS Wa;simp only [Zhd,Zh8,Zhe,Option.map_some,Option.map_none];rfl)) (fun _ _=>rfl) (fun _ _=>rfl) (fun _ _ _=>rfl) (fun _ _ _=>rfl) (fun _=>rfl) (Z1S.1 h1),by
  first
  | exact h2
  | (rcases o with o|o|o|o<;>exact h2)⟩
noncomputable def q7a {R:Type}:Z27 S R:=LE.ls X q73 q75 q6V
theorem q7b {R:Type}:Z3J X (q7a (R:=R)):=Zhq xok q6E (e:=q73) q1 q6W q79 q6W
theorem q7c (x0:Zl):Zhs X q6D [(.st 8)] [(.int .i64),(.int .i64),(.int .i64)] q0 q7a 12 88 (x0,())=X28 x0:=by kernel_rfl
noncomputable def q7d:F7 S:=⟨[(.st 8)],[(.int .i64),(.int .i64),(.int .i64)],fun xs=>X28 xs.1⟩
theorem q7e:Z7Q X 88 q7d:=Zho (Zhn xok q6E q1 q7b 12 88) fun xs _ h=>(q7c xs.1).trans h
noncomputable def q7f:List (Nat×F7 S):=[]
theorem q7g:Z9n X (q7f):=trivial
abbrev q7h {R:Type}:Z27 S R:=Zgi
theorem q7i {R:Type}:Z3J X (q7h (R:=R)):=ZgQ X
def q7j:Key:=⟨[81,2,1,58,2,1,41],81,none,[0,0,1,0,1],0,17⟩
def q7k:StT S:=⟨(N (N (N (N L vK L) none L) (some (.fn (.func 59) [] [(.ptr 0 0),(.ptr 1 0)])) L) (some (.sl (.int .i64) [])) v1m),(N (N L ov L) ov L),17⟩
def q7l:Way S:=⟨.ret,⟨v1l,(N (N L ov L) ov L),38⟩,[.int,.int,.int]⟩
def q7m:Way S:=⟨(.exit 0),⟨L,(N (N L ov L) ov L),18⟩,[.int,.int]⟩
def q7n:LE S:=⟨q7j,q7k,[.int,(.lst (.int .i64)),.int,.int,.int],[q7l,q7m]⟩
def q7o (x:tR):(Int⊕Unit)→tX:=Sum.elim (fun y0=>(.inl (y0,x.2.2.2.1,x.2.2.2.2))) (fun y1=>(.inr (x.2.2.2.1,x.2.2.2.2)))
noncomputable def q7p {R:Type} (x:tR) (k:tX→Option R):Option R:=(X3d x.1 x.2.1 x.2.2.2.1 x.2.2.2.2 x.2.2.1).bind (Sum.elim (fun y0=>k (.inl (y0,x.2.2.2.1,x.2.2.2.2))) (fun y1=>k (.inr (x.2.2.2.1,x.2.2.2.2))))
def q7q (x:tR) (v:Int):tR:=(x.1,x.2.1,v,x.2.2.2.1,x.2.2.2.2)
theorem q7r (x:tR):LE.step X q7n q7f q0 q7h 12 x=Wf x.1 x.2.1 x.2.2.2.1 x.2.2.2.2 x.2.2.1 (fun w0=>(Sum.inl (x.1,x.2.1,w0,x.2.2.2.1,x.2.2.2.2))) (fun p0=>(Sum.inr (.inl (p0,x.2.2.2.1,x.2.2.2.2)))) (Sum.inr (.inr (x.2.2.2.1,x.2.2.2.2))):=by kernel_rfl
theorem q7t {R:Type} (x:tR) (k:tX→Option R) (r:R) (h:q7p x k=some r):∃ o,Z5s (LE.step X q7n q7f q0 q7h 12) x o∧k o=some r:=by
 obtain ⟨o,h1,h2⟩:=Z0 h
 exact ⟨q7o x o,Zhl (st:=fun (x:tR)=>XZ x.1 x.2.1 x.2.2.2.1 x.2.2.2.2) (prj:=fun x=>x.2.2.1) (emb:=q7q) (embO:=q7o) (fun x=>(q7r x).trans (by unfold XZ Wf;simp only [Zhd,Zh8,Zhe,Option.map_some,Option.map_none];rfl)) (fun _ _=>rfl) (fun _ _=>rfl) (fun _ _ _=>rfl) (fun _ _ _=>rfl) (fun _=>rfl) (Z1S.1 h1),by
  first
  | exact h2
  | (rcases o with o|o<;>exact h2)⟩
noncomputable def q7u {R:Type}:Z27 S R:=LE.ls X q7n q7p q7h
theorem q7v {R:Type}:Z3J X (q7u (R:=R)):=Zhq xok q7g (e:=q7n) q1 q7i q7t q7i
theorem q7w (x0:Int) (x1:Int) (x2:List Int):Zhs X q7f [(.int .i64),(.int .i64),(.sl (.int .i64))] [.bool] q0 q7u 12 41 (x0,x1,x2,())=X1o x0 x1 x2:=by kernel_rfl
noncomputable def q7x:F7 S:=⟨[(.int .i64),(.int .i64),(.sl (.int .i64))],[.bool],fun xs=>X2 xs.1 xs.2.1 xs.2.2.1⟩
theorem q7y:Z7Q X 41 q7x:=Zho (Zhn xok q7g q1 q7v 12 41) fun xs _ h=>((q7w xs.1 xs.2.1 xs.2.2.1).trans (X4h xs.1 xs.2.1 xs.2.2.1).symm).trans h
noncomputable def q7z:List (Nat×F7 S):=[(102,q4K),(41,q7x)]
theorem q7A:Z9n X (q7z):=⟨q4L,q7y,trivial⟩
abbrev q7B {R:Type}:Z27 S R:=Zgi
theorem q7C {R:Type}:Z3J X (q7B (R:=R)):=ZgQ X
def q7D:Key:=⟨[112,2,1,106,2,6,94],112,none,[0,0,1,0,1],0,25⟩
def q7E:StT S:=⟨vX,(N L ob L),25⟩
def q7F:Way S:=⟨.ret,⟨v1l,(N L ob o1c),44⟩,[.int,(.st 18),(.st 18)]⟩
def q7G:Way S:=⟨(.exit 0),⟨L,(N L ob L),26⟩,[(.st 18)]⟩
def q7H:LE S:=⟨q7D,q7E,[.int,(.lst (.st 18)),.int,(.st 18)],[q7F,q7G]⟩
def q7I (x:tM):((Int×Z5)⊕Unit)→tL:=Sum.elim (fun y0=>(.inl (y0.1,x.2.2.2,y0.2))) (fun y1=>(.inr x.2.2.2))
noncomputable def q7J {R:Type} (x:tM) (k:tL→Option R):Option R:=(X1s x.1 x.2.1 x.2.2.2 x.2.2.1).bind (Sum.elim (fun y0=>k (.inl (y0.1,x.2.2.2,y0.2))) (fun y1=>k (.inr x.2.2.2)))
def q7K (x:tM) (v:Int):tM:=(x.1,x.2.1,v,x.2.2.2)
theorem q7L (x:tM):LE.step X q7H q7z q0 q7B 12 x=Xx x.1 x.2.1 x.2.2.2 x.2.2.1 (fun w0=>(Sum.inl (x.1,x.2.1,w0,x.2.2.2))) (fun p0 p1=>(Sum.inr (.inl (p0,x.2.2.2,p1)))) (Sum.inr (.inr x.2.2.2)):=by kernel_rfl
theorem q7N {R:Type} (x:tM) (k:tL→Option R) (r:R) (h:q7J x k=some r):∃ o,Z5s (LE.step X q7H q7z q0 q7B 12) x o∧k o=some r:=by
 obtain ⟨o,h1,h2⟩:=Z0 h
 exact ⟨q7I x o,Zhl (st:=fun (x:tM)=>Xr x.1 x.2.1 x.2.2.2) (prj:=fun x=>x.2.2.1) (emb:=q7K) (embO:=q7I) (fun x=>(q7L x).trans (by unfold Xr Xx;simp only [Zhd,Zh8,Zhe,Option.map_some,Option.map_none];rfl)) (fun _ _=>rfl) (fun _ _=>rfl) (fun _ _ _=>rfl) (fun _ _ _=>rfl) (fun _=>rfl) (Z1S.1 h1),by
  first
  | exact h2
  | (rcases o with o|o<;>exact h2)⟩
noncomputable def q7O {R:Type}:Z27 S R:=LE.ls X q7H q7J q7B
theorem q7P {R:Type}:Z3J X (q7O (R:=R)):=Zhq xok q7A (e:=q7H) q1 q7C q7N q7C
def q7Q:Key:=⟨[112,2,1,106,2,6,94],112,none,[0,0,1,0,1],0,24⟩
def q7R:StT S:=⟨vX,(N L ob L),24⟩
def q7S:Way S:=⟨.ret,⟨v1l,(N o1c ob L),43⟩,[.int,(.st 18),(.st 18)]⟩
def q7T:Way S:=⟨(.exit 0),⟨L,(N L ob L),25⟩,[(.st 18)]⟩
def q7U:LE S:=⟨q7Q,q7R,[.int,(.lst (.st 18)),.int,(.st 18)],[q7S,q7T]⟩
def q7V (x:tM):((Int×Z5)⊕Unit)→tL:=Sum.elim (fun y0=>(.inl (y0.1,y0.2,x.2.2.2))) (fun y1=>(.inr x.2.2.2))
noncomputable def q7W {R:Type} (x:tM) (k:tL→Option R):Option R:=(X1t x.1 x.2.1 x.2.2.2 x.2.2.1).bind (Sum.elim (fun y0=>k (.inl (y0.1,y0.2,x.2.2.2))) (fun y1=>k (.inr x.2.2.2)))
def q7X (x:tM) (v:Int):tM:=(x.1,x.2.1,v,x.2.2.2)
theorem q7Y (x:tM):LE.step X q7U q7z q0 q7O 12 x=Xy x.1 x.2.1 x.2.2.2 x.2.2.1 (fun w0=>(Sum.inl (x.1,x.2.1,w0,x.2.2.2))) (fun p0 p1=>(Sum.inr (.inl (p0,p1,x.2.2.2)))) (Sum.inr (.inr x.2.2.2)):=by kernel_rfl
theorem q80 {R:Type} (x:tM) (k:tL→Option R) (r:R) (h:q7W x k=some r):∃ o,Z5s (LE.step X q7U q7z q0 q7O 12) x o∧k o=some r:=by
 obtain ⟨o,h1,h2⟩:=Z0 h
 exact ⟨q7V x o,Zhl (st:=fun (x:tM)=>Xs x.1 x.2.1 x.2.2.2) (prj:=fun x=>x.2.2.1) (emb:=q7X) (embO:=q7V) (fun x=>(q7Y x).trans (by unfold Xs Xy;simp only [Zhd,Zh8,Zhe,Option.map_some,Option.map_none];rfl)) (fun _ _=>rfl) (fun _ _=>rfl) (fun _ _ _=>rfl) (fun _ _ _=>rfl) (fun _=>rfl) (Z1S.1 h1),by
  first
  | exact h2
  | (rcases o with o|o<;>exact h2)⟩
noncomputable def q81 {R:Type}:Z27 S R:=LE.ls X q7U q7W q7O
theorem q82 {R:Type}:Z3J X (q81 (R:=R)):=Zhq xok q7A (e:=q7U) q1 q7P q80 q7P
theorem q83 (x0:Z5) (x1:List Z5):Zhs X q7z [(.st 18),(.sl (.st 18))] [(.int .i64)] q0 q81 12 94 (x0,x1,())=Wy x0 x1:=by kernel_rfl
noncomputable def q84:F7 S:=⟨[(.st 18),(.sl (.st 18))],[(.int .i64)],fun xs=>X2w xs.1 xs.2.1⟩
theorem q85:Z7Q X 94 q84:=Zho (Zhn xok q7A q1 q82 12 94) fun xs _ h=>((q83 xs.1 xs.2.1).trans (X3o xs.1 xs.2.1).symm).trans h
noncomputable def q86:List (Nat×F7 S):=[(41,q7x)]
theorem q87:Z9n X (q86):=⟨q7y,trivial⟩
abbrev q88 {R:Type}:Z27 S R:=Zgi
theorem q89 {R:Type}:Z3J X (q88 (R:=R)):=ZgQ X
theorem q8a (x0:Zt):Zhs X q86 [(.st 19)] [(.int .i64)] q0 q88 12 97 (x0,())=X2j x0:=by kernel_rfl
noncomputable def q8b:F7 S:=⟨[(.st 19)],[(.int .i64)],fun xs=>X4O xs.1⟩
theorem q8c:Z7Q X 97 q8b:=Zho (Zhn xok q87 q1 q89 12 97) fun xs _ h=>((q8a xs.1).trans (X56 xs.1).symm).trans h
noncomputable def q8d:List (Nat×F7 S):=[(97,q8b)]
theorem q8e:Z9n X (q8d):=⟨q8c,trivial⟩
abbrev q8f {R:Type}:Z27 S R:=Zgi
theorem q8g {R:Type}:Z3J X (q8f (R:=R)):=ZgQ X
theorem q8h (x0:Int) (x1:Zt):Zhs X q8d [(.int .i64),(.st 19)] [(.int .i64)] q0 q8f 12 96 (x0,x1,())=X1m x0 x1:=by kernel_rfl
noncomputable def q8i:F7 S:=⟨[(.int .i64),(.st 19)],[(.int .i64)],fun xs=>X2N xs.1 xs.2.1⟩
theorem q8j:Z7Q X 96 q8i:=Zho (Zhn xok q8e q1 q8g 12 96) fun xs _ h=>((q8h xs.1 xs.2.1).trans (X4b xs.1 xs.2.1).symm).trans h
noncomputable def q8k:List (Nat×F7 S):=[(88,q7d),(41,q7x),(94,q84),(96,q8i)]
theorem q8l:Z9n X (q8k):=⟨q7e,q7y,q85,q8j,trivial⟩
abbrev q8m {R:Type}:Z27 S R:=Zgi
theorem q8n {R:Type}:Z3J X (q8m (R:=R)):=ZgQ X
def q8o:Key:=⟨[92,3,8,76],92,none,[0,0,1,0,1],0,51⟩
def q8p:StT S:=⟨(N (N (N L none (N L vK L)) (some (.fn (.func 93) [] [(.ptr 0 0)])) (N (N L vH L) none L)) none v1l),(N L oa L),51⟩
def q8q:Way S:=⟨.ret,⟨v1e,(N (N (N (N (N (N (N L ob L) none L) none L) none (N L none (N L ob L))) none L) none L) oa L),78⟩,[.int,.int,(.st 18),(.st 18),(.st 20)]⟩
def q8r:Way S:=⟨(.exit 0),⟨L,(N L oa L),52⟩,[(.st 20)]⟩
def q8s:LE S:=⟨q8o,q8p,[.int,(.lst (.st 18)),.int,(.st 20)],[q8q,q8r]⟩
def q8t (x:tO):((Int×Int×Z5×Z5)⊕Unit)→tI:=Sum.elim (fun y0=>(.inl (y0.1,y0.2.1,y0.2.2.1,y0.2.2.2,x.2.2.2))) (fun y1=>(.inr x.2.2.2))
noncomputable def q8u {R:Type} (x:tO) (k:tI→Option R):Option R:=(X2K x.2.1 x.2.2.1 x.2.2.2 x.1).bind (Sum.elim (fun y0=>k (.inl (y0.1,y0.2.1,y0.2.2.1,y0.2.2.2,x.2.2.2))) (fun y1=>k (.inr x.2.2.2)))
def q8v (x:tO) (v:Int):tO:=(v,x.2.1,x.2.2.1,x.2.2.2)
theorem q8w (x:tO):LE.step X q8s q8k q0 q8m 12 x=WT x.2.1 x.2.2.1 x.2.2.2 x.1 (fun w0=>(Sum.inl (w0,x.2.1,x.2.2.1,x.2.2.2))) (fun p0 p1 p2 p3=>(Sum.inr (.inl (p0,p1,p2,p3,x.2.2.2)))) (Sum.inr (.inr x.2.2.2)):=by kernel_rfl
theorem q8y {R:Type} (x:tO) (k:tI→Option R) (r:R) (h:q8u x k=some r):∃ o,Z5s (LE.step X q8s q8k q0 q8m 12) x o∧k o=some r:=by
 obtain ⟨o,h1,h2⟩:=Z0 h
 exact ⟨q8t x o,Zhl (st:=fun (x:tO)=>WN x.2.1 x.2.2.1 x.2.2.2) (prj:=fun x=>x.1) (emb:=q8v) (embO:=q8t) (fun x=>(q8w x).trans (by unfold WN WT;simp only [Zhd,Zh8,Zhe,Option.map_some,Option.map_none];rfl)) (fun _ _=>rfl) (fun _ _=>rfl) (fun _ _ _=>rfl) (fun _ _ _=>rfl) (fun _=>rfl) (Z1S.1 h1),by
  first
  | exact h2
  | (rcases o with o|o<;>exact h2)⟩
noncomputable def q8z {R:Type}:Z27 S R:=LE.ls X q8s q8u q8m
theorem q8A {R:Type}:Z3J X (q8z (R:=R)):=Zhq xok q8l (e:=q8s) q1 q8n q8y q8n
def q8B:Key:=⟨[95,2,13,76],95,none,[0,0,1,0,1],0,97⟩
def q8C:StT S:=⟨vS,L,97⟩
def q8D:Way S:=⟨.ret,⟨v1e,(N (N L none (N L none (N (N (N L none (N L oc L)) none L) none L))) none L),115⟩,[.int,.int,(.st 19)]⟩
def q8E:Way S:=⟨(.exit 0),⟨L,L,98⟩,[]⟩
def q8F:LE S:=⟨q8B,q8C,[.int,(.lst (.st 19)),.int],[q8D,q8E]⟩
def q8G (x:t13):t11→t11:=Sum.elim (fun y0=>(.inl (y0.1,y0.2.1,y0.2.2))) (fun y1=>(.inr ()))
noncomputable def q8H {R:Type} (x:t13) (k:t11→Option R):Option R:=(X2L x.2.1 x.2.2 x.1).bind (Sum.elim (fun y0=>k (.inl (y0.1,y0.2.1,y0.2.2))) (fun y1=>k (.inr ())))
def q8I (x:t13) (v:Int):t13:=(v,x.2.1,x.2.2)
theorem q8J (x:t13):LE.step X q8F q8k q0 q8z 12 x=WU x.2.1 x.2.2 x.1 (fun w0=>(Sum.inl (w0,x.2.1,x.2.2))) (fun p0 p1 p2=>(Sum.inr (.inl (p0,p1,p2)))) (Sum.inr (.inr ())):=by kernel_rfl
theorem q8L {R:Type} (x:t13) (k:t11→Option R) (r:R) (h:q8H x k=some r):∃ o,Z5s (LE.step X q8F q8k q0 q8z 12) x o∧k o=some r:=by
 obtain ⟨o,h1,h2⟩:=Z0 h
 exact ⟨q8G x o,Zhl (st:=fun (x:t13)=>WO x.2.1 x.2.2) (prj:=fun x=>x.1) (emb:=q8I) (embO:=q8G) (fun x=>(q8J x).trans (by unfold WO WU;simp only [Zhd,Zh8,Zhe,Option.map_some,Option.map_none];rfl)) (fun _ _=>rfl) (fun _ _=>rfl) (fun _ _ _=>rfl) (fun _ _ _=>rfl) (fun _=>rfl) (Z1S.1 h1),by
  first
  | exact h2
  | (rcases o with o|o<;>exact h2)⟩
noncomputable def q8M {R:Type}:Z27 S R:=LE.ls X q8F q8H q8z
theorem q8N {R:Type}:Z3J X (q8M (R:=R)):=Zhq xok q8l (e:=q8F) q1 q8A q8L q8A
def q8O:Key:=⟨[95,2,13,76],95,none,[0,0,1,0,1],0,73⟩
def q8P:StT S:=⟨vS,L,73⟩
def q8Q:Way S:=⟨.ret,⟨v1e,(N (N L none (N L none (N L none (N (N (N L oc L) none L) none L)))) none L),91⟩,[.int,.int,(.st 19)]⟩
def q8R:Way S:=⟨(.exit 0),⟨L,L,74⟩,[]⟩
def q8S:LE S:=⟨q8O,q8P,[.int,(.lst (.st 19)),.int],[q8Q,q8R]⟩
def q8T (x:t13):t11→t11:=Sum.elim (fun y0=>(.inl (y0.1,y0.2.1,y0.2.2))) (fun y1=>(.inr ()))
noncomputable def q8U {R:Type} (x:t13) (k:t11→Option R):Option R:=(X1I x.2.1 x.2.2 x.1).bind (Sum.elim (fun y0=>k (.inl (y0.1,y0.2.1,y0.2.2))) (fun y1=>k (.inr ())))
def q8V (x:t13) (v:Int):t13:=(v,x.2.1,x.2.2)
theorem q8W (x:t13):LE.step X q8S q8k q0 q8M 12 x=X2i x.2.1 x.2.2 x.1 (fun w0=>(Sum.inl (w0,x.2.1,x.2.2))) (fun p0 p1 p2=>(Sum.inr (.inl (p0,p1,p2)))) (Sum.inr (.inr ())):=by kernel_rfl
theorem q8Y {R:Type} (x:t13) (k:t11→Option R) (r:R) (h:q8U x k=some r):∃ o,Z5s (LE.step X q8S q8k q0 q8M 12) x o∧k o=some r:=by
 obtain ⟨o,h1,h2⟩:=Z0 h
 exact ⟨q8T x o,Zhl (st:=fun (x:t13)=>X2V x.2.1 x.2.2) (prj:=fun x=>x.1) (emb:=q8V) (embO:=q8T) (fun x=>(q8W x).trans (by unfold X2V X2i;simp only [Zhd,Zh8,Zhe,Option.map_some,Option.map_none];rfl)) (fun _ _=>rfl) (fun _ _=>rfl) (fun _ _ _=>rfl) (fun _ _ _=>rfl) (fun _=>rfl) (Z1S.1 h1),by
  first
  | exact h2
  | (rcases o with o|o<;>exact h2)⟩
noncomputable def q8Z {R:Type}:Z27 S R:=LE.ls X q8S q8U q8M
theorem q90 {R:Type}:Z3J X (q8Z (R:=R)):=Zhq xok q8l (e:=q8S) q1 q8N q8Y q8N
theorem q91 (x0:ZJ):Zhs X q8k [(.st 20)] [(.int .i64),(.int .i64),(.int .i64)] q0 q8Z 12 76 (x0,())=X1S x0:=by kernel_rfl
noncomputable def q92:F7 S:=⟨[(.st 20)],[(.int .i64),(.int .i64),(.int .i64)],fun xs=>X4t xs.1⟩
theorem q93:Z7Q X 76 q92:=Zho (Zhn xok q8l q1 q90 12 76) fun xs _ h=>((q91 xs.1).trans (X4M xs.1).symm).trans h
noncomputable def q94:List (Nat×F7 S):=[(88,q7d),(73,q54)]
theorem q95:Z9n X (q94):=⟨q7e,q55,trivial⟩
abbrev q96 {R:Type}:Z27 S R:=Zgi
theorem q97 {R:Type}:Z3J X (q96 (R:=R)):=ZgQ X
def q98:Key:=⟨[105,1,70],105,none,[0,0,1],0,45⟩
def q99:StT S:=⟨(N (N (N L vK L) (some (.ptr 36 0)) L) (some (.yld 40)) L),oN,45⟩
def q9a:Way S:=⟨.ret,⟨L,(N (N (N (N L none (N L none (N L ok L))) ov L) ov L) oh (N (N (N (N L os L) none (N (N L (some (.loop 70 (N (N (N (N L (some (.ptr 3 0)) L) (some (.ptr 0 0)) (N L none (N (N L vf L) vL L))) vK (N (N (N L vL L) none L) none L)) vq (N (N (N L (some (.ptr 4 0)) L) (some (.ptr 1 0)) L) vK (N L (some (.ptr 2 0)) (N (N L vL L) none L)))) (44::(45::[])) .skip .skip 1 .ret (1::(70::[])) (0::(1::(0::(1::(1::(1::(1::[]))))))))) L) os L)) ot (N (N (N L on L) none L) none L)) oi L)),67⟩,[(.st 3),.int,.int,(.st 8),(.lst (.int .i64)),.bool,.int,.bool,(.st 8),.int,.bool,(.lst (.int .i64)),.int,(.lst (.st 3)),(.st 4)]⟩
def q9b:Way S:=⟨(.exit 0),⟨L,oN,47⟩,[.int,.int,(.st 8),(.lst (.int .i64)),.bool,.int,.bool,(.st 8),.int,.bool,(.lst (.int .i64)),.int,(.lst (.st 3)),(.st 4)]⟩
def q9c:LE S:=⟨q98,q99,[.int,.int,.int,(.st 8),(.lst (.int .i64)),.bool,.int,.bool,(.st 8),.int,.bool,(.lst (.int .i64)),.int,(.lst (.st 3)),(.st 4)],[q9a,q9b]⟩
def q9d (x:tg):((Zk×Int×Int)⊕Unit)→t3:=Sum.elim (fun y0=>(.inl (y0.1,y0.2.1,x.2.2.1,x.2.2.2.1,x.2.2.2.2.1,x.2.2.2.2.2.1,x.2.2.2.2.2.2.1,x.2.2.2.2.2.2.2.1,x.2.2.2.2.2.2.2.2.1,x.2.2.2.2.2.2.2.2.2.1,x.2.2.2.2.2.2.2.2.2.2.1,x.2.2.2.2.2.2.2.2.2.2.2.1,y0.2.2,x.2.2.2.2.2.2.2.2.2.2.2.2.2.1,x.2.2.2.2.2.2.2.2.2.2.2.2.2.2))) (fun y1=>(.inr (x.2.1,x.2.2.1,x.2.2.2.1,x.2.2.2.2.1,x.2.2.2.2.2.1,x.2.2.2.2.2.2.1,x.2.2.2.2.2.2.2.1,x.2.2.2.2.2.2.2.2.1,x.2.2.2.2.2.2.2.2.2.1,x.2.2.2.2.2.2.2.2.2.2.1,x.2.2.2.2.2.2.2.2.2.2.2.1,x.2.2.2.2.2.2.2.2.2.2.2.2.1,x.2.2.2.2.2.2.2.2.2.2.2.2.2.1,x.2.2.2.2.2.2.2.2.2.2.2.2.2.2)))
noncomputable def q9e {R:Type} (x:tg) (k:t3→Option R):Option R:=(WZ x.2.2.1 x.2.2.2.2.2.2.2.2.2.2.2.2.2.1 x.1).bind (Sum.elim (fun y0=>k (.inl (y0.1,y0.2.1,x.2.2.1,x.2.2.2.1,x.2.2.2.2.1,x.2.2.2.2.2.1,x.2.2.2.2.2.2.1,x.2.2.2.2.2.2.2.1,x.2.2.2.2.2.2.2.2.1,x.2.2.2.2.2.2.2.2.2.1,x.2.2.2.2.2.2.2.2.2.2.1,x.2.2.2.2.2.2.2.2.2.2.2.1,y0.2.2,x.2.2.2.2.2.2.2.2.2.2.2.2.2.1,x.2.2.2.2.2.2.2.2.2.2.2.2.2.2))) (fun y1=>k (.inr (x.2.1,x.2.2.1,x.2.2.2.1,x.2.2.2.2.1,x.2.2.2.2.2.1,x.2.2.2.2.2.2.1,x.2.2.2.2.2.2.2.1,x.2.2.2.2.2.2.2.2.1,x.2.2.2.2.2.2.2.2.2.1,x.2.2.2.2.2.2.2.2.2.2.1,x.2.2.2.2.2.2.2.2.2.2.2.1,x.2.2.2.2.2.2.2.2.2.2.2.2.1,x.2.2.2.2.2.2.2.2.2.2.2.2.2.1,x.2.2.2.2.2.2.2.2.2.2.2.2.2.2))))
def q9f (x:tg) (v:Int):tg:=(v,x.2.1,x.2.2.1,x.2.2.2.1,x.2.2.2.2.1,x.2.2.2.2.2.1,x.2.2.2.2.2.2.1,x.2.2.2.2.2.2.2.1,x.2.2.2.2.2.2.2.2.1,x.2.2.2.2.2.2.2.2.2.1,x.2.2.2.2.2.2.2.2.2.2.1,x.2.2.2.2.2.2.2.2.2.2.2.1,x.2.2.2.2.2.2.2.2.2.2.2.2.1,x.2.2.2.2.2.2.2.2.2.2.2.2.2.1,x.2.2.2.2.2.2.2.2.2.2.2.2.2.2)
theorem q9g (x:tg):LE.step X q9c q94 q0 q96 12 x=XK x.2.2.1 x.2.2.2.2.2.2.2.2.2.2.2.2.2.1 x.1 (fun w0=>(Sum.inl (w0,x.2.1,x.2.2.1,x.2.2.2.1,x.2.2.2.2.1,x.2.2.2.2.2.1,x.2.2.2.2.2.2.1,x.2.2.2.2.2.2.2.1,x.2.2.2.2.2.2.2.2.1,x.2.2.2.2.2.2.2.2.2.1,x.2.2.2.2.2.2.2.2.2.2.1,x.2.2.2.2.2.2.2.2.2.2.2.1,x.2.2.2.2.2.2.2.2.2.2.2.2.1,x.2.2.2.2.2.2.2.2.2.2.2.2.2.1,x.2.2.2.2.2.2.2.2.2.2.2.2.2.2))) (fun p0 p1 p2=>(Sum.inr (.inl (p0,p1,x.2.2.1,x.2.2.2.1,x.2.2.2.2.1,x.2.2.2.2.2.1,x.2.2.2.2.2.2.1,x.2.2.2.2.2.2.2.1,x.2.2.2.2.2.2.2.2.1,x.2.2.2.2.2.2.2.2.2.1,x.2.2.2.2.2.2.2.2.2.2.1,x.2.2.2.2.2.2.2.2.2.2.2.1,p2,x.2.2.2.2.2.2.2.2.2.2.2.2.2.1,x.2.2.2.2.2.2.2.2.2.2.2.2.2.2)))) (Sum.inr (.inr (x.2.1,x.2.2.1,x.2.2.2.1,x.2.2.2.2.1,x.2.2.2.2.2.1,x.2.2.2.2.2.2.1,x.2.2.2.2.2.2.2.1,x.2.2.2.2.2.2.2.2.1,x.2.2.2.2.2.2.2.2.2.1,x.2.2.2.2.2.2.2.2.2.2.1,x.2.2.2.2.2.2.2.2.2.2.2.1,x.2.2.2.2.2.2.2.2.2.2.2.2.1,x.2.2.2.2.2.2.2.2.2.2.2.2.2.1,x.2.2.2.2.2.2.2.2.2.2.2.2.2.2))):=by kernel_rfl
theorem q9i {R:Type} (x:tg) (k:t3→Option R) (r:R) (h:q9e x k=some r):∃ o,Z5s (LE.step X q9c q94 q0 q96 12) x o∧k o=some r:=by
 obtain ⟨o,h1,h2⟩:=Z0 h
 exact ⟨q9d x o,Zhl (st:=fun (x:tg)=>XC x.2.2.1 x.2.2.2.2.2.2.2.2.2.2.2.2.2.1) (prj:=fun x=>x.1) (emb:=q9f) (embO:=q9d) (fun x=>(q9g x).trans (by unfold XC XK;simp only [Zhd,Zh8,Zhe,Option.map_some,Option.map_none];rfl)) (fun _ _=>rfl) (fun _ _=>rfl) (fun _ _ _=>rfl) (fun _ _ _=>rfl) (fun _=>rfl) (Z1S.1 h1),by
  first
  | exact h2
  | (rcases o with o|o<;>exact h2)⟩
noncomputable def q9j {R:Type}:Z27 S R:=LE.ls X q9c q9e q96
theorem q9k {R:Type}:Z3J X (q9j (R:=R)):=Zhq xok q95 (e:=q9c) q1 q97 q9i q97
theorem q9l (x0:Zl) (x1:Int) (x2:Int):Zhs X q94 [(.st 8),(.int .i64),(.int .i64)] [(.st 4),(.int .i64),(.int .i64)] q0 q9j 12 70 (x0,x1,x2,())=X14 x0 x1 x2:=by kernel_rfl
noncomputable def q9m:F7 S:=⟨[(.st 8),(.int .i64),(.int .i64)],[(.st 4),(.int .i64),(.int .i64)],fun xs=>X2f xs.1 xs.2.1 xs.2.2.1⟩
theorem q9n:Z7Q X 70 q9m:=Zho (Zhn xok q95 q1 q9k 12 70) fun xs _ h=>((q9l xs.1 xs.2.1 xs.2.2.1).trans (X40 xs.1 xs.2.1 xs.2.2.1).symm).trans h
noncomputable def q9o:List (Nat×F7 S):=[(70,q9m)]
theorem q9p:Z9n X (q9o):=⟨q9n,trivial⟩
abbrev q9q {R:Type}:Z27 S R:=Zgi
theorem q9r {R:Type}:Z3J X (q9q (R:=R)):=ZgQ X
theorem q9s (x0:Zl) (x1:Int) (x2:Int):Zhs X q9o [(.st 8),(.int .i64),(.int .i64)] [(.int .i64),(.int .i64)] q0 q9q 12 61 (x0,x1,x2,())=X13 x0 x1 x2:=by kernel_rfl
noncomputable def q9t:F7 S:=⟨[(.st 8),(.int .i64),(.int .i64)],[(.int .i64),(.int .i64)],fun xs=>X3O xs.1 xs.2.1 xs.2.2.1⟩
theorem q9u:Z7Q X 61 q9t:=Zho (Zhn xok q9p q1 q9r 12 61) fun xs _ h=>((q9s xs.1 xs.2.1 xs.2.2.1).trans (X3Y xs.1 xs.2.1 xs.2.2.1).symm).trans h
noncomputable def q9v:List (Nat×F7 S):=[(70,q9m)]
theorem q9w:Z9n X (q9v):=⟨q9n,trivial⟩
abbrev q9x {R:Type}:Z27 S R:=Zgi
theorem q9y {R:Type}:Z3J X (q9x (R:=R)):=ZgQ X
theorem q9z (x0:Zl) (x1:Int) (x2:Int):Zhs X q9v [(.st 8),(.int .i64),(.int .i64)] [(.st 4),(.int .i64)] q0 q9x 12 52 (x0,x1,x2,())=Wu x0 x1 x2:=by kernel_rfl
noncomputable def q9A:F7 S:=⟨[(.st 8),(.int .i64),(.int .i64)],[(.st 4),(.int .i64)],fun xs=>X37 xs.1 xs.2.1 xs.2.2.1⟩
theorem q9B:Z7Q X 52 q9A:=Zho (Zhn xok q9w q1 q9y 12 52) fun xs _ h=>((q9z xs.1 xs.2.1 xs.2.2.1).trans (X3m xs.1 xs.2.1 xs.2.2.1).symm).trans h
noncomputable def q9C:List (Nat×F7 S):=[]
theorem q9D:Z9n X (q9C):=trivial
abbrev q9E {R:Type}:Z27 S R:=Zgi
theorem q9F {R:Type}:Z3J X (q9E (R:=R)):=ZgQ X
theorem q9G:Zhs X q9C [] [(.arr 8 (.st 2))] q0 q9E 12 74 (())=X4B:=by kernel_rfl
noncomputable def q9H:F7 S:=⟨[],[(.arr 8 (.st 2))],fun xs=>X4B⟩
theorem q9I:Z7Q X 74 q9H:=Zho (Zhn xok q9D q1 q9F 12 74) fun xs _ h=>(q9G).trans h
noncomputable def q9J:List (Nat×F7 S):=[(74,q9H),(75,q65)]
theorem q9K:Z9n X (q9J):=⟨q9I,q66,trivial⟩
abbrev q9L {R:Type}:Z27 S R:=Zgi
theorem q9M {R:Type}:Z3J X (q9L (R:=R)):=ZgQ X
def q9N:Key:=⟨[54],54,none,[0,0,0,1],0,2⟩
def q9O:StT S:=⟨v1i,(N L oj L),2⟩
def q9P:Way S:=⟨(.exit 0),⟨v1i,(N L oj L),10⟩,[.int,(.st 2)]⟩
def q9Q:LE S:=⟨q9N,q9O,[.int,(.st 2)],[q9P]⟩
def q9R (x:(Int×Zu)):(Int×Zu)→(Int×Zu):=fun y0=>(y0.1,y0.2)
noncomputable def q9S {R:Type} (x:(Int×Zu)) (k:(Int×Zu)→Option R):Option R:=(X10 (x.1,x.2)).bind (fun y0=>k (y0.1,y0.2))
def q9T (x:(Int×Zu)) (v:(Int×Zu)):(Int×Zu):=(v.1,v.2)
theorem q9U (x:(Int×Zu)):LE.step X q9Q q9J q0 q9L 12 x=Xk x.1 x.2 (fun w0 w1=>(Sum.inl (w0,w1))) (fun p0 p1=>(Sum.inr (p0,p1))):=by kernel_rfl
theorem q9W {R:Type} (x:(Int×Zu)) (k:(Int×Zu)→Option R) (r:R) (h:q9S x k=some r):∃ o,Z5s (LE.step X q9Q q9J q0 q9L 12) x o∧k o=some r:=by
 obtain ⟨o,h1,h2⟩:=Z0 h
 exact ⟨q9R x o,Zhl (st:=fun (x:(Int×Zu))=>X7) (prj:=fun x=>(x.1,x.2)) (emb:=q9T) (embO:=q9R) (fun x=>(q9U x).trans (by unfold X7 Xk;simp only [Zhd,Zh8,Zhe,Option.map_some,Option.map_none];rfl)) (fun _ _=>rfl) (fun _ _=>rfl) (fun _ _ _=>rfl) (fun _ _ _=>rfl) (fun _=>rfl) (Z1S.1 h1),by
  first
  | exact h2
  | (rcases o with o<;>exact h2)⟩
noncomputable def q9X {R:Type}:Z27 S R:=LE.ls X q9Q q9S q9L
theorem q9Y {R:Type}:Z3J X (q9X (R:=R)):=Zhq xok q9K (e:=q9Q) q1 q9M q9W q9M
def q9Z:Key:=⟨[54],54,none,[0,0,1,0,1,1],2,12⟩
def qa0:StT S:=⟨(N (N L (some (.ptr 0 0)) (N L none (N (N L (some (.agg [(.arr (.st 2) 8 (fun _=>tdf T (.st 2)))])) L) none L))) none (N L vK v1l)),(N L oj L),12⟩
def qa1:Way S:=⟨(.exit 2),⟨(N L none (N L vK L)),(N L oj L),13⟩,[.int,(.st 2)]⟩
def qa2:LE S:=⟨q9Z,qa0,[(.arr (.st 2)),.int,.int,(.st 2)],[qa1]⟩
def qa3 (x:tT):Int→(Int×Zu):=fun y0=>(y0,x.2.2.2)
noncomputable def qa4 {R:Type} (x:tT) (k:(Int×Zu)→Option R):Option R:=(X1P x.1 x.2.2.2 (x.2.1,x.2.2.1)).bind (fun y0=>k (y0,x.2.2.2))
def qa5 (x:tT) (v:(Int×Int)):tT:=(x.1,v.1,v.2,x.2.2.2)
theorem qa6 (x:tT):LE.step X qa2 q9J q0 q9X 12 x=XN x.1 x.2.2.2 x.2.1 x.2.2.1 (fun w0 w1=>(Sum.inl (x.1,w0,w1,x.2.2.2))) (fun p0=>(Sum.inr (p0,x.2.2.2))):=by kernel_rfl
theorem qa8 {R:Type} (x:tT) (k:(Int×Zu)→Option R) (r:R) (h:qa4 x k=some r):∃ o,Z5s (LE.step X qa2 q9J q0 q9X 12) x o∧k o=some r:=by
 obtain ⟨o,h1,h2⟩:=Z0 h
 exact ⟨qa3 x o,Zhl (st:=fun (x:tT)=>XE x.1 x.2.2.2) (prj:=fun x=>(x.2.1,x.2.2.1)) (emb:=qa5) (embO:=qa3) (fun x=>(qa6 x).trans (by unfold XE XN;simp only [Zhd,Zh8,Zhe,Option.map_some,Option.map_none];rfl)) (fun _ _=>rfl) (fun _ _=>rfl) (fun _ _ _=>rfl) (fun _ _ _=>rfl) (fun _=>rfl) (Z1S.1 h1),by
  first
  | exact h2
  | (rcases o with o<;>exact h2)⟩
noncomputable def qa9 {R:Type}:Z27 S R:=LE.ls X qa2 qa4 q9X
theorem qaa {R:Type}:Z3J X (qa9 (R:=R)):=Zhq xok q9K (e:=qa2) q1 q9Y qa8 q9Y
theorem qab (x0:Zu):Zhs X q9J [(.st 2)] [(.int .i64)] q0 qa9 12 54 (x0,())=X16 x0:=by kernel_rfl
noncomputable def qac:F7 S:=⟨[(.st 2)],[(.int .i64)],fun xs=>X32 xs.1⟩
theorem qad:Z7Q X 54 qac:=Zho (Zhn xok q9K q1 qaa 12 54) fun xs _ h=>((qab xs.1).trans (X42 xs.1).symm).trans h
noncomputable def qae:List (Nat×F7 S):=[(52,q9A),(53,q5o),(55,q5Y),(54,qac)]
theorem qaf:Z9n X (qae):=⟨q9B,q5p,q5Z,qad,trivial⟩
abbrev qag {R:Type}:Z27 S R:=Zgi
theorem qah {R:Type}:Z3J X (qag (R:=R)):=ZgQ X
theorem qai (x0:Zl) (x1:Int) (x2:Int) (x3:Zu):Zhs X qae [(.st 8),(.int .i64),(.int .i64),(.st 2)] [(.int .i64),(.int .i64)] q0 qag 12 38 (x0,x1,x2,x3,())=X1A x0 x1 x2 x3:=by kernel_rfl
noncomputable def qaj:F7 S:=⟨[(.st 8),(.int .i64),(.int .i64),(.st 2)],[(.int .i64),(.int .i64)],fun xs=>X36 xs.1 xs.2.1 xs.2.2.1 xs.2.2.2.1⟩
theorem qak:Z7Q X 38 qaj:=Zho (Zhn xok qaf q1 qah 12 38) fun xs _ h=>((qai xs.1 xs.2.1 xs.2.2.1 xs.2.2.2.1).trans (X4z xs.1 xs.2.1 xs.2.2.1 xs.2.2.2.1).symm).trans h
def qal:StT S:=⟨(N (N L vK L) (some (.ptr 1 0)) L),(N (N L o3 L) oo L),2⟩
def qam:Way S:=⟨.ret,⟨(N L vL L),(N (N L o3 L) oo L),2⟩,[.bool,(.st 20),(.lst (.st 21)),.en,(.mp (.st 23) (.int .i64))]⟩
def qan:PE S:=⟨49,2,qal,[.int,(.st 20),(.lst (.st 21)),.en,(.mp (.st 23) (.int .i64))],[qam]⟩
noncomputable def qao:List (Nat×F7 S):=[(61,q9t)]
theorem qap:Z9n X qao:=⟨q9u,trivial⟩
abbrev qaq {R:Type}:Z27 S R:=Zgi
theorem qar {R:Type}:Z3J X (qaq (R:=R)):=ZgQ X
theorem qas (x:tC):PE.step X qan qao q0 qaq 12 x=Xo x.1 x.2.1 x.2.2.1 x.2.2.2.1 x.2.2.2.2:=by kernel_rfl
theorem qat:ZaX X qan XA:=Zhr (ZgU xok qap q1 qar 12) fun x _ h=>((qas x).trans (X2o x).symm).trans h
noncomputable def qau {R:Type}:Prs S R:=PE.ps X qan (fun x q=>(XA x).bind q) q0
theorem qav {R:Type}:Z7R X (qau (R:=R)):=Zhi (e:=qan) qat q1
def qaw:StT S:=⟨(N (N L vp L) (some (.ptr 1 0)) L),(N (N L o3 L) oo L),2⟩
def qax:Way S:=⟨.ret,⟨(N L vK L),(N (N L o3 L) oo L),2⟩,[.int,(.st 20),(.lst (.st 21)),.en,(.mp (.st 23) (.int .i64))]⟩
def qay:PE S:=⟨79,2,qaw,[(.st 21),(.st 20),(.lst (.st 21)),.en,(.mp (.st 23) (.int .i64))],[qax]⟩
noncomputable def qaz:List (Nat×F7 S):=[(41,q7x),(61,q9t)]
theorem qaA:Z9n X qaz:=⟨q7y,q9u,trivial⟩
abbrev qaB {R:Type}:Z27 S R:=Zgi
theorem qaC {R:Type}:Z3J X (qaB (R:=R)):=ZgQ X
theorem qaD (x:(Zm×ZJ×(List Zm)×(Nat→Nat)×t16)):PE.step X qay qaz qau qaB 12 x=Xw x.1 x.2.1 x.2.2.1 x.2.2.2.1 x.2.2.2.2:=by kernel_rfl
theorem qaE:ZaX X qay Wv:=Zhr (ZgU xok qaA qav qaC 12) fun x _ h=>((qaD x).trans (X2F x).symm).trans h
noncomputable def qaF {R:Type}:Prs S R:=PE.ps X qay (fun x q=>(Wv x).bind q) qau
theorem qaG {R:Type}:Z7R X (qaF (R:=R)):=Zhi (e:=qay) qaE qav
def qaH:StT S:=⟨v1d,L,0⟩
def qaI:Way S:=⟨.ret,⟨(N L (some (.tup [.nilp,(.int .i64 0),(.int .i64 0)])) L),L,0⟩,[.int,.int]⟩
def qaJ:Way S:=⟨.ret,⟨(N L (some (.tup [(.ptr 1 0),(.int .i64 0),(.int .i64 0)])) L),(N (N L o3 L) oo L),2⟩,[.int,.int,(.st 20),(.lst (.st 21)),.en,(.mp (.st 23) (.int .i64))]⟩
def qaK:PE S:=⟨56,2,qaH,[(.lst (.st 21)),(.st 20)],[qaI,qaJ]⟩
noncomputable def qaL:List (Nat×F7 S):=[(76,q92),(41,q7x),(61,q9t)]
theorem qaM:Z9n X qaL:=⟨q93,q7y,q9u,trivial⟩
abbrev qaN {R:Type}:Z27 S R:=Zgi
theorem qaO {R:Type}:Z3J X (qaN (R:=R)):=ZgQ X
def qaP:Key:=⟨[56],56,none,[0,0,1,0,1,1,1,1],0,26⟩
def qaQ:StT S:=⟨(N (N (N L none (N L none (N L vH L))) vI (N L none (N L none (N L vK L)))) none (N (N L (some (.ptr 1 0)) (N L none (N L vK L))) none L)),o12,26⟩
def qaR:Way S:=⟨(.exit 0),⟨(N (N L vI L) none (N (N L (some (.ptr 1 0)) L) none L)),o12,27⟩,[(.lst (.st 21)),(.st 20),(.st 20),(.lst (.st 21)),.en,(.mp (.st 23) (.int .i64))]⟩
def qaS:LE S:=⟨qaP,qaQ,[(.lst (.st 18)),(.lst (.st 21)),.int,.int,(.st 20),(.st 20),(.lst (.st 21)),.en,(.mp (.st 23) (.int .i64))],[qaR]⟩
def qaT (x:ti):(Nat→Nat)→tu:=fun y0=>(x.2.1,x.2.2.2.2.1,x.2.2.2.2.2.1,x.2.2.2.2.2.2.1,y0,x.2.2.2.2.2.2.2.2)
noncomputable def qaU {R:Type} (x:ti) (k:tu→Option R):Option R:=(X21 x.1 x.2.2.2.1 (x.2.2.1,x.2.2.2.2.2.2.2.1)).bind (fun y0=>k (x.2.1,x.2.2.2.2.1,x.2.2.2.2.2.1,x.2.2.2.2.2.2.1,y0,x.2.2.2.2.2.2.2.2))
def qaV (x:ti) (v:(Int×(Nat→Nat))):ti:=(x.1,x.2.1,v.1,x.2.2.2.1,x.2.2.2.2.1,x.2.2.2.2.2.1,x.2.2.2.2.2.2.1,v.2,x.2.2.2.2.2.2.2.2)
theorem qaW (x:ti):LE.step X qaS qaL q0 qaN 12 x=Wd x.1 x.2.2.2.1 x.2.2.1 x.2.2.2.2.2.2.2.1 (fun w0 w1=>(Sum.inl (x.1,x.2.1,w0,x.2.2.2.1,x.2.2.2.2.1,x.2.2.2.2.2.1,x.2.2.2.2.2.2.1,w1,x.2.2.2.2.2.2.2.2))) (fun p0=>(Sum.inr (x.2.1,x.2.2.2.2.1,x.2.2.2.2.2.1,x.2.2.2.2.2.2.1,p0,x.2.2.2.2.2.2.2.2))):=by kernel_rfl
theorem qaY {R:Type} (x:ti) (k:tu→Option R) (r:R) (h:qaU x k=some r):∃ o,Z5s (LE.step X qaS qaL q0 qaN 12) x o∧k o=some r:=by
 obtain ⟨o,h1,h2⟩:=Z0 h
 exact ⟨qaT x o,Zhl (st:=fun (x:ti)=>XX x.1 x.2.2.2.1) (prj:=fun x=>(x.2.2.1,x.2.2.2.2.2.2.2.1)) (emb:=qaV) (embO:=qaT) (fun x=>(qaW x).trans (by unfold XX Wd;simp only [Zhd,Zh8,Zhe,Option.map_some,Option.map_none];rfl)) (fun _ _=>rfl) (fun _ _=>rfl) (fun _ _ _=>rfl) (fun _ _ _=>rfl) (fun _=>rfl) (Z1S.1 h1),by
  first
  | exact h2
  | (rcases o with o<;>exact h2)⟩
noncomputable def qaZ {R:Type}:Z27 S R:=LE.ls X qaS qaU qaN
theorem qb0 {R:Type}:Z3J X (qaZ (R:=R)):=Zhq xok qaM (e:=qaS) q1 qaO qaY qaO
def qb1:Key:=⟨[77,2,14,56],77,none,[0,0,1,0,1],0,40⟩
def qb2:StT S:=⟨(N (N (N L none (N L vK L)) (some (.fn (.func 78) [] [(.ptr 1 0)])) (N (N L vI L) none L)) none v1l),o10,40⟩
def qb3:Way S:=⟨.ret,⟨v1e,(N (N L oy L) none (N (N L none (N (N L o2 (N L od L)) none (N (N L od L) none L))) none (N (N (N L oo L) none L) none L))),64⟩,[.int,.int,(.st 20),(.lst (.st 21)),.en,(.st 21),(.st 21),(.mp (.st 23) (.int .i64))]⟩
def qb4:Way S:=⟨(.exit 0),⟨L,o10,41⟩,[(.st 20),(.lst (.st 21)),.en,(.mp (.st 23) (.int .i64))]⟩
def qb5:LE S:=⟨qb1,qb2,[.int,(.lst (.st 21)),.int,(.st 20),(.lst (.st 21)),.en,(.mp (.st 23) (.int .i64))],[qb3,qb4]⟩
def qb6 (x:tq):tb→tb:=Sum.elim (fun y0=>(.inl (y0.1,y0.2.1,y0.2.2.1,y0.2.2.2.1,y0.2.2.2.2.1,y0.2.2.2.2.2.1,y0.2.2.2.2.2.2.1,y0.2.2.2.2.2.2.2))) (fun y1=>(.inr (y1.1,y1.2.1,y1.2.2.1,y1.2.2.2)))
noncomputable def qb7 {R:Type} (x:tq) (k:tb→Option R):Option R:=(X22 x.2.1 x.2.2.1 (x.1,x.2.2.2.1,x.2.2.2.2.1,x.2.2.2.2.2.1,x.2.2.2.2.2.2)).bind (Sum.elim (fun y0=>k (.inl (y0.1,y0.2.1,y0.2.2.1,y0.2.2.2.1,y0.2.2.2.2.1,y0.2.2.2.2.2.1,y0.2.2.2.2.2.2.1,y0.2.2.2.2.2.2.2))) (fun y1=>k (.inr (y1.1,y1.2.1,y1.2.2.1,y1.2.2.2))))
def qb8 (x:tq) (v:tC):tq:=(v.1,x.2.1,x.2.2.1,v.2.1,v.2.2.1,v.2.2.2.1,v.2.2.2.2)
theorem qb9 (x:tq):LE.step X qb5 qaL qaF qaZ 12 x=We x.2.1 x.2.2.1 x.1 x.2.2.2.1 x.2.2.2.2.1 x.2.2.2.2.2.1 x.2.2.2.2.2.2 (fun w0 w1 w2 w3 w4=>(Sum.inl (w0,x.2.1,x.2.2.1,w1,w2,w3,w4))) (fun p0 p1 p2 p3 p4 p5 p6 p7=>(Sum.inr (.inl (p0,p1,p2,p3,p4,p5,p6,p7)))) (fun p0 p1 p2 p3=>(Sum.inr (.inr (p0,p1,p2,p3)))):=by kernel_rfl
theorem qbb {R:Type} (x:tq) (k:tb→Option R) (r:R) (h:qb7 x k=some r):∃ o,Z5s (LE.step X qb5 qaL qaF qaZ 12) x o∧k o=some r:=by
 obtain ⟨o,h1,h2⟩:=Z0 h
 exact ⟨qb6 x o,Zhl (st:=fun (x:tq)=>XY x.2.1 x.2.2.1) (prj:=fun x=>(x.1,x.2.2.2.1,x.2.2.2.2.1,x.2.2.2.2.2.1,x.2.2.2.2.2.2)) (emb:=qb8) (embO:=qb6) (fun x=>(qb9 x).trans (by unfold XY We;simp only [Zhd,Zh8,Zhe,Option.map_some,Option.map_none];rfl)) (fun _ _=>rfl) (fun _ _=>rfl) (fun _ _ _=>rfl) (fun _ _ _=>rfl) (fun _=>rfl) (Z1S.1 h1),by
  first
  | exact h2
  | (rcases o with o|o<;>exact h2)⟩
noncomputable def qbc {R:Type}:Z27 S R:=LE.ls X qb5 qb7 qaZ
theorem qbd {R:Type}:Z3J X (qbc (R:=R)):=Zhq xok qaM (e:=qb5) qaG qb0 qbb qb0
theorem qbe (x:((List Zm)×ZJ)):PE.step X qaK qaL qaF qbc 12 x=X1n x.1 x.2:=by kernel_rfl
theorem qbf:ZaX X qaK X3q:=Zhr (ZgU xok qaM qaG qbd 12) fun x _ h=>((qbe x).trans (X4f x).symm).trans h
noncomputable def qbg {R:Type}:Prs S R:=PE.ps X qaK (fun x q=>(X3q x).bind q) qaF
theorem qbh {R:Type}:Z7R X (qbg (R:=R)):=Zhi (e:=qaK) qbf qaG
def qbi:StT S:=⟨v1d,L,0⟩
def qbj:Way S:=⟨.ret,⟨(N L (some (.tup [.nilp,(.int .i64 0)])) L),L,0⟩,[.int]⟩
def qbk:Way S:=⟨.ret,⟨(N L (some (.tup [(.ptr 1 0),(.int .i64 0)])) L),(N (N L o3 L) oo L),2⟩,[.int,(.st 20),(.lst (.st 21)),.en,(.mp (.st 23) (.int .i64))]⟩
def qbl:PE S:=⟨39,2,qbi,[(.lst (.st 21)),(.st 20)],[qbj,qbk]⟩
noncomputable def qbm:List (Nat×F7 S):=[(76,q92),(41,q7x),(61,q9t)]
theorem qbn:Z9n X qbm:=⟨q93,q7y,q9u,trivial⟩
abbrev qbo {R:Type}:Z27 S R:=Zgi
theorem qbp {R:Type}:Z3J X (qbo (R:=R)):=ZgQ X
theorem qbq (x:((List Zm)×ZJ)):PE.step X qbl qbm qbg qbo 12 x=X19 x.1 x.2:=by kernel_rfl
theorem qbr:ZaX X qbl X1J:=Zhr (ZgU xok qbn qbh qbp 12) fun x _ h=>((qbq x).trans (X44 x).symm).trans h
noncomputable def qbs {R:Type}:Prs S R:=PE.ps X qbl (fun x q=>(X1J x).bind q) qbg
theorem qbt {R:Type}:Z7R X (qbs (R:=R)):=Zhi (e:=qbl) qbr qbh
def qbu:StT S:=⟨(N L (some .nilp) L),L,0⟩
def qbv:PE S:=⟨40,1,qbu,[],[]⟩
noncomputable def qbw:List (Nat×F7 S):=[(38,qaj),(41,q7x)]
theorem qbx:Z9n X qbw:=⟨qak,q7y,trivial⟩
abbrev qby {R:Type}:Z27 S R:=Zgi
theorem qbz {R:Type}:Z3J X (qby (R:=R)):=ZgQ X
theorem qbA (x:Unit):PE.step X qbv qbw qbs qby 12 x=XU:=by kernel_rfl
theorem qbB:ZaX X qbv X12:=Zhr (ZgU xok qbx qbt qbz 12) fun x _ h=>((qbA x).trans (X3S x).symm).trans h
noncomputable def qbC {R:Type}:Prs S R:=PE.ps X qbv (fun x q=>(X12 x).bind q) qbs
theorem qbD {R:Type}:Z7R X (qbC (R:=R)):=Zhi (e:=qbv) qbB qbt
def qbE:StT S:=⟨(N (N L vK L) (some (.ptr 1 0)) (N L vr L)),(N (N L o3 L) oo L),2⟩
def qbF:Way S:=⟨.ret,⟨(N L vK L),(N (N L o3 L) oo L),2⟩,[.int,(.st 20),(.lst (.st 21)),.en,(.mp (.st 23) (.int .i64))]⟩
def qbG:PE S:=⟨62,3,qbE,[.int,(.st 2),(.st 20),(.lst (.st 21)),.en,(.mp (.st 23) (.int .i64))],[qbF]⟩
noncomputable def qbH:List (Nat×F7 S):=[(38,qaj)]
theorem qbI:Z9n X qbH:=⟨qak,trivial⟩
abbrev qbJ {R:Type}:Z27 S R:=Zgi
theorem qbK {R:Type}:Z3J X (qbJ (R:=R)):=ZgQ X
theorem qbL (x:(Int×Zu×ZJ×(List Zm)×(Nat→Nat)×t16)):PE.step X qbG qbH qbC qbJ 12 x=Xp x.1 x.2.1 x.2.2.1 x.2.2.2.1 x.2.2.2.2.1 x.2.2.2.2.2:=by kernel_rfl
theorem qbM:ZaX X qbG XB:=Zhr (ZgU xok qbI qbD qbK 12) fun x _ h=>((qbL x).trans (X2s x).symm).trans h
noncomputable def qbN {R:Type}:Prs S R:=PE.ps X qbG (fun x q=>(XB x).bind q) qbC
theorem qbO {R:Type}:Z7R X (qbN (R:=R)):=Zhi (e:=qbG) qbM qbD
def qbP:StT S:=⟨(N (N L vr L) (some (.agg [(.ptr 1 0)])) (N L vp L)),(N (N L o3 L) oo L),2⟩
def qbQ:Way S:=⟨.ret,⟨v18,(N (N L o3 L) oo L),2⟩,[(.st 5),.bool,(.st 20),(.lst (.st 21)),.en,(.mp (.st 23) (.int .i64))]⟩
def qbR:PE S:=⟨129,3,qbP,[(.st 2),(.st 21),(.st 20),(.lst (.st 21)),.en,(.mp (.st 23) (.int .i64))],[qbQ]⟩
noncomputable def qbS:List (Nat×F7 S):=[(38,qaj)]
theorem qbT:Z9n X qbS:=⟨qak,trivial⟩
abbrev qbU {R:Type}:Z27 S R:=Zgi
theorem qbV {R:Type}:Z3J X (qbU (R:=R)):=ZgQ X
theorem qbW (x:(Zu×Zm×ZJ×(List Zm)×(Nat→Nat)×t16)):PE.step X qbR qbS qbN qbU 12 x=Xq x.1 x.2.1 x.2.2.1 x.2.2.2.1 x.2.2.2.2.1 x.2.2.2.2.2:=by kernel_rfl
theorem qbX:ZaX X qbR Xe:=Zhr (ZgU xok qbT qbO qbV 12) fun x _ h=>((qbW x).trans (X2u x).symm).trans h
noncomputable def qbY {R:Type}:Prs S R:=PE.ps X qbR (fun x q=>(Xe x).bind q) qbN
theorem qbZ {R:Type}:Z7R X (qbY (R:=R)):=Zhi (e:=qbR) qbX qbO
def qc0:StT S:=⟨(N (N L vr L) (some (.agg [(.ptr 1 0)])) (N L vp L)),(N (N L o3 L) oo L),2⟩
def qc1:Way S:=⟨.ret,⟨v18,(N (N L o3 L) oo L),2⟩,[(.st 5),.bool,(.st 20),(.lst (.st 21)),.en,(.mp (.st 23) (.int .i64))]⟩
def qc2:PE S:=⟨130,3,qc0,[(.st 2),(.st 21),(.st 20),(.lst (.st 21)),.en,(.mp (.st 23) (.int .i64))],[qc1]⟩
noncomputable def qc3:List (Nat×F7 S):=[(41,q7x)]
theorem qc4:Z9n X qc3:=⟨q7y,trivial⟩
abbrev qc5 {R:Type}:Z27 S R:=Zgi
theorem qc6 {R:Type}:Z3J X (qc5 (R:=R)):=ZgQ X
def qc7:Key:=⟨[131,7,1,130],131,none,[0,0,1,0,1],0,20⟩
def qc8:StT S:=⟨(N (N (N (N L vK L) none L) (some (.fn (.func 132) [] [(.ptr 3 0)])) L) (some (.sl (.st 19) [])) v1m),o1q,20⟩
def qc9:Way S:=⟨.ret,⟨v1l,(N (N (N (N L none (N (N L os L) none L)) oj (N (N L none (N L os L)) none L)) none (N L none (N L none (N L oc L)))) none L),58⟩,[.int,(.lst (.int .i64)),(.st 2),(.lst (.int .i64)),(.st 19)]⟩
def qca:Way S:=⟨(.exit 0),⟨L,o1q,21⟩,[(.st 2)]⟩
def qcb:LE S:=⟨qc7,qc8,[.int,(.lst (.st 19)),.int,(.st 2)],[qc9,qca]⟩
def qcc (x:tU):((Int×(List Int)×(List Int)×Zt)⊕Unit)→tJ:=Sum.elim (fun y0=>(.inl (y0.1,y0.2.1,x.2.2.2,y0.2.2.1,y0.2.2.2))) (fun y1=>(.inr x.2.2.2))
noncomputable def qcd {R:Type} (x:tU) (k:tJ→Option R):Option R:=(X2b x.1 x.2.1 x.2.2.2 x.2.2.1).bind (Sum.elim (fun y0=>k (.inl (y0.1,y0.2.1,x.2.2.2,y0.2.2.1,y0.2.2.2))) (fun y1=>k (.inr x.2.2.2)))
def qce (x:tU) (v:Int):tU:=(x.1,x.2.1,v,x.2.2.2)
theorem qcf (x:tU):LE.step X qcb qc3 qbY qc5 12 x=Xj x.1 x.2.1 x.2.2.2 x.2.2.1 (fun w0=>(Sum.inl (x.1,x.2.1,w0,x.2.2.2))) (fun p0 p1 p2 p3=>(Sum.inr (.inl (p0,p1,x.2.2.2,p2,p3)))) (Sum.inr (.inr x.2.2.2)):=by kernel_rfl
theorem qch {R:Type} (x:tU) (k:tJ→Option R) (r:R) (h:qcd x k=some r):∃ o,Z5s (LE.step X qcb qc3 qbY qc5 12) x o∧k o=some r:=by
 obtain ⟨o,h1,h2⟩:=Z0 h
 exact ⟨qcc x o,Zhl (st:=fun (x:tU)=>Xd x.1 x.2.1 x.2.2.2) (prj:=fun x=>x.2.2.1) (emb:=qce) (embO:=qcc) (fun x=>(qcf x).trans (by unfold Xd Xj;simp only [Zhd,Zh8,Zhe,Option.map_some,Option.map_none];rfl)) (fun _ _=>rfl) (fun _ _=>rfl) (fun _ _ _=>rfl) (fun _ _ _=>rfl) (fun _=>rfl) (Z1S.1 h1),by
  first
  | exact h2
  | (rcases o with o|o<;>exact h2)⟩
noncomputable def qci {R:Type}:Z27 S R:=LE.ls X qcb qcd qc5
theorem qcj {R:Type}:Z3J X (qci (R:=R)):=Zhq xok qc4 (e:=qcb) qbZ qc6 qch qc6
theorem qck (x:(Zu×Zm×ZJ×(List Zm)×(Nat→Nat)×t16)):PE.step X qc2 qc3 qbY qci 12 x=XO x.1 x.2.1 x.2.2.1 x.2.2.2.1 x.2.2.2.2.1 x.2.2.2.2.2:=by kernel_rfl
theorem qcl:ZaX X qc2 XF:=Zhr (ZgU xok qc4 qbZ qcj 12) fun x _ h=>((qck x).trans (X2Y x).symm).trans h
noncomputable def qcm {R:Type}:Prs S R:=PE.ps X qc2 (fun x q=>(XF x).bind q) qbY
theorem qcn {R:Type}:Z7R X (qcm (R:=R)):=Zhi (e:=qc2) qcl qbZ
def qco:StT S:=⟨(N (N (N L vK L) vr L) (some (.ptr 1 0)) (N L vK L)),(N (N L o3 L) oo L),2⟩
def qcp:Way S:=⟨.ret,⟨(N L (some (.tup [(.agg [(.arr (.st 5) 4 (fun _=>tdf T (.st 5)))]),(.bool false)])) L),(N (N L o3 L) oo L),2⟩,[(.arr (.st 5)),.bool,(.st 20),(.lst (.st 21)),.en,(.mp (.st 23) (.int .i64))]⟩
def qcq:PE S:=⟨42,4,qco,[.int,(.st 2),.int,(.st 20),(.lst (.st 21)),.en,(.mp (.st 23) (.int .i64))],[qcp]⟩
noncomputable def qcr:List (Nat×F7 S):=[(38,qaj),(41,q7x)]
theorem qcs:Z9n X qcr:=⟨qak,q7y,trivial⟩
abbrev qct {R:Type}:Z27 S R:=Zgi
theorem qcu {R:Type}:Z3J X (qct (R:=R)):=ZgQ X
def qcv:Key:=⟨[42],42,none,[0,0,1,0,0,1],0,12⟩
def qcw:StT S:=⟨(N (N (N (N L none (N L vK L)) vK L) none (N L (some (.ptr 2 0)) L)) (some (.ptr 1 0)) (N (N (N L (some (.ptr 3 0)) (N L vK L)) none L) vK (N L none (N (N L vH L) none L)))),o1j,12⟩
def qcx:Way S:=⟨(.exit 0),⟨(N (N (N L vK L) none (N L (some (.ptr 2 0)) L)) (some (.ptr 1 0)) (N v1k vK L)),o1j,13⟩,[.int,.int,(.arr (.st 5)),(.st 20),(.lst (.st 21)),.en,(.mp (.st 23) (.int .i64)),(.st 2)]⟩
def qcy:LE S:=⟨qcv,qcw,[.int,.int,.int,.int,(.lst (.st 18)),(.arr (.st 5)),(.st 20),(.lst (.st 21)),.en,(.mp (.st 23) (.int .i64)),(.st 2)],[qcx]⟩
def qcz (x:tf):(Nat→ZE)→tn:=fun y0=>(x.2.1,x.2.2.2.1,y0,x.2.2.2.2.2.2.1,x.2.2.2.2.2.2.2.1,x.2.2.2.2.2.2.2.2.1,x.2.2.2.2.2.2.2.2.2.1,x.2.2.2.2.2.2.2.2.2.2)
noncomputable def qcA {R:Type} (x:tf) (k:tn→Option R):Option R:=(X1g x.1 x.2.1 x.2.2.2.1 x.2.2.2.2.1 x.2.2.2.2.2.2.1 x.2.2.2.2.2.2.2.1 x.2.2.2.2.2.2.2.2.1 x.2.2.2.2.2.2.2.2.2.1 x.2.2.2.2.2.2.2.2.2.2 (x.2.2.1,x.2.2.2.2.2.1)).bind (fun y0=>k (x.2.1,x.2.2.2.1,y0,x.2.2.2.2.2.2.1,x.2.2.2.2.2.2.2.1,x.2.2.2.2.2.2.2.2.1,x.2.2.2.2.2.2.2.2.2.1,x.2.2.2.2.2.2.2.2.2.2))
def qcB (x:tf) (v:(Int×(Nat→ZE))):tf:=(x.1,x.2.1,v.1,x.2.2.2.1,x.2.2.2.2.1,v.2,x.2.2.2.2.2.2.1,x.2.2.2.2.2.2.2.1,x.2.2.2.2.2.2.2.2.1,x.2.2.2.2.2.2.2.2.2.1,x.2.2.2.2.2.2.2.2.2.2)
theorem qcC (x:tf):LE.step X qcy qcr qbC qct 12 x=Xl x.1 x.2.1 x.2.2.2.1 x.2.2.2.2.1 x.2.2.2.2.2.2.1 x.2.2.2.2.2.2.2.1 x.2.2.2.2.2.2.2.2.1 x.2.2.2.2.2.2.2.2.2.1 x.2.2.2.2.2.2.2.2.2.2 x.2.2.1 x.2.2.2.2.2.1 (fun w0 w1=>(Sum.inl (x.1,x.2.1,w0,x.2.2.2.1,x.2.2.2.2.1,w1,x.2.2.2.2.2.2.1,x.2.2.2.2.2.2.2.1,x.2.2.2.2.2.2.2.2.1,x.2.2.2.2.2.2.2.2.2.1,x.2.2.2.2.2.2.2.2.2.2))) (fun p0=>(Sum.inr (x.2.1,x.2.2.2.1,p0,x.2.2.2.2.2.2.1,x.2.2.2.2.2.2.2.1,x.2.2.2.2.2.2.2.2.1,x.2.2.2.2.2.2.2.2.2.1,x.2.2.2.2.2.2.2.2.2.2))):=by kernel_rfl
theorem qcE {R:Type} (x:tf) (k:tn→Option R) (r:R) (h:qcA x k=some r):∃ o,Z5s (LE.step X qcy qcr qbC qct 12) x o∧k o=some r:=by
 obtain ⟨o,h1,h2⟩:=Z0 h
 exact ⟨qcz x o,Zhl (st:=fun (x:tf)=>Xf x.1 x.2.1 x.2.2.2.1 x.2.2.2.2.1 x.2.2.2.2.2.2.1 x.2.2.2.2.2.2.2.1 x.2.2.2.2.2.2.2.2.1 x.2.2.2.2.2.2.2.2.2.1 x.2.2.2.2.2.2.2.2.2.2) (prj:=fun x=>(x.2.2.1,x.2.2.2.2.2.1)) (emb:=qcB) (embO:=qcz) (fun x=>(qcC x).trans (by unfold Xf Xl;simp only [Zhd,Zh8,Zhe,Option.map_some,Option.map_none];rfl)) (fun _ _=>rfl) (fun _ _=>rfl) (fun _ _ _=>rfl) (fun _ _ _=>rfl) (fun _=>rfl) (Z1S.1 h1),by
  first
  | exact h2
  | (rcases o with o<;>exact h2)⟩
noncomputable def qcF {R:Type}:Z27 S R:=LE.ls X qcy qcA qct
theorem qcG {R:Type}:Z3J X (qcF (R:=R)):=Zhq xok qcs (e:=qcy) qbD qcu qcE qcu
def qcH:Key:=⟨[42],42,none,[0,0,1,0,1,1,0,1],2,19⟩
def qcI:StT S:=⟨(N (N (N v1l vK L) none (N L (some (.ptr 2 0)) (N (N (N L vI L) none L) none L))) (some (.ptr 1 0)) (N v1k vK (N L none v1m))),o1j,19⟩
def qcJ:Way S:=⟨.ret,⟨v14,(N (N (N L o7 (N (N (N L (some (.cells 135 [.nilp])) L) none L) none L)) o3 o13) oo (N L oj (N L none (N (N L od L) none L)))),102⟩,[.bool,(.arr (.st 5)),(.st 20),(.lst (.st 21)),.en,(.st 5),(.mp (.st 23) (.int .i64)),(.st 2),(.st 21)]⟩
def qcK:Way S:=⟨.ret,⟨v14,(N (N (N L o7 (N (N (N L (some (.cells 135 [(.ptr 1 0)])) L) none L) none L)) o3 o13) oo (N L oj (N L none (N (N L od L) none L)))),102⟩,[.bool,(.arr (.st 5)),(.st 20),(.lst (.st 21)),.en,(.st 5),(.mp (.st 23) (.int .i64)),(.st 2),(.st 21)]⟩
def qcL:Way S:=⟨(.exit 2),⟨(N L none (N v1k none L)),o1j,20⟩,[(.arr (.st 5)),(.st 20),(.lst (.st 21)),.en,(.mp (.st 23) (.int .i64)),(.st 2)]⟩
def qcM:LE S:=⟨qcH,qcI,[.int,.int,(.lst (.st 21)),.int,.int,(.arr (.st 5)),(.st 20),(.lst (.st 21)),.en,(.mp (.st 23) (.int .i64)),(.st 2)],[qcJ,qcK,qcL]⟩
def qcN (x:th):((Bool×(Nat→ZE)×ZJ×(List Zm)×(Nat→Nat)×ZE×t16×Zm)⊕(Bool×(Nat→ZE)×ZJ×(List Zm)×(Nat→Nat)×ZE×t16×Zm)⊕((Nat→ZE)×ZJ×(List Zm)×(Nat→Nat)×t16))→t1:=Sum.elim (fun y0=>(.inl (y0.1,y0.2.1,y0.2.2.1,y0.2.2.2.1,y0.2.2.2.2.1,y0.2.2.2.2.2.1,y0.2.2.2.2.2.2.1,x.2.2.2.2.2.2.2.2.2.2,y0.2.2.2.2.2.2.2))) (Sum.elim (fun y1=>(.inr (.inl (y1.1,y1.2.1,y1.2.2.1,y1.2.2.2.1,y1.2.2.2.2.1,y1.2.2.2.2.2.1,y1.2.2.2.2.2.2.1,x.2.2.2.2.2.2.2.2.2.2,y1.2.2.2.2.2.2.2)))) (fun y2=>(.inr (.inr (y2.1,y2.2.1,y2.2.2.1,y2.2.2.2.1,y2.2.2.2.2,x.2.2.2.2.2.2.2.2.2.2)))))
noncomputable def qcO {R:Type} (x:th) (k:t1→Option R):Option R:=(X1h x.2.1 x.2.2.1 x.2.2.2.1 x.2.2.2.2.1 x.2.2.2.2.2.2.2.2.2.2 (x.1,x.2.2.2.2.2.1,x.2.2.2.2.2.2.1,x.2.2.2.2.2.2.2.1,x.2.2.2.2.2.2.2.2.1,x.2.2.2.2.2.2.2.2.2.1)).bind (Sum.elim (fun y0=>k (.inl (y0.1,y0.2.1,y0.2.2.1,y0.2.2.2.1,y0.2.2.2.2.1,y0.2.2.2.2.2.1,y0.2.2.2.2.2.2.1,x.2.2.2.2.2.2.2.2.2.2,y0.2.2.2.2.2.2.2))) (Sum.elim (fun y1=>k (.inr (.inl (y1.1,y1.2.1,y1.2.2.1,y1.2.2.2.1,y1.2.2.2.2.1,y1.2.2.2.2.2.1,y1.2.2.2.2.2.2.1,x.2.2.2.2.2.2.2.2.2.2,y1.2.2.2.2.2.2.2)))) (fun y2=>k (.inr (.inr (y2.1,y2.2.1,y2.2.2.1,y2.2.2.2.1,y2.2.2.2.2,x.2.2.2.2.2.2.2.2.2.2))))))
def qcP (x:th) (v:(Int×(Nat→ZE)×ZJ×(List Zm)×(Nat→Nat)×t16)):th:=(v.1,x.2.1,x.2.2.1,x.2.2.2.1,x.2.2.2.2.1,v.2.1,v.2.2.1,v.2.2.2.1,v.2.2.2.2.1,v.2.2.2.2.2,x.2.2.2.2.2.2.2.2.2.2)
theorem qcQ (x:th):LE.step X qcM qcr qcm qcF 12 x=Xm x.2.1 x.2.2.1 x.2.2.2.1 x.2.2.2.2.1 x.2.2.2.2.2.2.2.2.2.2 x.1 x.2.2.2.2.2.1 x.2.2.2.2.2.2.1 x.2.2.2.2.2.2.2.1 x.2.2.2.2.2.2.2.2.1 x.2.2.2.2.2.2.2.2.2.1 (fun w0 w1 w2 w3 w4 w5=>(Sum.inl (w0,x.2.1,x.2.2.1,x.2.2.2.1,x.2.2.2.2.1,w1,w2,w3,w4,w5,x.2.2.2.2.2.2.2.2.2.2))) (fun p0 p1 p2 p3 p4 p5 p6 p7=>(Sum.inr (.inl (p0,p1,p2,p3,p4,p5,p6,x.2.2.2.2.2.2.2.2.2.2,p7)))) (fun p0 p1 p2 p3 p4 p5 p6 p7=>(Sum.inr (.inr (.inl (p0,p1,p2,p3,p4,p5,p6,x.2.2.2.2.2.2.2.2.2.2,p7))))) (fun p0 p1 p2 p3 p4=>(Sum.inr (.inr (.inr (p0,p1,p2,p3,p4,x.2.2.2.2.2.2.2.2.2.2))))):=by kernel_rfl
theorem qcS {R:Type} (x:th) (k:t1→Option R) (r:R) (h:qcO x k=some r):∃ o,Z5s (LE.step X qcM qcr qcm qcF 12) x o∧k o=some r:=by
 obtain ⟨o,h1,h2⟩:=Z0 h
 exact ⟨qcN x o,Zhl (st:=fun (x:th)=>Xg x.2.1 x.2.2.1 x.2.2.2.1 x.2.2.2.2.1 x.2.2.2.2.2.2.2.2.2.2) (prj:=fun x=>(x.1,x.2.2.2.2.2.1,x.2.2.2.2.2.2.1,x.2.2.2.2.2.2.2.1,x.2.2.2.2.2.2.2.2.1,x.2.2.2.2.2.2.2.2.2.1)) (emb:=qcP) (embO:=qcN) (fun x=>(qcQ x).trans (by unfold Xg Xm;simp only [Zhd,Zh8,Zhe,Option.map_some,Option.map_none];rfl)) (fun _ _=>rfl) (fun _ _=>rfl) (fun _ _ _=>rfl) (fun _ _ _=>rfl) (fun _=>rfl) (Z1S.1 h1),by
  first
  | exact h2
  | (rcases o with o|o|o<;>exact h2)⟩
noncomputable def qcT {R:Type}:Z27 S R:=LE.ls X qcM qcO qcF
theorem qcU {R:Type}:Z3J X (qcT (R:=R)):=Zhq xok qcs (e:=qcM) qcn qcG qcS qcG
theorem qcV (x:(Int×Zu×Int×ZJ×(List Zm)×(Nat→Nat)×t16)):PE.step X qcq qcr qcm qcT 12 x=Wb x.1 x.2.1 x.2.2.1 x.2.2.2.1 x.2.2.2.2.1 x.2.2.2.2.2.1 x.2.2.2.2.2.2:=by kernel_rfl
theorem qcW:ZaX X qcq W6:=Zhr (ZgU xok qcs qcn qcU 12) fun x _ h=>((qcV x).trans (X3a x).symm).trans h
noncomputable def qcX {R:Type}:Prs S R:=PE.ps X qcq (fun x q=>(W6 x).bind q) qcm
theorem qcY {R:Type}:Z7R X (qcX (R:=R)):=Zhi (e:=qcq) qcW qcn
def qcZ:StT S:=⟨(N L (some (.ptr 1 0)) L),(N (N L o3 L) oo L),2⟩
def qd0:Way S:=⟨.ret,⟨(N L (some (.rs 2 0)) L),(N (N L o3 L) oo (N L oz L)),3⟩,[(.st 20),(.lst (.st 21)),.en,(.mp (.st 23) (.int .i64)),(.lst (.st 2))]⟩
def qd1:PE S:=⟨40,1,qcZ,[(.st 20),(.lst (.st 21)),.en,(.mp (.st 23) (.int .i64))],[qd0]⟩
noncomputable def qd2:List (Nat×F7 S):=[(38,qaj),(41,q7x)]
theorem qd3:Z9n X qd2:=⟨qak,q7y,trivial⟩
abbrev qd4 {R:Type}:Z27 S R:=Zgi
theorem qd5 {R:Type}:Z3J X (qd4 (R:=R)):=ZgQ X
def qd6:Key:=⟨[80,0,40],80,none,[0,0,1,0,0,1,0,0,1],2,34⟩
def qd7:StT S:=⟨(N (N (N L vK L) (some (.ptr 6 0)) L) (some (.yld 11)) (N (N L vK L) none L)),oU,35⟩
def qd8:Way S:=⟨(.exit 2),⟨v1b,oU,42⟩,[.int,(.st 20),(.lst (.st 21)),.en,(.mp (.st 23) (.int .i64)),(.lst (.st 2))]⟩
def qd9:LE S:=⟨qd6,qd7,[.int,.int,(.st 20),(.lst (.st 21)),.en,(.mp (.st 23) (.int .i64)),(.lst (.st 2))],[qd8]⟩
def qda (x:tr):(ZJ×(List Zm)×(Nat→Nat)×t16×(List Zu))→tw:=fun y0=>(x.1,y0.1,y0.2.1,y0.2.2.1,y0.2.2.2.1,y0.2.2.2.2)
noncomputable def qdb {R:Type} (x:tr) (k:tw→Option R):Option R:=(Xv x.1 (x.2.1,x.2.2.1,x.2.2.2.1,x.2.2.2.2.1,x.2.2.2.2.2.1,x.2.2.2.2.2.2)).bind (fun y0=>k (x.1,y0.1,y0.2.1,y0.2.2.1,y0.2.2.2.1,y0.2.2.2.2))
def qdc (x:tr) (v:tw):tr:=(x.1,v.1,v.2.1,v.2.2.1,v.2.2.2.1,v.2.2.2.2.1,v.2.2.2.2.2)
theorem qdd (x:tr):LE.step X qd9 qd2 qcX qd4 12 x=X9 x.1 x.2.1 x.2.2.1 x.2.2.2.1 x.2.2.2.2.1 x.2.2.2.2.2.1 x.2.2.2.2.2.2 (fun w0 w1 w2 w3 w4 w5=>(Sum.inl (x.1,w0,w1,w2,w3,w4,w5))) (fun p0 p1 p2 p3 p4=>(Sum.inr (x.1,p0,p1,p2,p3,p4))):=by kernel_rfl
theorem qdf {R:Type} (x:tr) (k:tw→Option R) (r:R) (h:qdb x k=some r):∃ o,Z5s (LE.step X qd9 qd2 qcX qd4 12) x o∧k o=some r:=by
 obtain ⟨o,h1,h2⟩:=Z0 h
 exact ⟨qda x o,Zhl (st:=fun (x:tr)=>X6 x.1) (prj:=fun x=>(x.2.1,x.2.2.1,x.2.2.2.1,x.2.2.2.2.1,x.2.2.2.2.2.1,x.2.2.2.2.2.2)) (emb:=qdc) (embO:=qda) (fun x=>(qdd x).trans (by unfold X6 X9;simp only [Zhd,Zh8,Zhe,Option.map_some,Option.map_none];rfl)) (fun _ _=>rfl) (fun _ _=>rfl) (fun _ _ _=>rfl) (fun _ _ _=>rfl) (fun _=>rfl) (Z1S.1 h1),by
  first
  | exact h2
  | (rcases o with o<;>exact h2)⟩
noncomputable def qdg {R:Type}:Z27 S R:=LE.ls X qd9 qdb qd4
theorem qdh {R:Type}:Z3J X (qdg (R:=R)):=Zhq xok qd3 (e:=qd9) qcY qd5 qdf qd5
def qdi:Key:=⟨[80,0,40],80,none,[0,0,1],0,19⟩
def qdj:StT S:=⟨v1b,o11,20⟩
def qdk:Way S:=⟨(.exit 0),⟨L,o11,27⟩,[(.lst (.st 2)),(.st 20),(.lst (.st 21)),.en,(.mp (.st 23) (.int .i64))]⟩
def qdl:LE S:=⟨qdi,qdj,[.int,(.lst (.st 2)),(.st 20),(.lst (.st 21)),.en,(.mp (.st 23) (.int .i64))],[qdk]⟩
def qdm (x:tx):tz→tz:=fun y0=>(y0.1,y0.2.1,y0.2.2.1,y0.2.2.2.1,y0.2.2.2.2)
noncomputable def qdn {R:Type} (x:tx) (k:tz→Option R):Option R:=(Xu (x.1,x.2.1,x.2.2.1,x.2.2.2.1,x.2.2.2.2.1,x.2.2.2.2.2)).bind (fun y0=>k (y0.1,y0.2.1,y0.2.2.1,y0.2.2.2.1,y0.2.2.2.2))
def qdo (x:tx) (v:tx):tx:=(v.1,v.2.1,v.2.2.1,v.2.2.2.1,v.2.2.2.2.1,v.2.2.2.2.2)
theorem qdp (x:tx):LE.step X qdl qd2 qcX qdg 12 x=X8 x.1 x.2.1 x.2.2.1 x.2.2.2.1 x.2.2.2.2.1 x.2.2.2.2.2 (fun w0 w1 w2 w3 w4 w5=>(Sum.inl (w0,w1,w2,w3,w4,w5))) (fun p0 p1 p2 p3 p4=>(Sum.inr (p0,p1,p2,p3,p4))):=by kernel_rfl
theorem qdr {R:Type} (x:tx) (k:tz→Option R) (r:R) (h:qdn x k=some r):∃ o,Z5s (LE.step X qdl qd2 qcX qdg 12) x o∧k o=some r:=by
 obtain ⟨o,h1,h2⟩:=Z0 h
 exact ⟨qdm x o,Zhl (st:=fun (x:tx)=>X5) (prj:=fun x=>(x.1,x.2.1,x.2.2.1,x.2.2.2.1,x.2.2.2.2.1,x.2.2.2.2.2)) (emb:=qdo) (embO:=qdm) (fun x=>(qdp x).trans (by unfold X5 X8;simp only [Zhd,Zh8,Zhe,Option.map_some,Option.map_none];rfl)) (fun _ _=>rfl) (fun _ _=>rfl) (fun _ _ _=>rfl) (fun _ _ _=>rfl) (fun _=>rfl) (Z1S.1 h1),by
  first
  | exact h2
  | (rcases o with o<;>exact h2)⟩
noncomputable def qds {R:Type}:Z27 S R:=LE.ls X qdl qdn qdg
theorem qdt {R:Type}:Z3J X (qds (R:=R)):=Zhq xok qd3 (e:=qdl) qcY qdh qdr qdh
theorem qdu (x:tH):PE.step X qd1 qd2 qcX qds 12 x=Xn x.1 x.2.1 x.2.2.1 x.2.2.2:=by kernel_rfl
theorem qdv:ZaX X qd1 Wc:=Zhr (ZgU xok qd3 qcY qdt 12) fun x _ h=>((qdu x).trans (X2m x).symm).trans h
noncomputable def qdw {R:Type}:Prs S R:=PE.ps X qd1 (fun x q=>(Wc x).bind q) qcX
theorem qdx {R:Type}:Z7R X (qdw (R:=R)):=Zhi (e:=qd1) qdv qcY
noncomputable def qdy:List (Nat×F7 S):=[(76,q92),(41,q7x),(61,q9t),(38,qaj)]
theorem qdz:Z9n X (qdy):=⟨q93,q7y,q9u,qak,trivial⟩
abbrev qdA {R:Type}:Z27 S R:=Zgi
theorem qdB {R:Type}:Z3J X (qdA (R:=R)):=ZgQ X
theorem qdC (x0:ZJ) (x1:List Zm):Zhs X qdy [(.st 20),(.sl (.st 21))] [(.sl (.st 2)),(.int .i64)] qdw qdA 12 11 (x0,x1,())=X1B x0 x1:=by kernel_rfl
noncomputable def qdD:F7 S:=⟨[(.st 20),(.sl (.st 21))],[(.sl (.st 2)),(.int .i64)],fun xs=>X3R xs.1 xs.2.1⟩
theorem qdE:Z7Q X 11 qdD:=Zho (Zhn xok qdz qdx qdB 12 11) fun xs _ h=>((qdC xs.1 xs.2.1).trans (X4C xs.1 xs.2.1).symm).trans h
def qdF:StT S:=⟨(N (N (N L vK L) vr L) (some .nilp) (N L vK L)),L,0⟩
def qdG:PE S:=⟨42,4,qdF,[.int,(.st 2),.int],[]⟩
noncomputable def qdH:List (Nat×F7 S):=[(38,qaj),(41,q7x)]
theorem qdI:Z9n X qdH:=⟨qak,q7y,trivial⟩
abbrev qdJ {R:Type}:Z27 S R:=Zgi
theorem qdK {R:Type}:Z3J X (qdJ (R:=R)):=ZgQ X
theorem qdL (x:(Int×Zu×Int)):PE.step X qdG qdH qdw qdJ 12 x=X11 x.1 x.2.1 x.2.2:=by kernel_rfl
theorem qdM:ZaX X qdG X2W:=Zhr (ZgU xok qdI qdx qdK 12) fun x _ h=>((qdL x).trans (X4H x).symm).trans h
noncomputable def qdN {R:Type}:Prs S R:=PE.ps X qdG (fun x q=>(X2W x).bind q) qdw
theorem qdO {R:Type}:Z7R X (qdN (R:=R)):=Zhi (e:=qdG) qdM qdx
def qdP:StT S:=⟨(N L (some .nilp) L),L,0⟩
def qdQ:PE S:=⟨46,1,qdP,[],[]⟩
noncomputable def qdR:List (Nat×F7 S):=[]
theorem qdS:Z9n X qdR:=trivial
abbrev qdT {R:Type}:Z27 S R:=Zgi
theorem qdU {R:Type}:Z3J X (qdT (R:=R)):=ZgQ X
theorem qdV (x:Unit):PE.step X qdQ qdR qdN qdT 12 x=XV:=by kernel_rfl
theorem qdW:ZaX X qdQ X1Q:=Zhr (ZgU xok qdS qdO qdU 12) fun x _ h=>((qdV x).trans (X3T x).symm).trans h
noncomputable def qdX {R:Type}:Prs S R:=PE.ps X qdQ (fun x q=>(X1Q x).bind q) qdN
theorem qdY {R:Type}:Z7R X (qdX (R:=R)):=Zhi (e:=qdQ) qdW qdO
def qdZ:StT S:=⟨(N L (some (.ptr 1 0)) L),(N (N L o3 L) oo L),2⟩
def qe0:Way S:=⟨.ret,⟨(N L vK L),(N (N L o3 L) oo L),2⟩,[.int,(.st 20),(.lst (.st 21)),.en,(.mp (.st 23) (.int .i64))]⟩
def qe1:PE S:=⟨46,1,qdZ,[(.st 20),(.lst (.st 21)),.en,(.mp (.st 23) (.int .i64))],[qe0]⟩
noncomputable def qe2:List (Nat×F7 S):=[]
theorem qe3:Z9n X qe2:=trivial
abbrev qe4 {R:Type}:Z27 S R:=Zgi
theorem qe5 {R:Type}:Z3J X (qe4 (R:=R)):=ZgQ X
def qe6:Key:=⟨[46],46,none,[0,0,1,0,1],0,9⟩
def qe7:StT S:=⟨(N v1r (some (.ptr 1 0)) (N (N L none (N L vK L)) vK (N (N L vI L) none L))),(N (N L o3 L) oo L),9⟩
def qe8:Way S:=⟨(.exit 0),⟨(N L none (N L vK L)),(N (N L o3 L) oo L),10⟩,[.int,(.st 20),(.lst (.st 21)),.en,(.mp (.st 23) (.int .i64))]⟩
def qe9:LE S:=⟨qe6,qe7,[.int,.int,.int,(.lst (.st 21)),(.st 20),(.lst (.st 21)),.en,(.mp (.st 23) (.int .i64))],[qe8]⟩
def qea (x:to):Int→tC:=fun y0=>(y0,x.2.2.2.2.1,x.2.2.2.2.2.1,x.2.2.2.2.2.2.1,x.2.2.2.2.2.2.2)
noncomputable def qeb {R:Type} (x:to) (k:tC→Option R):Option R:=(X1D x.1 x.2.2.2.1 x.2.2.2.2.1 x.2.2.2.2.2.2.1 (x.2.1,x.2.2.1)).bind (fun y0=>k (y0,x.2.2.2.2.1,x.2.2.2.2.2.1,x.2.2.2.2.2.2.1,x.2.2.2.2.2.2.2))
def qec (x:to) (v:(Int×Int)):to:=(x.1,v.1,v.2,x.2.2.2.1,x.2.2.2.2.1,x.2.2.2.2.2.1,x.2.2.2.2.2.2.1,x.2.2.2.2.2.2.2)
theorem qed (x:to):LE.step X qe9 qe2 qdX qe4 12 x=Wp x.1 x.2.2.2.1 x.2.2.2.2.1 x.2.2.2.2.2.2.1 x.2.1 x.2.2.1 (fun w0 w1=>(Sum.inl (x.1,w0,w1,x.2.2.2.1,x.2.2.2.2.1,x.2.2.2.2.2.1,x.2.2.2.2.2.2.1,x.2.2.2.2.2.2.2))) (fun p0=>(Sum.inr (p0,x.2.2.2.2.1,x.2.2.2.2.2.1,x.2.2.2.2.2.2.1,x.2.2.2.2.2.2.2))):=by kernel_rfl
theorem qef {R:Type} (x:to) (k:tC→Option R) (r:R) (h:qeb x k=some r):∃ o,Z5s (LE.step X qe9 qe2 qdX qe4 12) x o∧k o=some r:=by
 obtain ⟨o,h1,h2⟩:=Z0 h
 exact ⟨qea x o,Zhl (st:=fun (x:to)=>WI x.1 x.2.2.2.1 x.2.2.2.2.1 x.2.2.2.2.2.2.1) (prj:=fun x=>(x.2.1,x.2.2.1)) (emb:=qec) (embO:=qea) (fun x=>(qed x).trans (by unfold WI Wp;simp only [Zhd,Zh8,Zhe,Option.map_some,Option.map_none];rfl)) (fun _ _=>rfl) (fun _ _=>rfl) (fun _ _ _=>rfl) (fun _ _ _=>rfl) (fun _=>rfl) (Z1S.1 h1),by
  first
  | exact h2
  | (rcases o with o<;>exact h2)⟩
noncomputable def qeg {R:Type}:Z27 S R:=LE.ls X qe9 qeb qe4
theorem qeh {R:Type}:Z3J X (qeg (R:=R)):=Zhq xok qe3 (e:=qe9) qdY qe5 qef qe5
theorem qei (x:tH):PE.step X qe1 qe2 qdX qeg 12 x=XW x.1 x.2.1 x.2.2.1 x.2.2.2:=by kernel_rfl
theorem qej:ZaX X qe1 X1R:=Zhr (ZgU xok qe3 qdY qeh 12) fun x _ h=>((qei x).trans (X3U x).symm).trans h
noncomputable def qek {R:Type}:Prs S R:=PE.ps X qe1 (fun x q=>(X1R x).bind q) qdX
theorem qel {R:Type}:Z7R X (qek (R:=R)):=Zhi (e:=qe1) qej qdY
def qem:StT S:=⟨(N (N L vK L) (some (.ptr 1 0)) L),(N (N L o3 L) oo L),2⟩
def qen:Way S:=⟨.ret,⟨(N L vL L),(N (N L o3 L) oo L),2⟩,[.bool,(.st 20),(.lst (.st 21)),.en,(.mp (.st 23) (.int .i64))]⟩
def qeo:PE S:=⟨48,2,qem,[.int,(.st 20),(.lst (.st 21)),.en,(.mp (.st 23) (.int .i64))],[qen]⟩
noncomputable def qep:List (Nat×F7 S):=[(38,qaj),(41,q7x)]
theorem qeq:Z9n X qep:=⟨qak,q7y,trivial⟩
abbrev qer {R:Type}:Z27 S R:=Zgi
theorem qes {R:Type}:Z3J X (qer (R:=R)):=ZgQ X
def qet:Key:=⟨[80,0,48],80,none,[0,0,1,0,0,1,0,0,1],2,44⟩
def qeu:StT S:=⟨(N (N (N L vK L) (some (.ptr 18 0)) L) (some (.yld 22)) (N (N L vK L) none L)),oY,44⟩
def qev:Way S:=⟨.ret,⟨L,oM,94⟩,[.int,(.st 20),(.lst (.st 21)),.en,(.arr (.st 5)),(.st 2),(.mp (.st 23) (.int .i64)),.bool,.int,.int]⟩
def qew:Way S:=⟨(.exit 2),⟨v1a,oY,51⟩,[.int,.int,(.st 20),(.lst (.st 21)),.en,(.mp (.st 23) (.int .i64)),.bool,.int,.int]⟩
def qex:LE S:=⟨qet,qeu,[.int,.int,.int,(.st 20),(.lst (.st 21)),.en,(.mp (.st 23) (.int .i64)),.bool,.int,.int],[qev,qew]⟩
def qey (x:tm):((ZJ×(List Zm)×(Nat→Nat)×(Nat→ZE)×Zu×t16×Bool)⊕tH)→t5:=Sum.elim (fun y0=>(.inl (x.2.2.1,y0.1,y0.2.1,y0.2.2.1,y0.2.2.2.1,y0.2.2.2.2.1,y0.2.2.2.2.2.1,y0.2.2.2.2.2.2,x.2.2.2.2.2.2.2.2.1,x.2.2.2.2.2.2.2.2.2))) (fun y1=>(.inr (x.1,x.2.2.1,y1.1,y1.2.1,y1.2.2.1,y1.2.2.2,x.2.2.2.2.2.2.2.1,x.2.2.2.2.2.2.2.2.1,x.2.2.2.2.2.2.2.2.2)))
noncomputable def qez {R:Type} (x:tm) (k:t5→Option R):Option R:=(X1v x.1 x.2.2.1 x.2.2.2.2.2.2.2.2.2 (x.2.1,x.2.2.2.1,x.2.2.2.2.1,x.2.2.2.2.2.1,x.2.2.2.2.2.2.1)).bind (Sum.elim (fun y0=>k (.inl (x.2.2.1,y0.1,y0.2.1,y0.2.2.1,y0.2.2.2.1,y0.2.2.2.2.1,y0.2.2.2.2.2.1,y0.2.2.2.2.2.2,x.2.2.2.2.2.2.2.2.1,x.2.2.2.2.2.2.2.2.2))) (fun y1=>k (.inr (x.1,x.2.2.1,y1.1,y1.2.1,y1.2.2.1,y1.2.2.2,x.2.2.2.2.2.2.2.1,x.2.2.2.2.2.2.2.2.1,x.2.2.2.2.2.2.2.2.2))))
def qeA (x:tm) (v:tC):tm:=(x.1,v.1,x.2.2.1,v.2.1,v.2.2.1,v.2.2.2.1,v.2.2.2.2,x.2.2.2.2.2.2.2.1,x.2.2.2.2.2.2.2.2.1,x.2.2.2.2.2.2.2.2.2)
theorem qeB (x:tm):LE.step X qex qep qek qer 12 x=W8 x.1 x.2.2.1 x.2.2.2.2.2.2.2.2.2 x.2.1 x.2.2.2.1 x.2.2.2.2.1 x.2.2.2.2.2.1 x.2.2.2.2.2.2.1 (fun w0 w1 w2 w3 w4=>(Sum.inl (x.1,w0,x.2.2.1,w1,w2,w3,w4,x.2.2.2.2.2.2.2.1,x.2.2.2.2.2.2.2.2.1,x.2.2.2.2.2.2.2.2.2))) (fun p0 p1 p2 p3 p4 p5 p6=>(Sum.inr (.inl (x.2.2.1,p0,p1,p2,p3,p4,p5,p6,x.2.2.2.2.2.2.2.2.1,x.2.2.2.2.2.2.2.2.2)))) (fun p0 p1 p2 p3=>(Sum.inr (.inr (x.1,x.2.2.1,p0,p1,p2,p3,x.2.2.2.2.2.2.2.1,x.2.2.2.2.2.2.2.2.1,x.2.2.2.2.2.2.2.2.2)))):=by kernel_rfl
theorem qeD {R:Type} (x:tm) (k:t5→Option R) (r:R) (h:qez x k=some r):∃ o,Z5s (LE.step X qex qep qek qer 12) x o∧k o=some r:=by
 obtain ⟨o,h1,h2⟩:=Z0 h
 exact ⟨qey x o,Zhl (st:=fun (x:tm)=>Wx x.1 x.2.2.1 x.2.2.2.2.2.2.2.2.2) (prj:=fun x=>(x.2.1,x.2.2.2.1,x.2.2.2.2.1,x.2.2.2.2.2.1,x.2.2.2.2.2.2.1)) (emb:=qeA) (embO:=qey) (fun x=>(qeB x).trans (by unfold Wx W8;simp only [Zhd,Zh8,Zhe,Option.map_some,Option.map_none];rfl)) (fun _ _=>rfl) (fun _ _=>rfl) (fun _ _ _=>rfl) (fun _ _ _=>rfl) (fun _=>rfl) (Z1S.1 h1),by
  first
  | exact h2
  | (rcases o with o|o<;>exact h2)⟩
noncomputable def qeE {R:Type}:Z27 S R:=LE.ls X qex qez qer
theorem qeF {R:Type}:Z3J X (qeE (R:=R)):=Zhq xok qeq (e:=qex) qel qes qeD qes
def qeG:Key:=⟨[80,0,48],80,none,[0,0,1],0,30⟩
def qeH:StT S:=⟨v1a,oY,30⟩
def qeI:Way S:=⟨.ret,⟨L,oM,94⟩,[.int,(.st 20),(.lst (.st 21)),.en,(.arr (.st 5)),(.st 2),(.mp (.st 23) (.int .i64)),.bool,.int,.int]⟩
def qeJ:Way S:=⟨(.exit 0),⟨L,oY,37⟩,[.int,(.st 20),(.lst (.st 21)),.en,(.mp (.st 23) (.int .i64)),.bool,.int,.int]⟩
def qeK:LE S:=⟨qeG,qeH,[.int,.int,(.st 20),(.lst (.st 21)),.en,(.mp (.st 23) (.int .i64)),.bool,.int,.int],[qeI,qeJ]⟩
def qeL (x:tp):((ZJ×(List Zm)×(Nat→Nat)×(Nat→ZE)×Zu×t16×Bool)⊕tH)→t7:=Sum.elim (fun y0=>(.inl (x.2.1,y0.1,y0.2.1,y0.2.2.1,y0.2.2.2.1,y0.2.2.2.2.1,y0.2.2.2.2.2.1,y0.2.2.2.2.2.2,x.2.2.2.2.2.2.2.1,x.2.2.2.2.2.2.2.2))) (fun y1=>(.inr (x.2.1,y1.1,y1.2.1,y1.2.2.1,y1.2.2.2,x.2.2.2.2.2.2.1,x.2.2.2.2.2.2.2.1,x.2.2.2.2.2.2.2.2)))
noncomputable def qeM {R:Type} (x:tp) (k:t7→Option R):Option R:=(X1u x.2.1 x.2.2.2.2.2.2.2.2 (x.1,x.2.2.1,x.2.2.2.1,x.2.2.2.2.1,x.2.2.2.2.2.1)).bind (Sum.elim (fun y0=>k (.inl (x.2.1,y0.1,y0.2.1,y0.2.2.1,y0.2.2.2.1,y0.2.2.2.2.1,y0.2.2.2.2.2.1,y0.2.2.2.2.2.2,x.2.2.2.2.2.2.2.1,x.2.2.2.2.2.2.2.2))) (fun y1=>k (.inr (x.2.1,y1.1,y1.2.1,y1.2.2.1,y1.2.2.2,x.2.2.2.2.2.2.1,x.2.2.2.2.2.2.2.1,x.2.2.2.2.2.2.2.2))))
def qeN (x:tp) (v:tC):tp:=(v.1,x.2.1,v.2.1,v.2.2.1,v.2.2.2.1,v.2.2.2.2,x.2.2.2.2.2.2.1,x.2.2.2.2.2.2.2.1,x.2.2.2.2.2.2.2.2)
theorem qeO (x:tp):LE.step X qeK qep qek qeE 12 x=W7 x.2.1 x.2.2.2.2.2.2.2.2 x.1 x.2.2.1 x.2.2.2.1 x.2.2.2.2.1 x.2.2.2.2.2.1 (fun w0 w1 w2 w3 w4=>(Sum.inl (w0,x.2.1,w1,w2,w3,w4,x.2.2.2.2.2.2.1,x.2.2.2.2.2.2.2.1,x.2.2.2.2.2.2.2.2))) (fun p0 p1 p2 p3 p4 p5 p6=>(Sum.inr (.inl (x.2.1,p0,p1,p2,p3,p4,p5,p6,x.2.2.2.2.2.2.2.1,x.2.2.2.2.2.2.2.2)))) (fun p0 p1 p2 p3=>(Sum.inr (.inr (x.2.1,p0,p1,p2,p3,x.2.2.2.2.2.2.1,x.2.2.2.2.2.2.2.1,x.2.2.2.2.2.2.2.2)))):=by kernel_rfl
theorem qeQ {R:Type} (x:tp) (k:t7→Option R) (r:R) (h:qeM x k=some r):∃ o,Z5s (LE.step X qeK qep qek qeE 12) x o∧k o=some r:=by
 obtain ⟨o,h1,h2⟩:=Z0 h
 exact ⟨qeL x o,Zhl (st:=fun (x:tp)=>Ww x.2.1 x.2.2.2.2.2.2.2.2) (prj:=fun x=>(x.1,x.2.2.1,x.2.2.2.1,x.2.2.2.2.1,x.2.2.2.2.2.1)) (emb:=qeN) (embO:=qeL) (fun x=>(qeO x).trans (by unfold Ww W7;simp only [Zhd,Zh8,Zhe,Option.map_some,Option.map_none];rfl)) (fun _ _=>rfl) (fun _ _=>rfl) (fun _ _ _=>rfl) (fun _ _ _=>rfl) (fun _=>rfl) (Z1S.1 h1),by
  first
  | exact h2
  | (rcases o with o|o<;>exact h2)⟩
noncomputable def qeR {R:Type}:Z27 S R:=LE.ls X qeK qeM qeE
theorem qeS {R:Type}:Z3J X (qeR (R:=R)):=Zhq xok qeq (e:=qeK) qel qeF qeQ qeF
theorem qeT (x:tC):PE.step X qeo qep qek qeR 12 x=XJ x.1 x.2.1 x.2.2.1 x.2.2.2.1 x.2.2.2.2:=by kernel_rfl
theorem qeU:ZaX X qeo WV:=Zhr (ZgU xok qeq qel qeS 12) fun x _ h=>((qeT x).trans (X3J x).symm).trans h
noncomputable def qeV {R:Type}:Prs S R:=PE.ps X qeo (fun x q=>(WV x).bind q) qek
theorem qeW {R:Type}:Z7R X (qeV (R:=R)):=Zhi (e:=qeo) qeU qel
def qeX:StT S:=⟨(N (N (N L (some (.ptr 4 0)) L) vK (N L (some (.ptr 0 0)) L)) vK (N (N L (some (.ptr 1 0)) L) vK L)),o1h,5⟩
def qeY:Way S:=⟨.ret,⟨(N L (some (.tup [(.int .i64 0),(.bool false)])) L),o1h,5⟩,[.int,.bool,(.st 20),(.lst (.st 21)),.en,.int,(.mp (.st 23) (.int .i64))]⟩
def qeZ:PE S:=⟨47,6,qeX,[.int,.int,.int,(.st 20),(.lst (.st 21)),.en,.int,(.mp (.st 23) (.int .i64))],[qeY]⟩
noncomputable def qf0:List (Nat×F7 S):=[(38,qaj),(41,q7x)]
theorem qf1:Z9n X qf0:=⟨qak,q7y,trivial⟩
abbrev qf2 (ih:tt→Option ty) {R:Type}:Z27 S R:=Zgi
theorem qf3 (ih:tt→Option ty) (hih:ZaX X qeZ ih) {R:Type}:Z3J X (qf2 ih (R:=R)):=ZgQ X
def qf4:Key:=⟨[47],47,none,[0,0,1,0,1,1],0,11⟩
def qf5:StT S:=⟨(N (N (N L none (N L vK L)) none (N L (some (.ptr 0 0)) L)) vK (N (N L (some (.ptr 1 0)) L) vK L)),o1h,11⟩
def qf6:Way S:=⟨.ret,⟨(N v1l none (N L none (N (N L vL L) none L))),o1h,39⟩,[.int,.bool,(.st 20),(.lst (.st 21)),.en,.int,(.mp (.st 23) (.int .i64))]⟩
def qf7:Way S:=⟨(.exit 0),⟨L,o1h,15⟩,[(.st 20),(.lst (.st 21)),.en,.int,(.mp (.st 23) (.int .i64))]⟩
def qf8:LE S:=⟨qf4,qf5,[.int,.int,.int,(.st 20),(.lst (.st 21)),.en,.int,(.mp (.st 23) (.int .i64))],[qf6,qf7]⟩
def qf9 (x:tv):tc→tc:=Sum.elim (fun y0=>(.inl (y0.1,y0.2.1,y0.2.2.1,y0.2.2.2.1,y0.2.2.2.2.1,y0.2.2.2.2.2.1,y0.2.2.2.2.2.2))) (fun y1=>(.inr (y1.1,y1.2.1,y1.2.2.1,y1.2.2.2.1,y1.2.2.2.2)))
noncomputable def qfa (ih:tt→Option ty) {R:Type} (x:tv) (k:tc→Option R):Option R:=(X2E ih x.2.1 x.2.2.1 (x.1,x.2.2.2.1,x.2.2.2.2.1,x.2.2.2.2.2.1,x.2.2.2.2.2.2.1,x.2.2.2.2.2.2.2)).bind (Sum.elim (fun y0=>k (.inl (y0.1,y0.2.1,y0.2.2.1,y0.2.2.2.1,y0.2.2.2.2.1,y0.2.2.2.2.2.1,y0.2.2.2.2.2.2))) (fun y1=>k (.inr (y1.1,y1.2.1,y1.2.2.1,y1.2.2.2.1,y1.2.2.2.2))))
def qfb (x:tv) (v:(Int×ZJ×(List Zm)×(Nat→Nat)×Int×t16)):tv:=(v.1,x.2.1,x.2.2.1,v.2.1,v.2.2.1,v.2.2.2.1,v.2.2.2.2.1,v.2.2.2.2.2)
theorem qfc (ih:tt→Option ty) (x:tv):LE.step X qf8 qf0 (PE.ps X qeZ (fun x q=>(ih x).bind q) qeV) (qf2 ih) 12 x=X1f ih x.2.1 x.2.2.1 x.1 x.2.2.2.1 x.2.2.2.2.1 x.2.2.2.2.2.1 x.2.2.2.2.2.2.1 x.2.2.2.2.2.2.2 (fun w0 w1 w2 w3 w4 w5=>(Sum.inl (w0,x.2.1,x.2.2.1,w1,w2,w3,w4,w5))) (fun p0 p1 p2 p3 p4 p5 p6=>(Sum.inr (.inl (p0,p1,p2,p3,p4,p5,p6)))) (fun p0 p1 p2 p3 p4=>(Sum.inr (.inr (p0,p1,p2,p3,p4)))):=by kernel_rfl
theorem qfe (ih:tt→Option ty) {R:Type} (x:tv) (k:tc→Option R) (r:R) (h:qfa ih x k=some r):∃ o,Z5s (LE.step X qf8 qf0 (PE.ps X qeZ (fun x q=>(ih x).bind q) qeV) (qf2 ih) 12) x o∧k o=some r:=by
 obtain ⟨o,h1,h2⟩:=Z0 h
 exact ⟨qf9 x o,Zhl (st:=fun (x:tv)=>X1C ih x.2.1 x.2.2.1) (prj:=fun x=>(x.1,x.2.2.2.1,x.2.2.2.2.1,x.2.2.2.2.2.1,x.2.2.2.2.2.2.1,x.2.2.2.2.2.2.2)) (emb:=qfb) (embO:=qf9) (fun x=>(qfc ih x).trans (by unfold X1C X1f;simp only [Zhd,Zh8,Zhe,Option.map_some,Option.map_none];rfl)) (fun _ _=>rfl) (fun _ _=>rfl) (fun _ _ _=>rfl) (fun _ _ _=>rfl) (fun _=>rfl) (Z1S.1 h1),by
  first
  | exact h2
  | (rcases o with o|o<;>exact h2)⟩
noncomputable def qff (ih:tt→Option ty) {R:Type}:Z27 S R:=LE.ls X qf8 (qfa ih) (qf2 ih)
theorem qfg (ih:tt→Option ty) (hih:ZaX X qeZ ih) {R:Type}:Z3J X (qff ih (R:=R)):=Zhq xok qf1 (e:=qf8) (Zhi (e:=qeZ) hih qeW) (qf3 ih hih) (qfe ih) (qf3 ih hih)
theorem qfh (ih:tt→Option ty) (x:tv):PE.step X qeZ qf0 (PE.ps X qeZ (fun x q=>(ih x).bind q) qeV) (qff ih) 12 x=X38 ih x.1 x.2.1 x.2.2.1 x.2.2.2.1 x.2.2.2.2.1 x.2.2.2.2.2.1 x.2.2.2.2.2.2.1 x.2.2.2.2.2.2.2:=by kernel_rfl
theorem qfi:ZaX X qeZ X4d:=Zhj (X:=X) (e:=qeZ) (t:=X39) fun ih hih=>Zhr (ZgU xok qf1 (Zhi (e:=qeZ) hih qeW) (qfg ih hih) 12) fun x _ h=>(qfh ih x).trans h
noncomputable def qfj {R:Type}:Prs S R:=PE.ps X qeZ (fun x q=>(X4d x).bind q) qeV
theorem qfk {R:Type}:Z7R X (qfj (R:=R)):=Zhi (e:=qeZ) qfi qeW
noncomputable def qfl:List (Nat×F7 S):=[]
theorem qfm:Z9n X (qfl):=trivial
abbrev qfn {R:Type}:Z27 S R:=Zgi
theorem qfo {R:Type}:Z3J X (qfn (R:=R)):=ZgQ X
def qfp:Key:=⟨[63],63,none,[0,0,1,0,1,1,1],0,9⟩
def qfq:StT S:=⟨(N (N (N L vK L) none L) (some (.sl (.int .i64) [])) (N (N L vK L) none L)),L,9⟩
def qfr:Way S:=⟨(.exit 0),⟨v1m,L,13⟩,[.int]⟩
def qfs:LE S:=⟨qfp,qfq,[.int,(.lst (.int .i64)),.int],[qfr]⟩
def qft (x:t15):Int→Int:=fun y0=>y0
noncomputable def qfu {R:Type} (x:t15) (k:Int→Option R):Option R:=(X1O x.2.1 (x.1,x.2.2)).bind (fun y0=>k y0)
def qfv (x:t15) (v:(Int×Int)):t15:=(v.1,x.2.1,v.2)
theorem qfw (x:t15):LE.step X qfs qfl qfj qfn 12 x=WD x.2.1 x.1 x.2.2 (fun w0 w1=>(Sum.inl (w0,x.2.1,w1))) (fun p0=>(Sum.inr p0)):=by kernel_rfl
theorem qfy {R:Type} (x:t15) (k:Int→Option R) (r:R) (h:qfu x k=some r):∃ o,Z5s (LE.step X qfs qfl qfj qfn 12) x o∧k o=some r:=by
 obtain ⟨o,h1,h2⟩:=Z0 h
 exact ⟨qft x o,Zhl (st:=fun (x:t15)=>WY x.2.1) (prj:=fun x=>(x.1,x.2.2)) (emb:=qfv) (embO:=qft) (fun x=>(qfw x).trans (by unfold WY WD;simp only [Zhd,Zh8,Zhe,Option.map_some,Option.map_none];rfl)) (fun _ _=>rfl) (fun _ _=>rfl) (fun _ _ _=>rfl) (fun _ _ _=>rfl) (fun _=>rfl) (Z1S.1 h1),by
  first
  | exact h2
  | (rcases o with o<;>exact h2)⟩
noncomputable def qfz {R:Type}:Z27 S R:=LE.ls X qfs qfu qfn
theorem qfA {R:Type}:Z3J X (qfz (R:=R)):=Zhq xok qfm (e:=qfs) qfk qfo qfy qfo
theorem qfB (x0:List Int):Zhs X qfl [(.sl (.int .i64))] [(.int .i64)] qfj qfz 12 63 (x0,())=Wq x0:=by kernel_rfl
noncomputable def qfC:F7 S:=⟨[(.sl (.int .i64))],[(.int .i64)],fun xs=>X27 xs.1⟩
theorem qfD:Z7Q X 63 qfC:=Zho (Zhn xok qfm qfk qfA 12 63) fun xs _ h=>((qfB xs.1).trans (X48 xs.1).symm).trans h
def qfE:StT S:=⟨(N (N (N L vK L) vJ L) (some (.ptr 1 0)) (N L vK L)),(N (N L o3 L) oo L),2⟩
def qfF:Way S:=⟨.ret,⟨(N L vK L),(N (N L o3 L) oo L),2⟩,[.int,(.st 20),(.lst (.st 21)),.en,(.mp (.st 23) (.int .i64))]⟩
def qfG:PE S:=⟨50,4,qfE,[.int,(.lst (.st 2)),.int,(.st 20),(.lst (.st 21)),.en,(.mp (.st 23) (.int .i64))],[qfF]⟩
noncomputable def qfH:List (Nat×F7 S):=[(38,qaj),(41,q7x),(63,qfC)]
theorem qfI:Z9n X qfH:=⟨qak,q7y,qfD,trivial⟩
abbrev qfJ {R:Type}:Z27 S R:=Zgi
theorem qfK {R:Type}:Z3J X (qfJ (R:=R)):=ZgQ X
def qfL:Key:=⟨[50],50,none,[0,0,1,1,1,1,1,0,0,1,1,0,0,1,0,1,1],2,39⟩
def qfM:StT S:=⟨(N (N (N L vK v1l) none (N (N (N L vK L) (some (.ptr 3 0)) L) none L)) (some (.ptr 1 0)) (N (N (N (N L vJ L) none L) none (N L (some (.ptr 18 0)) (N (N L vK L) none L))) vK (N (N (N L vK L) none L) none (N L vK L)))),o17,39⟩
def qfN:Way S:=⟨(.exit 2),⟨vQ,o17,40⟩,[.int,.int,(.lst (.st 2)),.int,.int,(.arr (.int .i64)),(.st 20),(.lst (.st 21)),.en,(.mp (.st 23) (.int .i64)),(.arr (.st 5)),(.st 2)]⟩
def qfO:LE S:=⟨qfL,qfM,[.int,.int,.int,(.lst (.st 2)),.int,.int,.int,.int,(.arr (.int .i64)),(.st 20),(.lst (.st 21)),.en,(.mp (.st 23) (.int .i64)),(.arr (.st 5)),(.st 2)],[qfN]⟩
def qfP (x:td):(Nat→Int)→te:=fun y0=>(x.1,x.2.2.1,x.2.2.2.1,x.2.2.2.2.2.1,x.2.2.2.2.2.2.1,y0,x.2.2.2.2.2.2.2.2.2.1,x.2.2.2.2.2.2.2.2.2.2.1,x.2.2.2.2.2.2.2.2.2.2.2.1,x.2.2.2.2.2.2.2.2.2.2.2.2.1,x.2.2.2.2.2.2.2.2.2.2.2.2.2.1,x.2.2.2.2.2.2.2.2.2.2.2.2.2.2)
noncomputable def qfQ {R:Type} (x:td) (k:te→Option R):Option R:=(X1U x.1 x.2.1 x.2.2.1 x.2.2.2.1 x.2.2.2.2.2.1 x.2.2.2.2.2.2.1 x.2.2.2.2.2.2.2.1 x.2.2.2.2.2.2.2.2.2.1 x.2.2.2.2.2.2.2.2.2.2.1 x.2.2.2.2.2.2.2.2.2.2.2.1 x.2.2.2.2.2.2.2.2.2.2.2.2.1 x.2.2.2.2.2.2.2.2.2.2.2.2.2.1 x.2.2.2.2.2.2.2.2.2.2.2.2.2.2 (x.2.2.2.2.1,x.2.2.2.2.2.2.2.2.1)).bind (fun y0=>k (x.1,x.2.2.1,x.2.2.2.1,x.2.2.2.2.2.1,x.2.2.2.2.2.2.1,y0,x.2.2.2.2.2.2.2.2.2.1,x.2.2.2.2.2.2.2.2.2.2.1,x.2.2.2.2.2.2.2.2.2.2.2.1,x.2.2.2.2.2.2.2.2.2.2.2.2.1,x.2.2.2.2.2.2.2.2.2.2.2.2.2.1,x.2.2.2.2.2.2.2.2.2.2.2.2.2.2))
def qfR (x:td) (v:(Int×(Nat→Int))):td:=(x.1,x.2.1,x.2.2.1,x.2.2.2.1,v.1,x.2.2.2.2.2.1,x.2.2.2.2.2.2.1,x.2.2.2.2.2.2.2.1,v.2,x.2.2.2.2.2.2.2.2.2.1,x.2.2.2.2.2.2.2.2.2.2.1,x.2.2.2.2.2.2.2.2.2.2.2.1,x.2.2.2.2.2.2.2.2.2.2.2.2.1,x.2.2.2.2.2.2.2.2.2.2.2.2.2.1,x.2.2.2.2.2.2.2.2.2.2.2.2.2.2)
theorem qfS (x:td):LE.step X qfO qfH qfj qfJ 12 x=WH x.1 x.2.1 x.2.2.1 x.2.2.2.1 x.2.2.2.2.2.1 x.2.2.2.2.2.2.1 x.2.2.2.2.2.2.2.1 x.2.2.2.2.2.2.2.2.2.1 x.2.2.2.2.2.2.2.2.2.2.1 x.2.2.2.2.2.2.2.2.2.2.2.1 x.2.2.2.2.2.2.2.2.2.2.2.2.1 x.2.2.2.2.2.2.2.2.2.2.2.2.2.1 x.2.2.2.2.2.2.2.2.2.2.2.2.2.2 x.2.2.2.2.1 x.2.2.2.2.2.2.2.2.1 (fun w0 w1=>(Sum.inl (x.1,x.2.1,x.2.2.1,x.2.2.2.1,w0,x.2.2.2.2.2.1,x.2.2.2.2.2.2.1,x.2.2.2.2.2.2.2.1,w1,x.2.2.2.2.2.2.2.2.2.1,x.2.2.2.2.2.2.2.2.2.2.1,x.2.2.2.2.2.2.2.2.2.2.2.1,x.2.2.2.2.2.2.2.2.2.2.2.2.1,x.2.2.2.2.2.2.2.2.2.2.2.2.2.1,x.2.2.2.2.2.2.2.2.2.2.2.2.2.2))) (fun p0=>(Sum.inr (x.1,x.2.2.1,x.2.2.2.1,x.2.2.2.2.2.1,x.2.2.2.2.2.2.1,p0,x.2.2.2.2.2.2.2.2.2.1,x.2.2.2.2.2.2.2.2.2.2.1,x.2.2.2.2.2.2.2.2.2.2.2.1,x.2.2.2.2.2.2.2.2.2.2.2.2.1,x.2.2.2.2.2.2.2.2.2.2.2.2.2.1,x.2.2.2.2.2.2.2.2.2.2.2.2.2.2))):=by kernel_rfl
theorem qfU {R:Type} (x:td) (k:te→Option R) (r:R) (h:qfQ x k=some r):∃ o,Z5s (LE.step X qfO qfH qfj qfJ 12) x o∧k o=some r:=by
 obtain ⟨o,h1,h2⟩:=Z0 h
 exact ⟨qfP x o,Zhl (st:=fun (x:td)=>X18 x.1 x.2.1 x.2.2.1 x.2.2.2.1 x.2.2.2.2.2.1 x.2.2.2.2.2.2.1 x.2.2.2.2.2.2.2.1 x.2.2.2.2.2.2.2.2.2.1 x.2.2.2.2.2.2.2.2.2.2.1 x.2.2.2.2.2.2.2.2.2.2.2.1 x.2.2.2.2.2.2.2.2.2.2.2.2.1 x.2.2.2.2.2.2.2.2.2.2.2.2.2.1 x.2.2.2.2.2.2.2.2.2.2.2.2.2.2) (prj:=fun x=>(x.2.2.2.2.1,x.2.2.2.2.2.2.2.2.1)) (emb:=qfR) (embO:=qfP) (fun x=>(qfS x).trans (by unfold X18 WH;simp only [Zhd,Zh8,Zhe,Option.map_some,Option.map_none];rfl)) (fun _ _=>rfl) (fun _ _=>rfl) (fun _ _ _=>rfl) (fun _ _ _=>rfl) (fun _=>rfl) (Z1S.1 h1),by
  first
  | exact h2
  | (rcases o with o<;>exact h2)⟩
noncomputable def qfV {R:Type}:Z27 S R:=LE.ls X qfO qfQ qfJ
theorem qfW {R:Type}:Z3J X (qfV (R:=R)):=Zhq xok qfI (e:=qfO) qfk qfK qfU qfK
def qfX:Key:=⟨[50],50,none,[0,0,1,0,1,1],0,7⟩
def qfY:StT S:=⟨vQ,(N (N (N L o6 L) o3 L) oo L),7⟩
def qfZ:Way S:=⟨(.exit 0),⟨(N (N L none v1k) none L),(N (N (N L o6 L) o3 L) oo L),8⟩,[(.arr (.int .i64)),(.st 20),(.lst (.st 21)),.en,(.mp (.st 23) (.int .i64))]⟩
def qg0:LE S:=⟨qfX,qfY,[.int,.int,(.lst (.st 2)),.int,.int,(.arr (.int .i64)),(.st 20),(.lst (.st 21)),.en,(.mp (.st 23) (.int .i64))],[qfZ]⟩
def qg1 (x:tl):tA→tA:=fun y0=>(y0.1,y0.2.1,y0.2.2.1,y0.2.2.2.1,y0.2.2.2.2)
noncomputable def qg2 {R:Type} (x:tl) (k:tA→Option R):Option R:=(X1T x.1 x.2.1 x.2.2.1 x.2.2.2.1 (x.2.2.2.2.1,x.2.2.2.2.2.1,x.2.2.2.2.2.2.1,x.2.2.2.2.2.2.2.1,x.2.2.2.2.2.2.2.2.1,x.2.2.2.2.2.2.2.2.2)).bind (fun y0=>k (y0.1,y0.2.1,y0.2.2.1,y0.2.2.2.1,y0.2.2.2.2))
def qg3 (x:tl) (v:(Int×(Nat→Int)×ZJ×(List Zm)×(Nat→Nat)×t16)):tl:=(x.1,x.2.1,x.2.2.1,x.2.2.2.1,v.1,v.2.1,v.2.2.1,v.2.2.2.1,v.2.2.2.2.1,v.2.2.2.2.2)
theorem qg4 (x:tl):LE.step X qg0 qfH qfj qfV 12 x=WG x.1 x.2.1 x.2.2.1 x.2.2.2.1 x.2.2.2.2.1 x.2.2.2.2.2.1 x.2.2.2.2.2.2.1 x.2.2.2.2.2.2.2.1 x.2.2.2.2.2.2.2.2.1 x.2.2.2.2.2.2.2.2.2 (fun w0 w1 w2 w3 w4 w5=>(Sum.inl (x.1,x.2.1,x.2.2.1,x.2.2.2.1,w0,w1,w2,w3,w4,w5))) (fun p0 p1 p2 p3 p4=>(Sum.inr (p0,p1,p2,p3,p4))):=by kernel_rfl
theorem qg6 {R:Type} (x:tl) (k:tA→Option R) (r:R) (h:qg2 x k=some r):∃ o,Z5s (LE.step X qg0 qfH qfj qfV 12) x o∧k o=some r:=by
 obtain ⟨o,h1,h2⟩:=Z0 h
 exact ⟨qg1 x o,Zhl (st:=fun (x:tl)=>X17 x.1 x.2.1 x.2.2.1 x.2.2.2.1) (prj:=fun x=>(x.2.2.2.2.1,x.2.2.2.2.2.1,x.2.2.2.2.2.2.1,x.2.2.2.2.2.2.2.1,x.2.2.2.2.2.2.2.2.1,x.2.2.2.2.2.2.2.2.2)) (emb:=qg3) (embO:=qg1) (fun x=>(qg4 x).trans (by unfold X17 WG;simp only [Zhd,Zh8,Zhe,Option.map_some,Option.map_none];rfl)) (fun _ _=>rfl) (fun _ _=>rfl) (fun _ _ _=>rfl) (fun _ _ _=>rfl) (fun _=>rfl) (Z1S.1 h1),by
  first
  | exact h2
  | (rcases o with o<;>exact h2)⟩
noncomputable def qg7 {R:Type}:Z27 S R:=LE.ls X qg0 qg2 qfV
theorem qg8 {R:Type}:Z3J X (qg7 (R:=R)):=Zhq xok qfI (e:=qg0) qfk qfW qg6 qfW
theorem qg9 (x:(Int×(List Zu)×Int×ZJ×(List Zm)×(Nat→Nat)×t16)):PE.step X qfG qfH qfj qg7 12 x=WE x.1 x.2.1 x.2.2.1 x.2.2.2.1 x.2.2.2.2.1 x.2.2.2.2.2.1 x.2.2.2.2.2.2:=by kernel_rfl
theorem qga:ZaX X qfG X2k:=Zhr (ZgU xok qfI qfk qg8 12) fun x _ h=>((qg9 x).trans (X4e x).symm).trans h
noncomputable def qgb {R:Type}:Prs S R:=PE.ps X qfG (fun x q=>(X2k x).bind q) qfj
theorem qgc {R:Type}:Z7R X (qgb (R:=R)):=Zhi (e:=qfG) qga qfk
noncomputable def qgd:F7 S:=⟨[],[.bool],fun _=>X5b⟩
theorem qge:Z7Q X 20 qgd:=ZeO (X:=X) (F:=X5b) rfl Zdy
noncomputable def qgf:List (Nat×F7 S):=[]
theorem qgg:Z9n X (qgf):=trivial
abbrev qgh {R:Type}:Z27 S R:=Zgi
theorem qgi {R:Type}:Z3J X (qgh (R:=R)):=ZgQ X
def qgj:Key:=⟨[23],23,none,[0,0,1,0,1],0,3⟩
def qgk:StT S:=⟨(N v1i vJ L),(N L oj L),3⟩
def qgl:Way S:=⟨.ret,⟨(N L none (N (N L vL L) none L)),(N L oj L),14⟩,[.bool,(.st 2)]⟩
def qgm:Way S:=⟨(.exit 0),⟨L,(N L oj L),7⟩,[(.st 2)]⟩
def qgn:LE S:=⟨qgj,qgk,[.int,(.lst (.st 2)),(.st 2)],[qgl,qgm]⟩
def qgo (x:t12):(Bool⊕Unit)→((Bool×Zu)⊕Zu):=Sum.elim (fun y0=>(.inl (y0,x.2.2))) (fun y1=>(.inr x.2.2))
noncomputable def qgp {R:Type} (x:t12) (k:((Bool×Zu)⊕Zu)→Option R):Option R:=(X3L x.2.1 x.2.2 x.1).bind (Sum.elim (fun y0=>k (.inl (y0,x.2.2))) (fun y1=>k (.inr x.2.2)))
def qgq (x:t12) (v:Int):t12:=(v,x.2.1,x.2.2)
theorem qgr (x:t12):LE.step X qgn qgf qgb qgh 12 x=WW x.2.1 x.2.2 x.1 (fun w0=>(Sum.inl (w0,x.2.1,x.2.2))) (fun p0=>(Sum.inr (.inl (p0,x.2.2)))) (Sum.inr (.inr x.2.2)):=by kernel_rfl
theorem qgt {R:Type} (x:t12) (k:((Bool×Zu)⊕Zu)→Option R) (r:R) (h:qgp x k=some r):∃ o,Z5s (LE.step X qgn qgf qgb qgh 12) x o∧k o=some r:=by
 obtain ⟨o,h1,h2⟩:=Z0 h
 exact ⟨qgo x o,Zhl (st:=fun (x:t12)=>WP x.2.1 x.2.2) (prj:=fun x=>x.1) (emb:=qgq) (embO:=qgo) (fun x=>(qgr x).trans (by unfold WP WW;simp only [Zhd,Zh8,Zhe,Option.map_some,Option.map_none];rfl)) (fun _ _=>rfl) (fun _ _=>rfl) (fun _ _ _=>rfl) (fun _ _ _=>rfl) (fun _=>rfl) (Z1S.1 h1),by
  first
  | exact h2
  | (rcases o with o|o<;>exact h2)⟩
noncomputable def qgu {R:Type}:Z27 S R:=LE.ls X qgn qgp qgh
theorem qgv {R:Type}:Z3J X (qgu (R:=R)):=Zhq xok qgg (e:=qgn) qgc qgi qgt qgi
theorem qgw (x0:List Zu) (x1:Zu):Zhs X qgf [(.sl (.st 2)),(.st 2)] [.bool] qgb qgu 12 23 (x0,x1,())=X1V x0 x1:=by kernel_rfl
noncomputable def qgx:F7 S:=⟨[(.sl (.st 2)),(.st 2)],[.bool],fun xs=>X3K xs.1 xs.2.1⟩
theorem qgy:Z7Q X 23 qgx:=Zho (Zhn xok qgg qgc qgv 12 23) fun xs _ h=>((qgw xs.1 xs.2.1).trans (X4S xs.1 xs.2.1).symm).trans h
noncomputable def qgz:List (Nat×F7 S):=[]
theorem qgA:Z9n X (qgz):=trivial
abbrev qgB {R:Type}:Z27 S R:=Zgi
theorem qgC {R:Type}:Z3J X (qgB (R:=R)):=ZgQ X
theorem qgD (x0:ZJ) (x1:Z4):Zhs X qgz [(.st 20),(.st 22)] [(.st 2)] qgb qgB 12 33 (x0,x1,())=X2x x0 x1:=by kernel_rfl
noncomputable def qgE:F7 S:=⟨[(.st 20),(.st 22)],[(.st 2)],fun xs=>X4R xs.1 xs.2.1⟩
theorem qgF:Z7Q X 33 qgE:=Zho (Zhn xok qgA qgc qgC 12 33) fun xs _ h=>((qgD xs.1 xs.2.1).trans (X59 xs.1 xs.2.1).symm).trans h
noncomputable def qgG:List (Nat×F7 S):=[(51,q4q)]
theorem qgH:Z9n X (qgG):=⟨q4r,trivial⟩
abbrev qgI {R:Type}:Z27 S R:=Zgi
theorem qgJ {R:Type}:Z3J X (qgI (R:=R)):=ZgQ X
theorem qgK (x0:ZJ):Zhs X qgG [(.st 20)] [.bool] qgb qgI 12 37 (x0,())=X1q x0:=by kernel_rfl
noncomputable def qgL:F7 S:=⟨[(.st 20)],[.bool],fun xs=>X3t xs.1⟩
theorem qgM:Z7Q X 37 qgL:=Zho (Zhn xok qgH qgc qgJ 12 37) fun xs _ h=>((qgK xs.1).trans (X4j xs.1).symm).trans h
noncomputable def qgN:List (Nat×F7 S):=[(37,qgL),(20,qgd),(11,qdD),(33,qgE),(38,qaj),(23,qgx)]
theorem qgO:Z9n X (qgN):=⟨qgM,qge,qdE,qgF,qak,qgy,trivial⟩
abbrev qgP {R:Type}:Z27 S R:=Zgi
theorem qgQ {R:Type}:Z3J X (qgP (R:=R)):=ZgQ X
theorem qgR (x0:ZJ) (x1:Z4) (x2:Nat→Int):Zhs X qgN [(.st 20),(.st 22),(.arr 2 (.int .u8))] [.bool] qgb qgP 12 10 (x0,x1,x2,())=WA x0 x1 x2:=by kernel_rfl
noncomputable def qgS:F7 S:=⟨[(.st 20),(.st 22),(.arr 2 (.int .u8))],[.bool],fun xs=>X2y xs.1 xs.2.1 xs.2.2.1⟩
theorem X4x:Z7Q X 10 qgS:=Zho (Zhn xok qgO qgc qgQ 12 10) fun xs _ h=>((qgR xs.1 xs.2.1 xs.2.2.1).trans (X3r xs.1 xs.2.1 xs.2.2.1).symm).trans h
end Nore
